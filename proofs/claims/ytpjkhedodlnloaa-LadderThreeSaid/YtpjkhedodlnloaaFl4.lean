/- Field laws: the walk of FieldSteps. -/
import Derived.Test.YtpjkhedodlnloaaFl2
import Derived.Test.YtpjkhedodlnloaaBt
import Derived.Test.YtpjkhedodlnloaaBy
namespace Go.Proofs.Ytpjkhedodlnloaa
open Go.RowKit

end Go.Proofs.Ytpjkhedodlnloaa
