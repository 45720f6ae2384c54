/- ModelWrong: part 15 of its proof: lemmas and contracts, each with its conditions in its own statement; the last part holds the law itself. -/
import Derived.Test.YtgfkgolafkdjfaaGreatDoorJv14
import Derived.WalkSpells
import Derived.WalkKit
import Derived.Deep.CutRange
import Derived.Deep.CutBlock
import Derived.RegionTactic
import Derived.ScopeJumps
import Derived.WalkLawsBesides
import Derived.StillTailTactics
import Derived.ProofKit

set_option maxHeartbeats 4000000
set_option maxRecDepth 100000
namespace Go.Proofs.YtgfkgolafkdjfaaGreatDoor
open Go.RowKit
theorem rtv_lt (a:Nat):Nt.rtv pN eN iN a<pN:=by
 have h:=Nt.rtx_lt (e:=eN) (i:=iN) aX a;unfold Nt.rtv;split
 ·split
  ·have:0<pN:=aX;omega
  ·exact h
 ·exact aX
def zP:Pn:=⟨0,0,0,0⟩
def Dh (y:Nat):Nat:=(y*y%pN+pN-1)%pN*(((dN*(y*y%pN)%pN+1)%pN)^(pN-2)%pN)%pN
def iZ (b:Nat):Pn×Bool:=
 if b%2^255%pN≠b%2^255 then(zP,false)
 else if Nt.rtok pN eN iN (Dh (b%2^255))=false then(zP,false)
 else if b/2^255=1 then
  (if Nt.rtv pN eN iN (Dh (b%2^255))=0 then(zP,false)
  else(⟨(0+pN-Nt.rtv pN eN iN (Dh (b%2^255)))%pN,b%2^255,1,(0+pN-Nt.rtv pN eN iN (Dh (b%2^255)))%pN*(b%2^255)%pN⟩,true))
 else(⟨Nt.rtv pN eN iN (Dh (b%2^255)),b%2^255,1,Nt.rtv pN eN iN (Dh (b%2^255))*(b%2^255)%pN⟩,true)
theorem Ez (b:Nat) (hb:b<256^32) (w:World):
 CB 165 #[.agg (ay b).toArray] w (.tuple #[.agg (iZ b).1.cs.toArray,.bool (iZ b).2]):=by
 have zp:pN<18446744073709551616^4:=zDc;have lim:∀ {n:Nat},n<pN→n<18446744073709551616^4:=fun h=>zA25 h zp;obtain⟨d,hd⟩:=zX (b/256^31%256);have ld:d<256:=hd▸zA1 _ zDc;have a1:=tw d ld;obtain⟨y,hy⟩:=zX (b%2^255);have s1:(ay b).set 31 (.int .u8 ((d%128:Nat):Int))=ay y:=eF zDc hb zOm (by
  rw[hd,←hy];have:b/256^31=d:=zOm;omega)
 have a1':(((d%128:Nat):Int))=(d:Int)%128:=zOm;rw[a1']at s1 a1;have g31:=bH b 31 zDc;rw[hd]at g31;have ly32:y<256^32:=zOm;have ly4:=Ci ly32;obtain⟨o,ho⟩:∃o:Bool,((d:Int)/128==1)=o:=⟨_,rfl⟩;have BY:Hid (o=true↔b/2^255=1):=zH (by rw[←ho,beq_iff_eq];omega);obtain⟨R,hR⟩:=zX (iZ b);rw[hR];unfold iZ at hR;rw[hy]at hR;have c1:=zH (fun w=>ku y ly32 w);have c2:=zH (fun w=>vF y ly4 w);have qy:=fun w=>AK (y%pN) y (Cy _) ly4 w;obtain⟨yp,hyp⟩:=zX (y%pN);rw[hyp]at c2 qy hR;have c3:=fun w=>fJ y y ly4 ly4 w;obtain⟨yy,Vp⟩:=zX (y*y%pN);rw[Vp]at c3;have lyy:yy<pN:=Vp▸zA1 _ aX;have c4:=fun w=>tI yy 1 lyy zDc w;obtain⟨u,hu⟩:=zX ((yy+pN-1)%pN);rw[hu]at c4;have lu:u<pN:=hu▸zA1 _ aX;have c5:=fun w=>fJ dN yy (lim Xk) (lim lyy) w;obtain⟨dy,hdy⟩:=zX (dN*yy%pN);rw[hdy]at c5;have ldy:dy<pN:=hdy▸zA1 _ aX;have c6:=fun w=>H4 dy 1 (lim ldy) zDc w;obtain⟨v,hv⟩:=zX ((dy+1)%pN);rw[hv]at c6;have lv:v<pN:=hv▸zA1 _ aX
 have c7:=fun w=>ta v (lim lv) w;obtain⟨vi,hvi⟩:=zX (v^(pN-2)%pN);rw[hvi]at c7;have lvi:vi<pN:=hvi▸zA1 _ aX;have c8:=fun w=>fJ u vi (lim lu) (lim lvi) w;obtain⟨a,ha⟩:=zX (u*vi%pN);rw[ha]at c8;have la:a<pN:=ha▸zA1 _ aX;have NM:Dh y=a:=(by rw[Dh,Vp,hu,hdy,hv,hvi,ha]);rw[NM]at hR;have c9:=fun w=>KO a la w;have lx0:=rtv_lt a;obtain⟨x0,uB⟩:=zX (Nt.rtv pN eN iN a);obtain⟨ok,ee⟩:=zX (Nt.rtok pN eN iN a);rw[uB,ee]at hR c9;rw[uB]at lx0;have l0:(aw 4 0).toArray=#[.int .u64 0,.int .u64 0,.int .u64 0,.int .u64 0]:=mo 0 zDc;have qz:=fun w=>AK x0 0 (lim lx0) zDc w;have c10:=fun w=>tI 0 x0 zDc lx0 w;rw[l0]at qz c10;obtain⟨x1,qU⟩:=zX ((0+pN-x0)%pN);rw[qU]at c10 hR;have lx1:x1<pN:=qU▸zA1 _ aX;have cM:=zH (fun x (hx:x<pN) w=>fJ x y (lim hx) ly4 w);replace c3:=zH c3;replace c4:=zH c4;replace c5:=zH c5;replace c6:=zH c6;replace c7:=zH c7;replace c8:=zH c8;replace c9:=zH c9;replace c10:=zH c10
 obtain⟨bb,kK⟩:∃x:Bool,decide (yp=y)=x:=⟨_,rfl⟩;rw[kK]at qy;replace kK:=zH kK;replace qy:=zH qy;replace qz:=zH qz;replace hR:=zH hR;replace lx0:=zH lx0;replace lx1:=zH lx1;clear zp lim hd ld hy a1' ly32 ly4 hyp Vp lyy hu lu hdy ldy hv lv hvi lvi ha la NM uB ee l0 qU hb;go_enter Tryz.func165,Tryz.ntmps165;go_upto_region 1 with fail
 refine be (fun W aB k1 k2 kb=>?_);have k2:Arr W (w.heap.size+1) (ui 0 0 0 0):=k2;clear aB;have bo:=k1.cell g31;have bT:=k1.frozen 31;go_upto_region 3 with fail
 refine ck k1 (fun mU k1 ad ak=>?_);have k2:=ad _ _ zOm k2;have kb:=ak _ _ zOm kb;clear ad ak;rw[s1]at k1;clear bo bT a1 ho s1 g31;go_upto_region 3 with(first|refine aR ?_|refine aU ?_)
 go_wp2_with(first|refine aR ?_|refine aU ?_);refine zQ (c1.out _) fun i8 dA=>?_;obtain⟨k1,k2⟩:=fZ k1 k2 dA;have kb:=az kb dA;clear dA;go_upto_region 4 with(first|refine aR ?_|refine aU ?_)
 have fD:=k2.lt;refine aK (fun jF k5 aA=>?_);have k2:=k2.below aA;have kb:=az kb aA;clear aA;generalize (i8).heap.size=tZ at k5 fD⊢;cases bb
 ·skip;go_upto_region 4 with(first|refine aR ?_|refine aU ?_)
  refine cH 9999 4 fun b9=>?_;refine dz ?_ 2 5 zaJ [0,2] (fun w' hB=>by obtain⟨e0,e1⟩:=fZ k2 k5 hB;exact zRd) ?_;refine eg 1 7 b9 c2.out fun m9 di=>?_;refine dz ?_ 0 15 zaK [3] (fun w' hB=>by have eqf1:=qy.out w';exact zRd) ?_;refine ap zKr ?_;obtain⟨k2,k5⟩:=fZ k2 k5 di;have kb:=az kb di;clear di;have hR0:Hid (R=(zP,false)):=zH (by rw[←hR.out,if_pos (of_decide_eq_false kK.out)]);clear c1 c2 c3 c4 c5 c6 c7 c8 c9 c10;exact zdq
 go_upto_region 4 with(first|refine aR ?_|refine aU ?_)
 refine cH 9999 4 fun dV=>?_;refine dz ?_ 2 5 zaL [0,2] (fun w' hB=>by obtain⟨e0,e1⟩:=fZ k2 k5 hB;exact zRd) ?_;refine eg 1 7 dV c2.out fun uG iB=>?_;refine dz ?_ 0 15 zbb [3] (fun w' hB=>by have eqf1:=qy.out w';exact zRd) ?_;refine ap zKr ?_;obtain⟨k2,k5⟩:=fZ k2 k5 iB;have kb:=az kb iB;clear iB;have Vp:Hid (yp=y):=zH (of_decide_eq_true kK.out);go_upto_region 7 with(first|refine aR ?_|refine aU ?_)
 obtain⟨gI,jq⟩:=IP k2 k5;refine aK (fun rY k6 aA=>?_);obtain⟨k2,k5⟩:=fZ k2 k5 aA;have kb:=az kb aA;clear aA;generalize (uG).heap.size=t9 at k6 gI jq⊢;have k6:Arr rY t9 (aw 4 1):=k6;go_upto_region 7 with(first|refine aR ?_|refine aU ?_)
 go_wp2_with(first|refine aR ?_|refine aU ?_);refine zQ (c3.out _) fun xF ya=>?_;obtain⟨k2,k5,k6⟩:=dZ k2 k5 k6 ya;have kb:=az kb ya;clear ya;go_upto_region 8 with(first|refine aR ?_|refine aU ?_)
 obtain⟨ss,sw,BR⟩:=GD k2 k5 k6;refine aK (fun kN k7 aA=>?_);obtain⟨k2,k5,k6⟩:=dZ k2 k5 k6 aA;have kb:=az kb aA;clear aA;generalize (xF).heap.size=wx at k7 ss sw BR⊢;go_upto_region 8 with(first|refine aR ?_|refine aU ?_)
 refine cH 10 12 fun gZ=>?_;refine eZ ?_ 8 83 zaG [0,1,4,6] (fun w' hB=>by obtain⟨e0,e1,e2,e3⟩:=kJ k2 k5 k6 k7 hB;exact zRd) ?_;refine ts 2 1023 [(2,33),(3,34),(5,36),(7,38),(8,8),(9,9)] [(false,[]),(false,[]),(false,[(3,34)]),(false,[(5,36)]),(false,[]),(false,[])] [(2,Ph.is (.agg (aw 4 u).toArray)),(3,Ph.is (.agg (aw 4 dN).toArray)),(5,Ph.is (.agg (aw 4 dy).toArray)),(7,Ph.is (.agg (aw 4 v).toArray)),(8,Ph.arr (kN).heap.size (aw 4 0)),(9,Ph.arr (kN).heap.size (aw 4 0))] zKr zKr zaA ?_ ?_
 ·refine⟨⟨_,rfl,?_⟩,⟨_,rfl,?_⟩,⟨_,rfl,?_⟩,⟨_,rfl,?_⟩,⟨_,rfl,?_⟩,⟨_,rfl,?_⟩,trivial⟩
  ·exact oT c4.out
  ·exact oT Bt
  ·exact DB c5.out
  ·exact DB c6.out
  ·exact zcV
  ·exact zcV
 intro vs ab3 BF Y6 hP hD;obtain⟨q2,q3,q5,q7,q8,q9,-⟩:=hP;simp only[aG,Act.put,zSa,zSz,zSs];rw[show vs 2=_ from q2,show vs 3=_ from q3,show vs 5=_ from q5,show vs 7=_ from q7];clear q2 q3 q5 q7;obtain⟨g8,e8,AM,LG⟩:=q8;rw[e8];obtain⟨g9,e9,kP,Pi⟩:=q9;rw[e9];have ne8_9:g8≠g9:=fun h=>hD 8 9 rfl rfl rfl rfl rfl (by rw[e8,e9,h]);clear e8 e9 hD vs;have aef:=zI4 k2 k5 k6 k7 AM;have aei:=zI4 k2 k5 k6 k7 kP;obtain⟨k2,k5,k6,k7⟩:=kJ k2 k5 k6 k7 BF;have kb:=az kb BF;have k8:=LG;clear LG;generalize g8=xX at*;have k9:=Pi;clear Pi;generalize g9=Ar at*;refine kO 2047 ?_;refine jI k8 (fun tq k8 ad ak=>?_);obtain⟨k2,k5,k6,k7,k9⟩:=zF5 ad k2 k5 k6 k7 k9;have kb:=ak _ _ zOm kb;clear ad ak;refine aY 11 4095 rfl zDk (fun K hK=>?_);refine bJ rfl _ _ _ rfl _ _ rfl rfl _ zAm zLn zLm zOn ?_;refine hK (fun _=>True) _ _ trivial (fun _ h=>h) ?_;clear hK K;try simp only[Act.put]
 refine ap zKr ?_
 first|refine aV k9 (fun rD k9 ad ak=>?_)|refine eu k9 (fun rD k9 ad ak=>?_)
 obtain⟨k2,k5,k6,k7,k8⟩:=zF5 ad k2 k5 k6 k7 k8;have kb:=ak _ _ zOm kb;clear ad ak;go_upto_region 9 with(first|refine aR ?_|refine aU ?_)
 refine cH 9 11 fun iV=>?_;refine eZ ?_ 9 3 (by exact iV) [0,1] (fun w' hB=>by obtain⟨y8,y9⟩:=fZ k8 k9 hB;exact zRd) ?_;refine bG 2 511 [(2,42),(3,43),(4,44),(5,39),(6,45),(7,46),(8,10)] [(false,[]),(false,[(2,42)]),(false,[(3,43)]),(true,[(4,44)]),(true,[(5,39)]),(true,[(5,39)]),(false,[])] [(2,Ph.is (.agg (aw 4 vi).toArray)),(3,Ph.is (.agg (aw 4 a).toArray)),(4,Ph.is (.tuple #[.agg (aw 4 x0).toArray,.bool ok])),(5,Ph.is (.tuple #[.agg (aw 4 x0).toArray,.bool ok])),(6,Ph.is (.agg (aw 4 x0).toArray)),(7,Ph.is (.bool ok)),(8,Ph.arr (rD).heap.size (aw 4 0))] zKr zKr zaA ?_ ?_
 ·refine⟨⟨_,rfl,?_⟩,⟨_,rfl,?_⟩,⟨_,rfl,?_⟩,⟨_,rfl,?_⟩,⟨_,rfl,?_⟩,⟨_,rfl,?_⟩,⟨_,rfl,?_⟩,trivial⟩
  ·exact oT c7.out
  ·exact DB c8.out
  ·exact DB c9.out
  ·intro vs w1 hS hE hD;obtain⟨q4,-⟩:=hD;simp only[aG,Act.put,zSa,zSz,zSs]at⊢;rw[show vs 4=_ from q4]at⊢;clear q4;exact zd2
  ·exact zey
  ·exact zey
  ·exact zcV
 intro vs ajy XD ahg hP hD;obtain⟨q2,q3,q4,q5,q6,q7,q8,-⟩:=hP;simp only[aG,Act.put,zSa,zSz,zSs];rw[show vs 2=_ from q2,show vs 3=_ from q3,show vs 4=_ from q4,show vs 5=_ from q5,show vs 6=_ from q6,show vs 7=_ from q7];clear q2 q3 q4 q5 q6 q7;obtain⟨g8,e8,AM,LG⟩:=q8;rw[e8];clear e8 hD vs;have aiY:=UD k2 k5 k6 AM;obtain⟨k2,k5,k6⟩:=dZ k2 k5 k6 XD;have kb:=az kb XD;refine kO 1023 ?_;refine eZ ?_ 0 2047 zaC [10] (fun _ _=>zRd) ?_;refine ap zKr ?_
 first|refine aV LG (fun uj LG ad ak=>?_)|refine eu LG (fun uj LG ad ak=>?_)
 obtain⟨k2,k5,k6⟩:=Dz ad k2 k5 k6;have kb:=ak _ _ zOm kb;clear ad ak;have k10:=LG;clear LG;generalize g8=pU at*;clear c1 c2 c3 c4 c5 c6 c7 c8 c9;obtain⟨zz,Hz⟩:∃z:Bool,decide (x0=0)=z:=⟨_,rfl⟩;have qz:=qz.out;rw[Hz]at qz;have hR2:R=if ok=false then(zP,false)else if b/2^255=1 then(if x0=0 then(zP,false)else(⟨x1,y,1,x1*y%pN⟩,true))else(⟨x0,y,1,x0*y%pN⟩,true):=(by rw[←hR.out,if_neg (fun h=>h Vp.out)])
 replace Hz:=zH Hz;replace hR2:=zH hR2;clear hR Vp kK qy;cases ok
 ·skip;have hR0:Hid (R=(zP,false)):=zH (by rw[hR2.out,if_pos rfl]);clear c10 cM;exact zdq
 cases o
 ·skip;have hR0:Hid (R=(⟨x0,y,1,x0*y%pN⟩,true)):=zH (by rw[hR2.out,if_neg zDc,if_neg (fun h=>by have:=BY.out.2 h;cases this)]);have cMX:=zH (cM.out x0 lx0.out);obtain⟨X,hXe⟩:=zX x0;rw[hXe]at k10 cMX hR0;clear hXe qz Hz c10 cM hR2 BY;go_upto_region 14 with(first|refine aR ?_|refine aU ?_)
  refine cH 7 9 fun lT=>?_;refine eZ ?_ 4 31 (by exact lT) [0,1,2,3,4] (fun w' hB=>by obtain⟨y5,y6,y10⟩:=dZ k5 k6 k10 hB;exact zRd) ?_;refine eg 5 63 lT cMX.out fun zK nh=>?_;refine tu (A:=?_) 2 127 zKr (by exact nh) [6] zKr ?_ ?_;rotate_left
  ·intro w' hB;iterate 1 (first|(refine db rfl rfl ?_;simp only[Act.put,zSa,zSz,zSs])|(refine bN rfl rfl _ _ rfl _ rfl zDk _ zAm zLn ?_;simp only[Act.put,zSa,zSz,zSs])|(refine dw rfl rfl _ _ rfl (ui X y 1 (X*y%pN)).toArray zKr ?_;simp only[Act.put,zSa,zSz,zSs])|(refine cj (v:=?_) rfl rfl ?_ ?_;rotate_left;(focus (go_simp;try(with_reducible rfl)));simp only[Act.put,zSa,zSz,zSs]))
   exact eo
  have k2:=k2.below nh;have kb:=az kb nh;refine kO 255 ?_;refine eZ ?_ 0 511 zaC [8] (fun _ _=>zRd) ?_;refine ap zKr ?_
  first|refine aV k2 (fun Dm k2 ad ak=>?_)|refine eu k2 (fun Dm k2 ad ak=>?_)
  exact zd1
 have Ae:=BY.out.1 rfl;cases zz
 ·skip;have hR0:Hid (R=(⟨x1,y,1,x1*y%pN⟩,true)):=zH (by rw[hR2.out,if_neg zDc,if_pos Ae,if_neg (of_decide_eq_false Hz.out)]);have cMX:=zH (cM.out x1 lx1.out);obtain⟨X,hXe⟩:=zX x1;rw[hXe]at c10 cMX hR0;clear hXe Hz cM hR2 BY Ae;go_upto_region 13 with(first|refine aR ?_|refine aU ?_)
  go_wp2_with(first|refine aR ?_|refine aU ?_);refine zQ (c10.out _) fun Dn so=>?_;obtain⟨k2,k5,k6,k10⟩:=kJ k2 k5 k6 k10 so;have kb:=az kb so;clear so;go_upto_region 14 with(first|refine aR ?_|refine aU ?_)
  refine ci k10 (fun DV k10 ad ak=>?_);obtain⟨k2,k5,k6⟩:=Dz ad k2 k5 k6;have kb:=ak _ _ zOm kb;clear ad ak;go_upto_region 14 with(first|refine aR ?_|refine aU ?_)
  refine cH 7 9 fun pW=>?_;refine eZ ?_ 4 31 (by exact pW) [0,1,2,3,4] (fun w' hB=>by obtain⟨y5,y6,y10⟩:=dZ k5 k6 k10 hB;exact zRd) ?_;refine eg 5 63 pW cMX.out fun K7 mI=>?_;refine tu (A:=?_) 2 127 zKr (by exact mI) [6] zKr ?_ ?_;rotate_left
  ·intro w' hB;iterate 1 (first|(refine db rfl rfl ?_;simp only[Act.put,zSa,zSz,zSs])|(refine bN rfl rfl _ _ rfl _ rfl zDk _ zAm zLn ?_;simp only[Act.put,zSa,zSz,zSs])|(refine dw rfl rfl _ _ rfl (ui X y 1 (X*y%pN)).toArray zKr ?_;simp only[Act.put,zSa,zSz,zSs])|(refine cj (v:=?_) rfl rfl ?_ ?_;rotate_left;(focus (go_simp;try(with_reducible rfl)));simp only[Act.put,zSa,zSz,zSs]))
   exact eo
  have k2:=k2.below mI;have kb:=az kb mI;refine kO 255 ?_;refine eZ ?_ 0 511 zaC [8] (fun _ _=>zRd) ?_;refine ap zKr ?_
  first|refine aV k2 (fun IJ k2 ad ak=>?_)|refine eu k2 (fun IJ k2 ad ak=>?_)
  exact zd1
 have hR0:Hid (R=(zP,false)):=zH (by rw[hR2.out,if_neg zDc,if_pos Ae,if_pos (of_decide_eq_true Hz.out)]);clear c10 cM hR2 BY Ae;go_upto_region 11 with(refine aR ?_)
 exact zdq
theorem nK {a:Nat} (ha:a<18446744073709551616):(BitVec.ofInt 64 (a:Int)).toNat=a:=by
 rw[BitVec.ofInt_natCast,BitVec.toNat_ofNat];exact zA4 ha
theorem CL {a:Nat} (ha:a<18446744073709551616):IntKind.u64.wrap (a:Int)=(a:Int):=by
 exact ze4
theorem i5 (a:Nat):IntKind.u64.wrap (a:Int)=((a%18446744073709551616:Nat):Int):=by
 exact zeD
theorem iR (z:Int):IntKind.u64.wrap z=z%18446744073709551616:=by
 exact zeD
theorem jY {a b:Nat} (ha:a<18446744073709551616) (hb:b<18446744073709551616):bits .xor .u64 (a:Int) (b:Int)=((a ^^^b:Nat):Int):=by
 show IntKind.u64.wrap ((BitVec.ofInt 64 (a:Int) ^^^BitVec.ofInt 64 (b:Int)).toNat:Int)=_
 rw[BitVec.toNat_xor,nK ha,nK hb];exact CL (zA29 (n:=64) ha hb)
theorem mt {a b:Nat} (ha:a<18446744073709551616) (hb:b<18446744073709551616):bits .or .u64 (a:Int) (b:Int)=((a |||b:Nat):Int):=by
 show IntKind.u64.wrap ((BitVec.ofInt 64 (a:Int) |||BitVec.ofInt 64 (b:Int)).toNat:Int)=_
 rw[BitVec.toNat_or,nK ha,nK hb];exact CL (Nat.or_lt_two_pow (n:=64) ha hb)
theorem vZ {a b:Nat} (ha:a<18446744073709551616) (hb:b<18446744073709551616):bits .and .u64 (a:Int) (b:Int)=((a &&&b:Nat):Int):=by
 show IntKind.u64.wrap ((BitVec.ofInt 64 (a:Int) &&&BitVec.ofInt 64 (b:Int)).toNat:Int)=_
 rw[BitVec.toNat_and,nK ha,nK hb];exact CL (zA9 Nat.and_le_left ha)
def wd (l:List Nat):List Value:=l.map fun(x:Nat)=>.int .u64 (x:Int)
theorem bV (l:List Nat):(wd l).length=l.length:=by simp[wd]
theorem vP (l:List Nat):∀v∈wd l,v.oneCell'=true:=by
 intro v hv;simp only[wd,List.mem_map]at hv;exact zeg
theorem i9 {l:List Nat} {j:Nat} (h:j<l.length):(wd l)[j]? =some (.int .u64 ((l.getD j 0:Nat):Int)):=by
 simp[wd,h]
theorem zL (l:List Nat) (j x:Nat):(wd l).set j (.int .u64 (x:Int))=wd (l.set j x):=by
 simp[wd,List.map_set]
def W64 (l:List Nat):Prop:=∀x∈l,x<18446744073709551616
theorem W64.get {l:List Nat} (h:W64 l) (j:Nat):l.getD j 0<18446744073709551616:=by
 rw[zA10];cases e:l[j]? with
 |none=>decide
 |some x=>exact h x (List.mem_of_getElem? e)
theorem W64.set {l:List Nat} (h:W64 l) (j:Nat) {x:Nat} (hx:x<18446744073709551616):W64 (l.set j x):=by
 intro y hy;rcases List.mem_or_eq_of_mem_set hy with h1|rfl
 ·exact h y h1
 ·exact hx
def rL (x k:Nat):Nat:=(x*2^k%18446744073709551616) |||(x/2^(64-k))
theorem iY {x:Nat} (hx:x<18446744073709551616) (k:Nat):rL x k<18446744073709551616:=
 Nat.or_lt_two_pow (n:=64) (zA1 _ zDc) (zA9 (zA21 _ _) hx)
theorem Wk {x r:Nat} (hx:x<18446744073709551616) (hr:rL x 63=r) (w:World):
 CB 247 #[.int .u64 (x:Int),.int .i64 (-1)] w (.int .u64 (r:Int)):=by
 have h0:bits .and .u64 18446744073709551615 63=63:=zDc;have Vn:=iR;have h2:bits .or .u64 ((x:Int)*9223372036854775808%18446744073709551616) ((x:Int)/2)=((rL x 63:Nat):Int):=by
  have:=mt (a:=x*9223372036854775808%18446744073709551616) (b:=x/2) (zA1 _ zDc) (zA9 (zA21 _ _) hx);rw[show((x:Int)*9223372036854775808%18446744073709551616)=((x*9223372036854775808%18446744073709551616:Nat):Int) by omega,show((x:Int)/2)=((x/2:Nat):Int) by omega];exact this
 exact zc8
theorem Wl {x r:Nat} (hx:x<18446744073709551616) (hr:rL x 56=r) (w:World):
 CB 247 #[.int .u64 (x:Int),.int .i64 (-8)] w (.int .u64 (r:Int)):=by
 have h0:bits .and .u64 18446744073709551608 63=56:=zDc;have Vn:=iR;have h2:bits .or .u64 ((x:Int)*72057594037927936%18446744073709551616) ((x:Int)/256)=((rL x 56:Nat):Int):=by
  have:=mt (a:=x*72057594037927936%18446744073709551616) (b:=x/256) (zA1 _ zDc) (zA9 (zA21 _ _) hx);rw[show((x:Int)*72057594037927936%18446744073709551616)=((x*72057594037927936%18446744073709551616:Nat):Int) by omega,show((x:Int)/256)=((x/256:Nat):Int) by omega];exact this
 exact zc8
theorem S0 {x r:Nat} (hx:x<18446744073709551616) (hr:rL x 45=r) (w:World):
 CB 247 #[.int .u64 (x:Int),.int .i64 (-19)] w (.int .u64 (r:Int)):=by
 have h0:bits .and .u64 18446744073709551597 63=45:=zDc;have Vn:=iR;have h2:bits .or .u64 ((x:Int)*35184372088832%18446744073709551616) ((x:Int)/524288)=((rL x 45:Nat):Int):=by
  have:=mt (a:=x*35184372088832%18446744073709551616) (b:=x/524288) (zA1 _ zDc) (zA9 (zA21 _ _) hx);rw[show((x:Int)*35184372088832%18446744073709551616)=((x*35184372088832%18446744073709551616:Nat):Int) by omega,show((x:Int)/524288)=((x/524288:Nat):Int) by omega];exact this
 exact zc8
theorem S5 {x r:Nat} (hx:x<18446744073709551616) (hr:rL x 3=r) (w:World):
 CB 247 #[.int .u64 (x:Int),.int .i64 (-61)] w (.int .u64 (r:Int)):=by
 have h0:bits .and .u64 18446744073709551555 63=3:=zDc;have Vn:=iR;have h2:bits .or .u64 ((x:Int)*8%18446744073709551616) ((x:Int)/2305843009213693952)=((rL x 3:Nat):Int):=by
  have:=mt (a:=x*8%18446744073709551616) (b:=x/2305843009213693952) (zA1 _ zDc) (zA9 (zA21 _ _) hx);rw[show((x:Int)*8%18446744073709551616)=((x*8%18446744073709551616:Nat):Int) by omega,show((x:Int)/2305843009213693952)=((x/2305843009213693952:Nat):Int) by omega];exact this
 exact zc8
theorem SY {x r:Nat} (hx:x<18446744073709551616) (hr:rL x 50=r) (w:World):
 CB 247 #[.int .u64 (x:Int),.int .i64 (-14)] w (.int .u64 (r:Int)):=by
 have h0:bits .and .u64 18446744073709551602 63=50:=zDc;have Vn:=iR;have h2:bits .or .u64 ((x:Int)*1125899906842624%18446744073709551616) ((x:Int)/16384)=((rL x 50:Nat):Int):=by
  have:=mt (a:=x*1125899906842624%18446744073709551616) (b:=x/16384) (zA1 _ zDc) (zA9 (zA21 _ _) hx);rw[show((x:Int)*1125899906842624%18446744073709551616)=((x*1125899906842624%18446744073709551616:Nat):Int) by omega,show((x:Int)/16384)=((x/16384:Nat):Int) by omega];exact this
 exact zc8
theorem SZ {x r:Nat} (hx:x<18446744073709551616) (hr:rL x 46=r) (w:World):
 CB 247 #[.int .u64 (x:Int),.int .i64 (-18)] w (.int .u64 (r:Int)):=by
 have h0:bits .and .u64 18446744073709551598 63=46:=zDc;have Vn:=iR;have h2:bits .or .u64 ((x:Int)*70368744177664%18446744073709551616) ((x:Int)/262144)=((rL x 46:Nat):Int):=by
  have:=mt (a:=x*70368744177664%18446744073709551616) (b:=x/262144) (zA1 _ zDc) (zA9 (zA21 _ _) hx);rw[show((x:Int)*70368744177664%18446744073709551616)=((x*70368744177664%18446744073709551616:Nat):Int) by omega,show((x:Int)/262144)=((x/262144:Nat):Int) by omega];exact this
 exact zc8
theorem S4 {x r:Nat} (hx:x<18446744073709551616) (hr:rL x 23=r) (w:World):
 CB 247 #[.int .u64 (x:Int),.int .i64 (-41)] w (.int .u64 (r:Int)):=by
 have h0:bits .and .u64 18446744073709551575 63=23:=zDc;have Vn:=iR;have h2:bits .or .u64 ((x:Int)*8388608%18446744073709551616) ((x:Int)/2199023255552)=((rL x 23:Nat):Int):=by
  have:=mt (a:=x*8388608%18446744073709551616) (b:=x/2199023255552) (zA1 _ zDc) (zA9 (zA21 _ _) hx);rw[show((x:Int)*8388608%18446744073709551616)=((x*8388608%18446744073709551616:Nat):Int) by omega,show((x:Int)/2199023255552)=((x/2199023255552:Nat):Int) by omega];exact this
 exact zc8
theorem S1 {x r:Nat} (hx:x<18446744073709551616) (hr:rL x 36=r) (w:World):
 CB 247 #[.int .u64 (x:Int),.int .i64 (-28)] w (.int .u64 (r:Int)):=by
 have h0:bits .and .u64 18446744073709551588 63=36:=zDc;have Vn:=iR;have h2:bits .or .u64 ((x:Int)*68719476736%18446744073709551616) ((x:Int)/268435456)=((rL x 36:Nat):Int):=by
  have:=mt (a:=x*68719476736%18446744073709551616) (b:=x/268435456) (zA1 _ zDc) (zA9 (zA21 _ _) hx);rw[show((x:Int)*68719476736%18446744073709551616)=((x*68719476736%18446744073709551616:Nat):Int) by omega,show((x:Int)/268435456)=((x/268435456:Nat):Int) by omega];exact this
 exact zc8
theorem S2 {x r:Nat} (hx:x<18446744073709551616) (hr:rL x 30=r) (w:World):
 CB 247 #[.int .u64 (x:Int),.int .i64 (-34)] w (.int .u64 (r:Int)):=by
 have h0:bits .and .u64 18446744073709551582 63=30:=zDc;have Vn:=iR;have h2:bits .or .u64 ((x:Int)*1073741824%18446744073709551616) ((x:Int)/17179869184)=((rL x 30:Nat):Int):=by
  have:=mt (a:=x*1073741824%18446744073709551616) (b:=x/17179869184) (zA1 _ zDc) (zA9 (zA21 _ _) hx);rw[show((x:Int)*1073741824%18446744073709551616)=((x*1073741824%18446744073709551616:Nat):Int) by omega,show((x:Int)/17179869184)=((x/17179869184:Nat):Int) by omega];exact this
 exact zc8
theorem S3 {x r:Nat} (hx:x<18446744073709551616) (hr:rL x 25=r) (w:World):
 CB 247 #[.int .u64 (x:Int),.int .i64 (-39)] w (.int .u64 (r:Int)):=by
 have h0:bits .and .u64 18446744073709551577 63=25:=zDc;have Vn:=iR;have h2:bits .or .u64 ((x:Int)*33554432%18446744073709551616) ((x:Int)/549755813888)=((rL x 25:Nat):Int):=by
  have:=mt (a:=x*33554432%18446744073709551616) (b:=x/549755813888) (zA1 _ zDc) (zA9 (zA21 _ _) hx);rw[show((x:Int)*33554432%18446744073709551616)=((x*33554432%18446744073709551616:Nat):Int) by omega,show((x:Int)/549755813888)=((x/549755813888:Nat):Int) by omega];exact this
 exact zc8
end Go.Proofs.YtgfkgolafkdjfaaGreatDoor
