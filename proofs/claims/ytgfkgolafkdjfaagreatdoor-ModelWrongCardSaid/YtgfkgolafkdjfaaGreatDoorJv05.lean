/- ModelWrong: part 5 of its proof: lemmas and contracts, each with its conditions in its own statement; the last part holds the law itself. -/
import Derived.Test.YtgfkgolafkdjfaaGreatDoorJv03
import Derived.Test.YtgfkgolafkdjfaaGreatDoorJv04
import Derived.ChangeKeysEq
import Derived.Laws.StructEq

set_option maxHeartbeats 4000000
set_option maxRecDepth 100000
namespace Go.Proofs.YtgfkgolafkdjfaaGreatDoor
open Go.RowKit
def qN:Nat:=7237005577332262213973186563042994240857116359379907606001950938285454250989
theorem aad:(aw 4 qN).toArray=#[.int .u64 6346243789798364141,.int .u64 1503914060200516822,.int .u64 0,.int .u64 1152921504606846976]:=by kernel_rfl
theorem Mw:2*qN<18446744073709551616^4:=by decide
theorem vK:0<qN:=by decide
theorem Ew (w:World):CB 202 #[] w (.agg (aw 4 qN).toArray):=by
 go_enter Tryz.func202,Tryz.ntmps202;go_wp2_with fail;refine bodyPost_ret (v:=.agg (aw 4 qN).toArray) (by rw[aad];simp[results,Tryz.results202,go_sem]) rfl ⟨rfl,?_⟩;exact((ae _ _))
theorem om (k n:Nat) (h:∃c,k=n+18446744073709551616^4*c):aw 4 k=aw 4 n:=by
 obtain⟨c,rfl⟩:=h;unfold aw;congr 1;unfold bF;apply List.map_congr_left;intro i hi;simp only[List.mem_range]at hi;have e:(18446744073709551616:Nat)^4*c=18446744073709551616^i*(18446744073709551616*(18446744073709551616^(3-i)*c)):=by
  rw[←zA26,←zA26,zA26 _ 18446744073709551616,←Nat.pow_succ',←Nat.pow_add,show i+(3-i).succ=4 by omega]
 rw[e,zA30 _ _ (Nat.pow_pos zDc),zA27]
theorem CR (V m X b r:Nat) (hX:V/2^(m+1)=X) (hb:V/2^m%2=b) (hr:X%qN=r):V/2^m%qN=if 2*r+b<qN then 2*r+b else 2*r+b-qN:=by
 have e:V/2^m=2*X+b:=by
  rw[←hX,zA24,←zA22];omega
 have hb2:b≤1:=zOm;have hq:=vK;have h1:=Nat.div_add_mod X qN;have h2:=zA1 X hq;rw[e];have e2:2*X+b=(2*r+b)+qN*(2*(X/qN)):=by
  rw[hr]at h1;have:qN*(2*(X/qN))=2*(qN*(X/qN)):=Nat.mul_left_comm _ _ _;omega
 rw[e2,zA27]
 by_cases h:2*r+b<qN
 ·rw[if_pos h,zA4 h]
 ·rw[if_neg h,Nat.mod_eq_sub_mod zOm,zA4 zOm]
theorem NS (n b:Nat) (hb:b≤1):(aw 4 (2*n)).set 0 (.int .u64 (((2*n)%18446744073709551616+b:Nat):Int))=aw 4 (2*n+b):=by
 apply List.ext_getElem?;intro j
 by_cases hj:j<4
 ·rw[List.getElem?_set,bQ _ _ _ hj,bQ _ _ _ hj,aF]
  by_cases h0:0=j
  ·subst h0;rw[if_pos rfl,if_pos zDc];congr 3;simp only[Nat.pow_zero,Nat.div_one];omega
  ·rw[if_neg h0];obtain⟨i,rfl⟩:∃i,j=i+1:=⟨j-1,by omega⟩;have e:(2*n+b)/18446744073709551616^(i+1)=(2*n)/18446744073709551616^(i+1):=by
    rw[zA24,Nat.mul_comm (18446744073709551616^i),←zA22,←zA22];congr 1;omega
   rw[e]
 ·exact zfw
theorem VH (x b:Nat) (hx:x<18446744073709551616) (he:x%2=0) (hb:b≤1):bits .or .u64 (x:Int) (b:Int)=((x+b:Nat):Int):=by
 rw[u64_or_nat _ _ hx zOm];congr 1;have h:b=0∨b=1:=zOm;rcases h with rfl|rfl
 ·simp
 ·have:=Nat.two_pow_add_eq_or_of_lt (i:=1) (b:=1) zDc (x/2);have e:2^1*(x/2)=x:=zOm;rw[e]at this;exact this.symm
theorem Kp (ls:List Nat) (b o cap:Nat) (w:World) (BW:0<ls.length) (hl:ls.length≤16) (bK:∀d∈ls,d<18446744073709551616)
 (hc:∀j x,ls[j]? =some x→w.cell? ⟨b,o+j,none⟩=some (.int .u64 (x:Nat))):
 CB 230 #[.slice (some ⟨b,o,none⟩) ls.length cap] w (.agg (aw 4 (val 18446744073709551616 ls%qN)).toArray):=by
 obtain⟨V,hV⟩:=zX (val 18446744073709551616 ls);have mL:=jQ 18446744073709551616 zDc ls bK;rw[hV]at mL⊢;have hVl:=zI 18446744073709551616 zDc ls bK;rw[hV]at hVl;have hb:b<w.heap.size:=zA11 w ⟨b,o+0,none⟩ (hc 0 _ (zA7 BW));obtain⟨L,hL⟩:=zX ls.length;rw[hL]at BW hl mL hVl⊢;have mL:=zH mL;have Zj:=zH hc;have hV':=zH hV;have hL':=zH hL;have NI:=zH bK;clear bK hc hV hL;go_enter Tryz.func230,Tryz.ntmps230;go_upto_region 2 with fail
 refine be (fun W aB h1 h2 iG=>?_);go_wp2_with fail;go_loopw[4] (fun kv wr=>∃(j n:Nat),j≤64*L∧kv=.int .i64 ((j:Int)-1)∧V/2^j%qN=n∧Arr wr w.heap.size (aw 4 0)∧Arr wr (w.heap.size+1) (aw 4 n)∧Below w.heap.size w wr) (fun kv _=>(intOf kv+1).toNat)
 case atStart=>
  refine⟨64*L,0,zA0 _,?_,?_,h1,h2,iG⟩
  ·have e:((64*L:Nat):Int)-1=(L:Int)*64-1:=zOm;rw[e]
  ·have e:(2:Nat)^(64*L)=18446744073709551616^L:=zae;rw[e,zA32 hVl,Nat.zero_mod]
 case round=>
  obtain⟨j,n,hj,rfl,hn,k1,k2,kb⟩:=hrel;clear h1 h2 iG aB;have hnq:n<qN:=(by rw[←hn];exact zA1 _ vK);have hn:=zH hn;have hVl:=zH hVl;rcases Nat.eq_zero_or_pos j with rfl|uz
  ·have e:((0:Nat):Int)-1= -1:=rfl;rw[e];go_wp2_with(first|refine aR ?_|refine aU ?_);refine bodyPost_ret (v:=.agg (aw 4 n).toArray) (kF Tryz.results230 _ _ w.heap.size _ rfl Tryz.underlying240 rfl _ (k1.setRow _) zao) rfl ⟨by rw[←hn.out,Nat.pow_zero,Nat.div_one],ah kb zOm _⟩
  ·obtain⟨m,rfl⟩:∃m,j=m+1:=⟨j-1,by omega⟩;have e:((m+1:Nat):Int)-1=(m:Int):=zOm;rw[e];clear e;go_wp2_with(first|(refine aR ?_));refine zQ (ke n n _) fun w2 hb2=>?_;obtain⟨k1,k2⟩:=fZ k1 k2 hb2;have kb:=aW kb (by have:=kb.size;omega) hb2;go_upto_region 6 with(first|(refine aU ?_))
   have k2:=k2.setRow (aw 4 (n+n));have k1:=k1.row_other (k:=w.heap.size+1) zOm (aw 4 (n+n)).toArray;have kb:=ah kb (g:=w.heap.size+1) zOm (aw 4 (n+n)).toArray;generalize w2.setRow (w.heap.size+1) (aw 4 (n+n)).toArray=w3 at*;rw[←Nat.two_mul]at k2;obtain⟨x,hx⟩:∃x,ls[m/64]? =some x:=⟨_,zA7 (by rw[hL'.out];omega)⟩;have vR:x<18446744073709551616:=NI.out x (List.mem_of_getElem? hx);have Au:x/2^(m%64)%2=V/2^m%2:=by
    have h6:=PF V m;have h7:=eG 18446744073709551616 L V (m/64) zOm;rw[mL.out,hx]at h7;rw[←Option.some.inj h7]at h6;exact h6
   obtain⟨t,ht⟩:=zX (x/2^(m%64)%2);have vE:t≤1:=zOm;have hxc:=Zj.out _ _ hx;have mJ:bits BinOp.and IntKind.u64 ((x:Int)/2^(m%64)) 1=(t:Int):=by
    have e:=bits_and_u64_nat (x/2^(m%64)) 1 (by have:=zA21 x (2^(m%64));omega) zDc;rw[Nat.and_one_is_mod,ht]at e;rw[←e];simp
   obtain⟨y,hy⟩:=zX (2*n%18446744073709551616);have Ei:=VH y t zOm zOm vE;have J0:=k2.cell (bQ 4 (2*n) 0 zDc);rw[Nat.pow_zero,Nat.div_one,hy]at J0;have hyf:=k2.frozen 0;have JY:=zH hx;have acN:=zH Au;have ht':=zH ht;have IW:=zH hy;have agw:=zH hxc;have acJ:=zH mJ;have Vh:=zH Ei;clear hx Au ht hy hxc mJ Ei;have im0:(0:Int)≤(m:Int)/64:=zOm;have im1:(m:Int)/64<(L:Int):=zOm;have im2:IntKind.i64.wrap ((m:Int)/64)=(m:Int)/64:=i64_in zOm;have im3:((m:Int)/64).toNat=m/64:=zOm;have im4:((m:Int)).tmod 64=(m:Int)%64:=zA17 zOm;have im5:IntKind.i64.wrap ((m:Int)%64)=(m:Int)%64:=i64_in zOm;have im6:(0:Int)≤(m:Int)%64:=zOm;have im7:((m:Int)%64).toNat=m%64:=zOm;simp only[Act.put];refine cH 13 14 fun aP=>?_;refine gF (A:=?_) 1 8191 zKr zaz [0,1,2,3,4,5,6,7,8,9,10,11,12] zKr ?_ ?_;rotate_left
   ·intro w' hB;have e1:w'.cell? ⟨w.heap.size+1,0,none⟩=some (.int .u64 (y:Int)):=(by rw[hB.cell (by simpa using k2.lt)];exact J0);have e2:w'.cell? ⟨b,o+m/64,none⟩=some (.int .u64 (x:Int)):=(by rw[hB.cell (by have:=kb.size;simp;omega),kb.cell hb];exact agw.out);have e3:=acJ.out;have e4:=Vh.out;exact zRd
   have hyc:w3.drew.cell? ⟨w.heap.size+1,0,none⟩=some (.int .u64 (y:Int)):=J0;have agx:w3.drew.frozen? ⟨w.heap.size+1,0,none⟩=false:=hyf;refine bf 16383 rfl zDk (fun K hK=>?_);go_simp;refine hK (fun _=>True) 9999 _ _ ?_;clear hK K;try simp only[Act.put]
   try simp only[zSa,zSz,zSs]
   refine ap zKr ?_;have e5:=NS n t vE;rw[IW.out,Int.natCast_add]at e5;have k2:=k2.set 0 (.int .u64 ((y:Int)+(t:Int)));rw[e5]at k2;clear e5;have k1:=k1.other (a:=⟨w.heap.size+1,0,none⟩) zac (.int .u64 ((y:Int)+(t:Int)));have kb:=(kb.setCell (p:=⟨w.heap.size+1,0,none⟩) zac (.int .u64 ((y:Int)+(t:Int)))).drew;have k1:Arr (w3.setCell ⟨w.heap.size+1,0,none⟩ (.int .u64 ((y:Int)+(t:Int)))).drew _ _:=k1;have k2:Arr (w3.setCell ⟨w.heap.size+1,0,none⟩ (.int .u64 ((y:Int)+(t:Int)))).drew _ _:=k2;generalize (w3.setCell ⟨w.heap.size+1,0,none⟩ (.int .u64 ((y:Int)+(t:Int)))).drew=w4 at*;clear J0 hyf hyc agx;go_upto_region 7 with fail
   refine cH 7 9 fun bn=>?_;refine gF (A:=?_) 8 1 zKr zaz [0] zKr ?_ ?_;rotate_left
   ·intro w' hB;have e1:=k2.below hB;exact zRd
   refine bG 2 127 [(1,36),(2,37),(3,34),(4,38),(5,39),(6,5)] [(false,[]),(false,[(1,36)]),(true,[(2,37)]),(true,[(3,34)]),(true,[(3,34)]),(false,[])] [(1,Ph.is (.agg (aw 4 qN).toArray)),(2,Ph.is (.tuple #[.agg (aw 4 (2*n+t+18446744073709551616^4-qN)).toArray,.int .u64 (fg 18446744073709551616 4 (2*n+t) qN:Nat)])),(3,Ph.is (.tuple #[.agg (aw 4 (2*n+t+18446744073709551616^4-qN)).toArray,.int .u64 (fg 18446744073709551616 4 (2*n+t) qN:Nat)])),(4,Ph.is (.agg (aw 4 (2*n+t+18446744073709551616^4-qN)).toArray)),(5,Ph.is (.int .u64 (fg 18446744073709551616 4 (2*n+t) qN:Nat))),(6,Ph.arr w4.heap.size (aw 4 0))] zKr zKr zaA ?_ ?_
   ·refine⟨⟨_,rfl,?_⟩,⟨_,rfl,?_⟩,⟨_,rfl,?_⟩,⟨_,rfl,?_⟩,⟨_,rfl,?_⟩,⟨_,rfl,?_⟩,trivial⟩
    ·exact oT Ew
    ·exact DB (mn (2*n+t) qN (by have:=Mw;omega))
    ·exact zdf
    ·exact zc0
    ·exact zc0
    ·exact zcV
   intro vs w_p Fx YM hP hD;obtain⟨q1,q2,q3,q4,q5,q6,-⟩:=hP;simp only[aG,Act.put,zSa,zSz,zSs];rw[show vs 1=_ from q1,show vs 2=_ from q2,show vs 3=_ from q3,show vs 4=_ from q4,show vs 5=_ from q5];clear q1 q2 q3 q4 q5;obtain⟨g6,e6,lV,uq⟩:=q6;rw[e6];clear e6 hD vs;refine kO 255 ?_;refine dz ?_ 0 511 zaC [8] (fun _ _=>zRd) ?_;refine ap zKr ?_;have hn5:w.heap.size+1<g6:=zA3 k2.lt lV;have k1:=(k1.below Fx).row_other (k:=g6) zOm (aw 4 (2*n+t+18446744073709551616^4-qN)).toArray;have k2:=(k2.below Fx).row_other (k:=g6) zOm (aw 4 (2*n+t+18446744073709551616^4-qN)).toArray;have k6:=uq.setRow (aw 4 (2*n+t+18446744073709551616^4-qN));have kb:=ah (aW kb (by have:=kb.size;omega) Fx) (g:=g6) zOm (aw 4 (2*n+t+18446744073709551616^4-qN)).toArray;generalize w_p.setRow g6 (aw 4 (2*n+t+18446744073709551616^4-qN)).toArray=w5 at*;have Jq:=ma (a:=2*n+t) (b:=qN) (by have:=Mw;omega) zDc;rw[Jq]
   have fA:=CR V m _ t n rfl (by rw[←acN.out,ht'.out]) hn.out;have Rb:=zH fA;clear fA Jq uq lV YM Fx
   by_cases hlq:2*n+t<qN
   ·rw[if_pos hlq];go_wp2_with fail;exact⟨⟨m,_,by omega,rfl,by rw[Rb.out,if_pos hlq],k1,k2,kb⟩,by simp[intOf]⟩
   ·rw[if_neg hlq];go_wp2_with(first|refine aR ?_|refine aU ?_);have e:aw 4 (2*n+t+18446744073709551616^4-qN)=aw 4 (2*n+t-qN):=om _ _ ⟨1,by omega⟩;refine⟨⟨m,_,by omega,rfl,by rw[Rb.out,if_neg hlq],k1.row_other zOm _,?_,ah kb zOm _⟩,by simp[intOf]⟩;rw[←e];exact k2.setRow _
def pN:Nat:=57896044618658097711785492504343953926634992332820282019728792003956564819949
theorem aX:0<pN:=by decide
theorem IE:18446744073709551616^4=2*pN+38:=by decide
theorem aac:(aw 4 pN).toArray=#[.int .u64 18446744073709551597,.int .u64 18446744073709551615,.int .u64 18446744073709551615,.int .u64 9223372036854775807]:=by kernel_rfl
theorem zE (w:World):CB 222 #[] w (.agg (aw 4 pN).toArray):=by
 go_enter Tryz.func222,Tryz.ntmps222;go_wp2_with fail;refine bodyPost_ret (v:=.agg (aw 4 pN).toArray) (by rw[aac];simp[results,Tryz.results222,go_sem]) rfl ⟨rfl,?_⟩;exact((ae _ _))
theorem mo (x:Nat) (hx:x<18446744073709551616):(aw 4 x).toArray=#[.int .u64 (x:Int),.int .u64 0,.int .u64 0,.int .u64 0]:=by
 have e:∀i,0<i→x/18446744073709551616^i%18446744073709551616=0:=by
  intro i hi;obtain⟨j,rfl⟩:∃j,i=j+1:=⟨i-1,by omega⟩;rw[zA24,Nat.mul_comm,←zA22,zA32 hx,Nat.zero_div]
 simp only[aw,bF,show List.range 4=[0,1,2,3]from by decide,List.map_cons,List.map_nil,Nat.pow_zero,Nat.div_one,zA4 hx];simp only[e 1 zDc,e 2 zDc,e 3 zDc];rfl
theorem vF (n:Nat) (hn:n<18446744073709551616^4) (w:World):
 CB 194 #[.agg (aw 4 n).toArray] w (.agg (aw 4 (n%pN)).toArray):=by
 go_enter Tryz.func194,Tryz.ntmps194;go_upto_region 1 with fail
 refine be (fun W aB h1 h2 iG=>?_);go_wp2_with fail;go_loopw[5] (fun kv wr=>∃(k m:Nat),k≤2∧kv=.int .i64 k∧m%pN=n%pN∧m<pN*(3-k)∧m≤n∧Arr wr w.heap.size (aw 4 m)∧Arr wr (w.heap.size+1) (aw 4 0)∧Below w.heap.size w wr) (fun kv _=>2-(intOf kv).toNat)
 case atStart=>exact⟨0,n,by omega,rfl,rfl,by have:=IE;have:38<pN:=zDc;omega,zA0 _,h1,h2,iG⟩
 case round=>
  obtain⟨k,m,hk,rfl,hm,bK,ZJ,k1,k2,kb⟩:=hrel;have QS:=zH hm;clear h1 h2 iG aB hm
  by_cases IT:k<2
  ·have GH:pN<18446744073709551616^4:=zDc;have NI:=zH bK;clear bK;have hdk:decide ((k:Int)<2)=true:=zab;go_upto_region 3 with fail
   refine cH 7 9 fun aP=>?_;refine dz ?_ 8 1 zaD [0] (fun w' hB=>by have e1:=k1.below hB;exact zRd) ?_;refine bG 2 127 [(1,9),(2,10),(3,7),(4,11),(5,12),(6,3)] [(false,[]),(false,[(1,9)]),(true,[(2,10)]),(true,[(3,7)]),(true,[(3,7)]),(false,[])] [(1,Ph.is (.agg (aw 4 pN).toArray)),(2,Ph.is (.tuple #[.agg (aw 4 (m+18446744073709551616^4-pN)).toArray,.int .u64 (fg 18446744073709551616 4 m pN:Nat)])),(3,Ph.is (.tuple #[.agg (aw 4 (m+18446744073709551616^4-pN)).toArray,.int .u64 (fg 18446744073709551616 4 m pN:Nat)])),(4,Ph.is (.agg (aw 4 (m+18446744073709551616^4-pN)).toArray)),(5,Ph.is (.int .u64 (fg 18446744073709551616 4 m pN:Nat))),(6,Ph.arr wr.heap.size (aw 4 0))] zKr zKr zaA ?_ ?_
   ·refine⟨⟨_,rfl,?_⟩,⟨_,rfl,?_⟩,⟨_,rfl,?_⟩,⟨_,rfl,?_⟩,⟨_,rfl,?_⟩,⟨_,rfl,?_⟩,trivial⟩
    ·exact oT zE
    ·exact DB (mn m pN zOm)
    ·exact zdf
    ·exact zc0
    ·exact zc0
    ·exact zcV
   intro vs w_p Fx YM hP hD;obtain⟨q1,q2,q3,q4,q5,q6,-⟩:=hP;simp only[aG,Act.put,zSa,zSz,zSs];rw[show vs 1=_ from q1,show vs 2=_ from q2,show vs 3=_ from q3,show vs 4=_ from q4,show vs 5=_ from q5];clear q1 q2 q3 q4 q5;obtain⟨g6,e6,lV,uq⟩:=q6;rw[e6];clear e6 hD vs;refine kO 255 ?_;refine dz ?_ 0 511 zaC [8] (fun _ _=>zRd) ?_;refine ap zKr ?_;have hn5:w.heap.size+1<g6:=zA3 k2.lt lV;refine aV uq (fun w5 k6 ad ak=>?_);have k1:=ad _ _ zOm (k1.below Fx);have k2:=ad _ _ zOm (k2.below Fx);have kb:=ak _ _ zOm (az kb Fx);clear ad ak uq lV YM Fx;rw[ma (a:=m) (b:=pN) zOm GH];have XY:=aX
   by_cases hlq:m<pN
   ·rw[if_pos hlq];go_wp2_with fail;refine⟨⟨k+1,m,by omega,by go_num,QS.out,?_,ZJ,k1,k2,kb⟩,by simp[intOf];omega⟩;exact zA3 hlq (Nat.le_mul_of_pos_right _ zOm)
   ·rw[if_neg hlq];go_wp2_with(first|refine aR ?_|refine aU ?_);have e:aw 4 (m+18446744073709551616^4-pN)=aw 4 (m-pN):=om _ _ ⟨1,by omega⟩;refine⟨⟨k+1,m-pN,by omega,by go_num,?_,?_,by omega,?_,k2.row_other zOm _,ah kb zOm _⟩,by simp[intOf];omega⟩
    ·rw[←QS.out];exact(Nat.mod_eq_sub_mod zOm).symm
    ·have h7:=NI.out;have e2:pN*(3-k)=pN*(3-(k+1))+pN:=(by rw[show 3-k=(3-(k+1))+1 by omega,Nat.mul_add,Nat.mul_one]);omega
    ·rw[←e];exact k1.setRow _
  ·obtain rfl:k=2:=zOm;have e:m=n%pN:=(by rw[←QS.out,zA4 zOm]);clear bK;subst e;go_wp2_with(first|refine aR ?_|refine aU ?_);exact bodyPost_ret (aj Tryz.results194 _ _ _ rfl zKr _ zaE zLn) rfl ⟨rfl,ah kb zOm _⟩
theorem Ye (c:Nat) (hc:38*c<18446744073709551616):IntKind.u64.wrap (38*(c:Int))=((38*c:Nat):Int):=by rw[IntKind.wrap_u64];omega
theorem D6 {a b:Nat} (ha:a<18446744073709551616^4) (hb:b<18446744073709551616^4):jH 18446744073709551616 4 a b=(a+b)/18446744073709551616^4:=by
 unfold jH;rw[zA4 ha,zA4 hb]
theorem HG (n:Nat):aw 4 n=aw 4 (n%18446744073709551616^4):=
 om _ _ ⟨n/18446744073709551616^4,(Nat.mod_add_div _ _).symm⟩
theorem J9 (n c:Nat):(n+18446744073709551616^4*c)%pN=(n+38*c)%pN:=by
 rw[IE,Nat.add_mul,show n+(2*pN*c+38*c)=n+38*c+pN*(2*c) by rw[Nat.mul_comm 2 pN,zA26];omega,zA27]
theorem Af (n x:Nat) (hx:x<18446744073709551616) (w:World):
 Calls Tryz.prog 226 #[.agg (aw 4 n).toArray,.agg #[.int .u64 (x:Int),.int .u64 0,.int .u64 0,.int .u64 0]] w fun e w'=>
  e=.returned (.tuple #[.agg (aw 4 (n+x)).toArray,.int .u64 (jH 18446744073709551616 4 n x:Nat)])∧Below w.heap.size w w':=by
 rw[←mo x hx];exact ke n x w
theorem Hb (n c:Nat) (hn:n<18446744073709551616^4) (hc:38*c<18446744073709551616) (w:World):
 CB 225 #[.agg (aw 4 n).toArray,.int .u64 c] w (.agg (aw 4 ((n+18446744073709551616^4*c)%pN)).toArray):=by
 have h38:=Ye c hc;obtain⟨x,hx⟩:=zX (38*c);obtain⟨c1,jX⟩:=zX (jH 18446744073709551616 4 n x);obtain⟨n1,GG⟩:=zX ((n+x)%18446744073709551616^4);have vR:x<18446744073709551616:=hx▸hc;have hx4:x<18446744073709551616^4:=zA25 vR zDc;have hca:=D6 hn hx4;have lU:c1≤1:=jX▸sh _ _ _ _ zDc;have Ju:=Nat.mod_add_div (n+x) (18446744073709551616^4);rw[←hca,jX,GG]at Ju;have af4:n1<18446744073709551616^4:=GG▸zA1 _ zDc;have e38:38*c1<18446744073709551616:=zOm;have afo:=Ye c1 e38;obtain⟨y,hy⟩:=zX (38*c1);have IX:y<18446744073709551616:=hy▸e38;have FK:n1+y<18446744073709551616^4:=zOm;have QV:(n1+y)%pN=(n+18446744073709551616^4*c)%pN:=(by rw[J9,hx,←Ju,J9,hy]);have nt:aw 4 (n+x)=aw 4 n1:=(by rw[HG,GG]);rw[hx]at h38;rw[hy]at afo;replace QV:=zH QV;have a1:=fun w=>Af n x vR w;rw[nt,jX]at a1;replace a1:=zH a1;have a2:=zH (fun w=>Af n1 y IX w);have a3:=zH (fun w=>vF (n1+y) FK w)
 clear hx jX GG hx4 hca lU Ju af4 e38 hy FK nt hc hn;rw[←QV.out];go_enter Tryz.func225,Tryz.ntmps225;go_upto_region 1 with fail
 refine be (fun W aB k1 k2 kb=>?_);have k2:Arr W (w.heap.size+1) (aw 4 0):=k2;go_wp2_with(first|refine aR ?_|refine aU ?_);refine zQ (a1.out _) fun mU dG=>?_;obtain⟨k1,k2⟩:=fZ k1 k2 dG;have kb:=az kb dG;clear dG;go_upto_region 2 with(first|refine aR ?_|refine aU ?_)
 refine ci k1 (fun i8 k1 ad ak=>?_);have k2:=ad _ _ zOm k2;have kb:=ak _ _ zOm kb;clear ad ak;go_wp2_with(first|refine aR ?_|refine aU ?_);refine zQ (a2.out _) fun jF dc=>?_;obtain⟨k1,k2⟩:=fZ k1 k2 dc;have kb:=az kb dc;clear dc;go_upto_region 3 with(first|refine aR ?_|refine aU ?_)
 simp only[Act.put];refine ci k1 (fun pJ k1 ad ak=>?_);have k2:=ad _ _ zOm k2;have kb:=ak _ _ zOm kb;clear ad ak;go_wp2_with(first|refine aR ?_|refine aU ?_);refine zQ (a3.out _) fun m9 gH=>?_;have k2:=k2.below gH;have kb:=az kb gH;clear gH;go_wp2_with(first|refine aR ?_|refine aU ?_);exact bodyPost_ret (aj Tryz.results225 _ _ _ rfl zKr _ zaE zLn) rfl ⟨rfl,ah kb zOm _⟩
theorem H4 (a b:Nat) (ha:a<18446744073709551616^4) (hb:b<18446744073709551616^4) (w:World):
 CB 197 #[.agg (aw 4 a).toArray,.agg (aw 4 b).toArray] w (.agg (aw 4 ((a+b)%pN)).toArray):=by
 have hca:=D6 ha hb;obtain⟨c,hc⟩:=zX (jH 18446744073709551616 4 a b);obtain⟨n,hn⟩:=zX ((a+b)%18446744073709551616^4);have lU:c≤1:=hc▸sh _ _ _ _ zDc;have Ju:=Nat.mod_add_div (a+b) (18446744073709551616^4);rw[←hca,hc,hn]at Ju;have Hr:n<18446744073709551616^4:=hn▸zA1 _ zDc;have hl:aw 4 (a+b)=aw 4 n:=(by rw[HG,hn]);have a1:=fun w=>ke a b w;rw[hl,hc]at a1;replace a1:=zH a1;have a2:=fun w=>Hb n c Hr zOm w;rw[Ju]at a2;replace a2:=zH a2;clear hca hc hn lU Ju Hr hl ha hb;go_enter Tryz.func197,Tryz.ntmps197;go_upto_region 1 with fail
 refine bZ (fun W aB k1 k2 k3 kb=>?_);have k3:Arr W (w.heap.size+1+1) (aw 4 0):=k3;go_wp2_with(first|refine aR ?_|refine aU ?_);refine zQ (a1.out _) fun qD ia=>?_;have k3:=k3.below ia;have kb:=az kb ia;clear ia;go_upto_region 2 with(first|refine aR ?_|refine aU ?_)
 refine aK (fun w9 k4 fO=>?_);have k3:=k3.below fO;have kb:=az kb fO;clear fO k1 k2;go_wp2_with(first|refine aR ?_|refine aU ?_);refine zQ (a2.out _) fun uG iz=>?_;have k3:=k3.below iz;have kb:=az kb iz;clear iz;go_wp2_with(first|refine aR ?_|refine aU ?_);exact bodyPost_ret (aj Tryz.results197 _ _ _ rfl zKr _ zaE zLn) rfl ⟨rfl,ah kb zOm _⟩
theorem tI (a b:Nat) (ha:a<pN) (hb:b<pN) (w:World):
 CB 196 #[.agg (aw 4 a).toArray,.agg (aw 4 b).toArray] w (.agg (aw 4 ((a+pN-b)%pN)).toArray):=by
 have zp:2*pN<18446744073709551616^4:=zDc;have Jq:=ma (a:=a) (b:=b) zOm zOm;have a1:=mn a b zOm;rw[Jq]at a1
 by_cases bK:a<b
 ·rw[if_pos bK]at a1;have hl:aw 4 (a+18446744073709551616^4-b+pN)=aw 4 ((a+pN-b)%pN):=by
   rw[zA4 zOm];exact om _ _ ⟨1,by omega⟩
  have a2:=fun w=>ke (a+18446744073709551616^4-b) pN w;rw[hl]at a2;obtain⟨s,hs⟩:=zX (a+18446744073709551616^4-b);rw[hs]at a1 a2;replace a1:=zH a1;replace a2:=zH a2;clear Jq bK hl hs ha hb zp;go_enter Tryz.func196,Tryz.ntmps196;go_upto_region 1 with fail
  refine bZ (fun W aB k1 k2 k3 kb=>?_);have k3:Arr W (w.heap.size+1+1) (aw 4 0):=k3;go_wp2_with(first|refine aR ?_|refine aU ?_);refine zQ (a1.out _) fun rY nW=>?_;have k3:=k3.below nW;have kb:=az kb nW;clear nW;go_upto_region 2 with(first|refine aR ?_|refine aU ?_)
  refine aK (fun w9 k4 fO=>?_);have mT:=k3.lt;have k3:=k3.below fO;have kb:=az kb fO;clear fO k1 k2;go_upto_region 3 with fail
  refine cH 6 7 fun hU=>?_;refine dz ?_ 6 1 zaF [0] (fun w' hB=>by have e1:=k4.below hB;exact zRd) ?_;refine eg 1 3 hU zE fun kN eT=>?_;refine eg 2 7 eT a2.out fun xE gZ=>?_;refine vU (A:=?_) 1 63 zKr zaG [3,4,5] zKr ?_ ?_;rotate_left
  ·intro w';iterate 3 (first|(refine db rfl rfl ?_;simp only[Act.put,zSa,zSz,zSs])|(refine cj (v:=?_) rfl rfl ?_ ?_;rotate_left;(focus (go_simp;try(with_reducible rfl)));simp only[Act.put,zSa,zSz,zSs]))
   exact eo
  obtain⟨k4,k3⟩:=fZ k4 k3 gZ;have kb:=az kb gZ;refine kO 127 ?_;refine ap zKr ?_;refine aV k4 (fun tq k4 ad ak=>?_);have k3:=ad _ _ zOm k3;have kb:=ak _ _ zOm kb;clear ad ak;exact zer
 ·rw[if_neg bK]at a1;have hl:aw 4 (a+18446744073709551616^4-b)=aw 4 ((a+pN-b)%pN):=by
   rw[show a+pN-b=(a-b)+pN by omega,Nat.add_mod_right,zA4 zOm];exact om _ _ ⟨1,by omega⟩
  rw[hl]at a1;replace a1:=zH a1;clear Jq bK hl ha hb zp;go_enter Tryz.func196,Tryz.ntmps196;go_upto_region 1 with fail
  refine bZ (fun W aB k1 k2 k3 kb=>?_);have k3:Arr W (w.heap.size+1+1) (aw 4 0):=k3;go_wp2_with(first|refine aR ?_|refine aU ?_);refine zQ (a1.out _) fun rD nV=>?_;have k3:=k3.below nV;have kb:=az kb nV;clear nV;go_upto_region 2 with(first|refine aR ?_|refine aU ?_)
  refine aK (fun w9 k4 fO=>?_);have k3:=k3.below fO;have kb:=az kb fO;clear fO k1 k2;exact zer
theorem fJ (a b:Nat) (ha:a<18446744073709551616^4) (hb:b<18446744073709551616^4) (w:World):
 CB 195 #[.agg (aw 4 a).toArray,.agg (aw 4 b).toArray] w (.agg (aw 4 (a*b%pN)).toArray):=by
 have am:=Cg a b hb;rw[zA4 ha]at am;obtain⟨V,hV⟩:=zX (a*b);have hVl:V<18446744073709551616^4*18446744073709551616^4:=(by rw[←hV];exact Nat.mul_lt_mul'' ha hb);rw[hV]at am⊢;replace am:=zH am;replace hVl:=zH hVl;clear hV ha hb;obtain⟨r,hr⟩:=zX (V%pN);rw[hr];replace hr:=zH hr;go_enter Tryz.func195,Tryz.ntmps195;go_upto_region 1 with fail
 refine bZ (fun W aB k1 k2 k3 kb=>?_);have k3:Arr W (w.heap.size+1+1) (aw 4 0):=k3;go_wp2_with(first|refine aR ?_|refine aU ?_);refine zQ (am.out _) fun mU dG=>?_;have k3:=k3.below dG;have kb:=az kb dG;clear dG;have kZ:=k3.lt;go_upto_region 2 with(first|refine aR ?_|refine aU ?_)
 refine aK (fun w9 k5 fO=>?_);have k3:=k3.below fO;have kb:=az kb fO;clear fO k1 k2 aB;go_upto_region 3 with fail
 have jJ:=k5.lt;refine aH (fun w8 aB k6 FA=>?_);have k6:Arr w8 w9.heap.size (us [0,0,0,0]):=k6;obtain⟨k3,k5⟩:=fZ k3 k5 FA;have kb:=az kb FA;have Ya:∀p,p<4→([0,0,0,0]:List Nat)[p]? =some 0:=zDc;clear FA aB;go_wp2_with fail;go_loopw[7,15] (fun cv kv wr=>∃(k c:Nat) (es:List Nat),k≤4∧c≤38∧cv=.int .u64 (c:Int)∧kv=.int .i64 k∧Arr wr (w.heap.size+1+1) (aw 4 0)∧Arr wr mU.heap.size (aw 8 V)∧Arr wr w9.heap.size (us es)∧Below w.heap.size w wr∧
  es.length=4∧(∀d∈es,d<18446744073709551616)∧val 18446744073709551616 es+18446744073709551616^k*c=V%18446744073709551616^k+38*(V/18446744073709551616^4%18446744073709551616^k)∧(∀p,k≤p→p<4→es[p]? =some 0)) (fun _ kv _=>4-(intOf kv).toNat)
 case atStart=>exact⟨0,0,[0,0,0,0],zA28 _,zA28 _,rfl,rfl,k3,k5,k6,kb,rfl,by decide,by rw[Nat.pow_zero,Nat.mod_one,Nat.mod_one];rfl,fun p _ hp=>Ya p hp⟩
 case round=>
  obtain⟨k,c,es,hk,hc,rfl,rfl,j3,j5,j6,jb,jlen,jlt,jval,jz⟩:=hrel;clear k3 k5 k6 kb Ya
  by_cases hk4:k<4
  ·obtain⟨h,hh⟩:∃h,V/18446744073709551616^(k+4)%18446744073709551616=h:=⟨_,rfl⟩;obtain⟨l,hl⟩:=zX (V/18446744073709551616^k%18446744073709551616);have hhl:h<18446744073709551616:=(by rw[←hh];exact zA1 _ zDc);have dF:l<18446744073709551616:=(by rw[←hl];exact zA1 _ zDc);have c1:=j5.cell (bQ 8 V (k+4) zOm);have c2:=j5.cell (bQ 8 V k zOm);rw[hh]at c1;rw[hl]at c2;have c3:=j6.cell (Gz es k 0 (jz k (zA0 _) hk4));have oZ:=j6.frozen k;obtain⟨p0,ZP⟩:=zX (h*38%18446744073709551616);obtain⟨p1,Dt⟩:=zX (h*38/18446744073709551616);obtain⟨s1,kQ⟩:=zX ((p0+c)%18446744073709551616);obtain⟨t1,vE⟩:=zX ((p0+c)/18446744073709551616);obtain⟨s2,Dv⟩:=zX ((s1+l)%18446744073709551616);obtain⟨t2,AQ⟩:=zX ((s1+l)/18446744073709551616);have hm:=fun w=>HW h 38 hhl zDc w;rw[ZP,Dt]at hm;have a1:=fun w=>Be p0 c w;rw[kQ,vE]at a1;have a2:=fun w=>Be s1 l w;rw[Dv,AQ]at a2;replace hm:=zH hm;replace a1:=zH a1;replace a2:=zH a2
   have q1:p1+t1+t2≤38:=zOm;have ep:s2+18446744073709551616*(p1+t1+t2)=h*38+l+c:=zOm;have ZU:s2<18446744073709551616:=zOm;replace ep:=zH ep;replace jlen:=zH jlen;replace jlt:=zH jlt;replace jval:=zH jval;have hd:=zH (jz k (zA0 _) hk4);replace jz:=zH jz;replace hh:=zH hh;replace hl:=zH hl;clear ZP Dt kQ vE Dv AQ;go_wp2_with(first|(simp only[a1.out,a2.out];done)|(refine(hm.out _).mono ?_;rintro e w' ⟨rfl,rfl⟩)|simp only[a1.out,a2.out]);refine⟨⟨k+1,p1+t1+t2,es.set k s2,by omega,q1,by go_num,by go_num,j3.other zab _,j5.other zab _,?_,jb.setCell zab _,by rw[zA23];exact jlen.out,Gn jlt.out ZU,?_,?_⟩,by simp[intOf];omega⟩
   ·have:=j6.set k (.int .u64 (s2:Int));rw[K4]at this;exact this
   ·have h1:=rC 18446744073709551616 es k 0 s2 hd.out;have h2:=jval.out;have h3:=ep.out;have h4:=dv 18446744073709551616 k V;have h5:=dv 18446744073709551616 k (V/18446744073709551616^4);rw[hl.out]at h4;rw[zA22,←Nat.pow_add,Nat.add_comm 4 k,hh.out]at h5;rw[h4,h5,zA24];clear h4 h5 hm a1 a2 jlen jlt jval jz ep hd hh hl j3 j5 j6 jb c1 c2 c3 oZ hVl am hr;generalize val 18446744073709551616 (es.set k s2)=V' at*;generalize val 18446744073709551616 es=Ve at*;generalize V%18446744073709551616^k=A at*;generalize V/18446744073709551616^4%18446744073709551616^k=D at*;generalize 18446744073709551616^k=K at*;generalize p1+t1+t2=t at*;have h5:=congrArg (K* ·) h3;simp only[Nat.mul_add]at h5⊢;have e1:K*18446744073709551616*t=K*(18446744073709551616*t):=zA26 _ _ _;have e2:38*(K*h)=K*(h*38):=(by rw[Nat.mul_comm h 38,Nat.mul_left_comm]);omega
   ·intro p h1 h2;rw[List.getElem?_set_ne zOm];exact jz.out p zOm h2
  ·obtain rfl:k=4:=zOm;have Hr:=zI 18446744073709551616 zDc es jlt;rw[jlen]at Hr;have Z0:us es=aw 4 (val 18446744073709551616 es):=by
    have:=jQ 18446744073709551616 zDc es jlt;rw[jlen]at this;rw[Mf,this]
   rw[Z0]at j6;have hV4:V/18446744073709551616^4<18446744073709551616^4:=Nat.div_lt_of_lt_mul hVl.out;have af:=fun w=>Hb (val 18446744073709551616 es) c Hr zOm w;rw[jval,zA4 hV4,←J9,Nat.mod_add_div,hr.out]at af;obtain⟨n,hn⟩:=zX (val 18446744073709551616 es);rw[hn]at af j6;replace af:=zH af;clear Hr Z0 hV4 jval jz jlt jlen hn hVl hr am;go_wp2_with(first|refine aR ?_|refine aU ?_);refine zQ (af.out _) fun w7 LI=>?_;have j3:=j3.below LI;have jb:=az jb LI;clear LI;go_wp2_with(first|refine aR ?_|refine aU ?_);exact bodyPost_ret (aj Tryz.results195 _ _ _ rfl zKr _ zaE zLn) rfl ⟨rfl,ah jb zOm _⟩
theorem Cy (n:Nat):n%pN<18446744073709551616^4:=zA25 (zA1 _ aX) zDc
theorem VV (a e m r b:Nat) (hr:a^(e/2^(m+1))%pN=r) (hb:e/2^m%2=b):a^(e/2^m)%pN=(r*r%pN)*a^b%pN:=by
 have e1:e/2^m=e/2^(m+1)+e/2^(m+1)+b:=by
  rw[zA24,←zA22];omega
 rw[e1,Nat.pow_add,Nat.pow_add,←hr,←Nat.mul_mod (a^(e/2^(m+1))),Nat.mod_mul_mod]
theorem Ey (a x:Nat) (ha:a<18446744073709551616^4) (hx:x<18446744073709551616^4) (w:World):
 CB 227 #[.agg (aw 4 a).toArray,.agg (aw 4 x).toArray] w (.agg (aw 4 (a^x%pN)).toArray):=by
 have l1:(aw 4 1).toArray=#[.int .u64 1,.int .u64 0,.int .u64 0,.int .u64 0]:=mo 1 zDc;have l1':us [1,0,0,0]=aw 4 1:=(by rfl);replace l1':=zH l1';clear l1;go_enter Tryz.func227,Tryz.ntmps227;go_upto_region 1 with fail
 refine bZ (fun W aB k1 k2 k3 kb=>?_);have k3:Arr W (w.heap.size+1+1) (aw 4 0):=k3;go_upto_region 2 with(first|refine aR ?_|refine aU ?_)
 refine aH (fun w9 ie k4 fO=>?_);have k4:Arr w9 W.heap.size (us [1,0,0,0]):=k4;rw[l1'.out,aB]at k4;obtain⟨k1,k2,k3⟩:=dZ k1 k2 k3 fO;have kb:=az kb fO;clear fO ie;go_wp2_with fail;go_loopw[6] (fun kv wr=>∃(j n:Nat),j≤256∧kv=.int .i64 ((j:Int)-1)∧a^(x/2^j)%pN=n∧Arr wr w.heap.size (aw 4 a)∧Arr wr (w.heap.size+1) (aw 4 x)∧Arr wr (w.heap.size+1+1) (aw 4 0)∧Arr wr (w.heap.size+3) (aw 4 n)∧Below w.heap.size w wr) (fun kv _=>(intOf kv+1).toNat)
 case atStart=>
  refine⟨256,1,zA0 _,rfl,?_,k1,k2,k3,?_,kb⟩
  ·rw[zA32 (zA3 hx zDc),Nat.pow_zero];decide
  ·exact k4
 case round=>
  clear k1 k2 k3 k4 kb aB;obtain⟨j,n,hj,rfl,hn,k1,k2,k3,k4,kb⟩:=hrel;have hnq:n<18446744073709551616^4:=(by rw[←hn];exact Cy _);replace hn:=zH hn;rcases Nat.eq_zero_or_pos j with rfl|uz
  ·have e:((0:Nat):Int)-1= -1:=rfl;rw[e];go_wp2_with(first|refine aR ?_|refine aU ?_);exact bodyPost_ret (aj Tryz.results227 _ _ _ rfl zKr _ zaE zLn) rfl ⟨by rw[←hn.out,Nat.pow_zero,Nat.div_one],ah kb zOm _⟩
  ·obtain⟨m,rfl⟩:∃m,j=m+1:=⟨j-1,by omega⟩;have e:((m+1:Nat):Int)-1=(m:Int):=zOm;rw[e];clear e;obtain⟨t,ht⟩:=zX (x/2^m%2);have AQ:t<2:=zOm;have fA:=VV a x m n t hn.out ht;obtain⟨q,hq⟩:=zX (n*n%pN);have hql:q<18446744073709551616^4:=(by rw[←hq];exact Cy _);have c1:=fun w=>fJ n n hnq hnq w;rw[hq]at c1 fA;have c2:=fun w=>ol x m zOm w;rw[ht]at c2;have c3:=fun w=>fJ q a hql ha w;obtain⟨r,hr⟩:=zX (q*a%pN);rw[hr]at c3;have JW:t=1→a^(x/2^m)%pN=r:=(by rintro rfl;rw[fA,Nat.pow_one,hr]);have JV:t=0→a^(x/2^m)%pN=q:=(by rintro rfl;rw[fA,Nat.pow_zero,Nat.mul_one,←hq,Nat.mod_mod]);replace c1:=zH c1;replace c2:=zH c2;replace c3:=zH c3;replace JW:=zH JW;replace JV:=zH JV;clear fA hq ht hr hn;go_wp2_with(first|refine aR ?_|refine aU ?_);refine zQ (c1.out _) fun mU dG=>?_;obtain⟨k1,k2,k3,k4⟩:=kJ k1 k2 k3 k4 dG;have kb:=az kb dG;clear dG;go_upto_region 6 with(first|(refine aU ?_))
   refine ci k4 (fun i8 k4 ad ak=>?_);obtain⟨k1,k2,k3⟩:=Dz ad k1 k2 k3;have kb:=ak _ _ zOm kb;clear ad ak;go_wp2_with(first|(refine aR ?_));refine zQ (c2.out _) fun jF dc=>?_;obtain⟨k1,k2,k3,k4⟩:=kJ k1 k2 k3 k4 dc;have kb:=az kb dc;clear dc
   by_cases h1:t=1
   ·obtain rfl:=h1;go_wp2_with(first|(refine aR ?_));refine zQ (c3.out _) fun pJ fG=>?_;obtain⟨k1,k2,k3,k4⟩:=kJ k1 k2 k3 k4 fG;have kb:=az kb fG;clear fG;go_wp2_with(first|(refine aU ?_));refine⟨⟨m,r,by omega,by go_num,JW.out (by trivial),k1.row_other zOm _,k2.row_other zOm _,k3.row_other zOm _,k4.setRow _,ah kb zOm _⟩,by simp[intOf]⟩
   ·obtain rfl:t=0:=zOm;go_wp2_with fail;exact⟨⟨m,q,by omega,by go_num,JV.out (by trivial),k1,k2,k3,k4,kb⟩,by simp[intOf]⟩
theorem ta (a:Nat) (ha:a<18446744073709551616^4) (w:World):
 CB 200 #[.agg (aw 4 a).toArray] w (.agg (aw 4 (a^(pN-2)%pN)).toArray):=by
 have c1:=zH (fun w=>zE w);have l2:(aw 4 2).toArray=#[.int .u64 2,.int .u64 0,.int .u64 0,.int .u64 0]:=mo 2 zDc;have c2:=fun w=>mn pN 2 zDc w;rw[ma zDc zDc,if_neg zDc,show aw 4 (pN+18446744073709551616^4-2)=aw 4 (pN-2)from om _ _ ⟨1,by decide⟩,l2]at c2;have c3:=zH (fun w=>Ey a (pN-2) ha zDc w);replace c2:=zH c2;clear l2;go_enter Tryz.func200,Tryz.ntmps200;go_upto_region 1 with fail
 refine be (fun W aB k1 k2 kb=>?_);have k2:Arr W (w.heap.size+1) (aw 4 0):=k2;go_wp2_with fail;refine zQ (c1.out _) fun m9 gH=>?_;obtain⟨k1,k2⟩:=fZ k1 k2 gH;have kb:=az kb gH;clear gH;go_wp2_with fail;refine zQ (c2.out _) fun qD ia=>?_;obtain⟨k1,k2⟩:=fZ k1 k2 ia;have kb:=az kb ia;clear ia;go_upto_region 2 with(first|(refine aU ?_))
 refine aK (fun w9 k4 fO=>?_);obtain⟨k1,k2⟩:=fZ k1 k2 fO;have kb:=az kb fO;clear fO;go_wp2_with(first|refine aR ?_|refine aU ?_);refine zQ (c3.out _) fun uG iz=>?_;have k2:=k2.below iz;have kb:=az kb iz;clear iz;go_wp2_with(first|refine aR ?_|refine aU ?_);exact bodyPost_ret (aj Tryz.results200 _ _ _ rfl zKr _ zaE zLn) rfl ⟨rfl,ah kb zOm _⟩
theorem aaz (n:Nat):n%pN<256^32:=zA25 (zA1 _ aX) zDc
theorem Ci {n:Nat} (h:n<256^32):n<18446744073709551616^4:=zA3 h zDc
theorem xt {P:Program} {e:TypeId} {k:IntKind} {i:TypeInfo} (he:P.underlying e=some (.int k)) (_:P.info? e=some i) (xs:List Int) (j:Nat) (x:Int) (hj:xs[j]? =some x) (w:World):
 (Go.part e (xs.map (Value.int k)).toArray j).run P w=.ok (.int k x) w:=by
 have Y9:(isAgg e).run P w=.ok false w:=by
  unfold isAgg;rw[Sem.run_bind,run_underlying he w];simp
 simp[Go.part,Sem.run_bind,Y9,hj]
theorem qu {P:Program} {e:TypeId} {k:IntKind} {i:TypeInfo} (he:P.underlying e=some (.int k)) (hi:P.info? e=some i) (d:Nat) (xs ys:List Int) (h:xs.length=ys.length) (w:World):
 ∀(m a:Nat),a+m=xs.length→(Op.eqItems (d+1) e 1 (xs.map (Value.int k)).toArray (ys.map (Value.int k)).toArray (List.range' a m)).run P w=.ok (decide (xs.drop a=ys.drop a)) w
 |0,a,hm=>by
  rw[List.drop_of_length_le zOm,List.drop_of_length_le zOm];simp[Op.eqItems]
 |m+1,a,hm=>by
  have h1:xs[a]? =some xs[a]:=zA7 zOm;have h2:ys[a]? =some ys[a]:=zA7 zOm;rw[List.range'_succ,Op.eqItems];simp only[Sem.run_bind,Nat.mul_one,xt he hi xs a _ h1 w,xt he hi ys a _ h2 w,Result.andThen_ok,run_equalIn_int w d e k k xs[a] ys[a] he];have e3:(xs.drop a=ys.drop a)↔(xs[a]=ys[a]∧xs.drop (a+1)=ys.drop (a+1)):=by
   rw[List.drop_eq_getElem_cons (by omega:a<xs.length),List.drop_eq_getElem_cons (by omega:a<ys.length),List.cons.injEq]
  have e4:decide (xs.drop a=ys.drop a)=decide (xs[a]=ys[a]∧xs.drop (a+1)=ys.drop (a+1)):=decide_eq_decide.2 e3
  by_cases e:xs[a]=ys[a]
  ·have ih:=qu he hi d xs ys h w m (a+1) zOm;rw[e4];simp[e,ih]
  ·rw[e4];simp[e]
theorem Ao {P:Program} {t e:TypeId} {k:IntKind} {n:Nat} (hu:P.underlying t=some (.array n e)) (he:P.underlying e=some (.int k)) (hi:(P.info? e).isSome=true) (hc:P.cellsOf e=1) (xs ys:List Int) (hx:xs.length=n) (hy:ys.length=n) (w:World):
 (Op.equalIn 10000 t (.agg (xs.map (Value.int k)).toArray) (.agg (ys.map (Value.int k)).toArray)).run P w=.ok (decide (xs=ys)) w:=by
 obtain⟨i,hi⟩:=Option.isSome_iff_exists.1 hi;rw[run_equalIn_array w 9999 _ _ hu hi,hc,List.range_eq_range',qu he hi 9998 xs ys zOm w n 0 zOm];simp
theorem G5 {b k m n:Nat} (h:bF b k m=bF b k n) (hm:m<b^k) (hn:n<b^k):m=n:=by
 have e:=congrArg (val b) h;rwa[ir,ir,zA4 hm,zA4 hn]at e
theorem wu (m n:Nat) (hm:m<256^32) (hn:n<256^32) (w:World):
 (Op.equalIn 10000 27 (.agg (ay m).toArray) (.agg (ay n).toArray)).run Tryz.prog w=.ok (decide (m=n)) w:=by
 have h:=Ao (P:=Tryz.prog) (t:=27) (e:=5) (k:=.u8) (n:=32) Tryz.underlying27 Tryz.underlying5 zKr zKr ((bF 256 32 m).map Int.ofNat) ((bF 256 32 n).map Int.ofNat) zaH zaH w;have e:∀k,((bF 256 32 k).map Int.ofNat).map (Value.int .u8)=ay k:=(by intro k;simp only[ay,List.map_map];rfl);rw[e,e]at h;have e2:((bF 256 32 m).map Int.ofNat=(bF 256 32 n).map Int.ofNat)=(m=n):=by
  exact zeM
 rw[h];simp only[e2]
end Go.Proofs.YtgfkgolafkdjfaaGreatDoor
