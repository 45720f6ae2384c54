/- ModelWrong: part 13 of its proof: lemmas and contracts, each with its conditions in its own statement; the last part holds the law itself. -/
import Derived.Test.YtgfkgolafkdjfaaGreatDoorJv12

set_option maxHeartbeats 4000000
set_option maxRecDepth 100000
namespace Go.Proofs.YtgfkgolafkdjfaaGreatDoor
open Go.RowKit
theorem dw {P:Program} {l:List Oper} {w:World} {i:Nat} {is:List Nat} {a A:Act} {o:Oper} (hi:l[i]? =some o) (hw:Region.wanted o (yielded l.toArray a.tmps)=true) (t:TypeId) (parts:Array (Nat×Operand)) (ho:o.op=.build t parts)
 (cells:Array Value) (hc:P.built t (parts.map fun(i,x)=>(i,a.eval x)).toList=some cells) (h:rd P l w is (a.put o.dst (.agg cells)) A):rd P l w (i::is) a A:=by
 refine cj hi hw ?_ h;exact zfd
def dN:Nat:=37095705934669439343138083508754565189542113879843219016388785533085940283555
theorem Xk:dN<pN:=by decide+kernel
def ui (x y z t:Nat):List Value:=aw 4 x++(aw 4 y++(aw 4 z++aw 4 t))
theorem ph (x y z t:Nat):(ui x y z t).length=16:=by simp[ui,aF]
theorem Mu (x y z t:Nat):∀v∈ui x y z t,v.oneCell'=true:=by
 intro v hv;simp only[ui,List.mem_append]at hv;rcases hv with h|h|h|h<;>exact lw _ _ _ h
theorem EA {w:World} {k x y z t:Nat} (h:Arr w k (ui x y z t)):w.rangeAt k 0 (aw 4 x):=h.range (fun j hj=>by
 rw[Nat.zero_add,ui,zA12 hj])
theorem Ic {w:World} {k x y z t:Nat} (h:Arr w k (ui x y z t)):w.rangeAt k 4 (aw 4 y):=h.range (fun j hj=>by
 rw[aF]at hj;rw[ui,zA2 zal,aF,show 4+j-4=j by omega,zA12 zal])
theorem Sy {w:World} {k x y z t:Nat} (h:Arr w k (ui x y z t)):w.rangeAt k 8 (aw 4 z):=h.range (fun j hj=>by
 rw[aF]at hj;rw[ui,zA2 zal,aF,zA2 zal,aF,show 8+j-4-4=j by omega,zA12 zal])
theorem Yi {w:World} {k x y z t:Nat} (h:Arr w k (ui x y z t)):w.rangeAt k 12 (aw 4 t):=h.range (fun j hj=>by
 rw[aF]at hj;rw[ui,zA2 zal,aF,zA2 zal,aF,zA2 zal,aF,show 12+j-4-4-4=j by omega])
theorem Bt (w:World):CB 198 #[] w (.agg (aw 4 dN).toArray):=by
 go_enter Tryz.func198,Tryz.ntmps198;go_upto_region 1 with fail
 refine aH (fun W aB k2 kb=>?_);replace k2:Arr W w.heap.size (aw 4 0):=k2;clear aB;go_wp2_with(first|(refine bi rfl _ _ rfl (aw 4 dN).toArray zKr ?_)|(refine aU ?_));exact bodyPost_ret (aj Tryz.results198 _ _ _ rfl zKr _ zaE zLn) rfl ⟨rfl,ah kb (zA0 _) _⟩
theorem Ot (w:World):CB 205 #[] w (.agg (ui 0 1 1 0).toArray):=by
 go_enter Tryz.func205,Tryz.ntmps205;go_upto_region 1 with fail
 refine aH (fun W aB k2 kb=>?_);replace k2:Arr W w.heap.size (ui 0 0 0 0):=k2;clear aB;go_wp2_with(refine aD rfl _ _ _ rfl _ (ui 0 1 1 0) rfl zKr _ k2 zba (by rw[ph,ph]) (Mu _ _ _ _) (fun w4 k6 hg aB=>?_));have kb:=aq kb hg (zA0 _) kb.size;exact bodyPost_ret (aj Tryz.results205 _ _ _ rfl zKr _ k6 zba) rfl ⟨rfl,kb⟩
theorem aaC (x1 y1 z1 t1 x2 y2 z2 t2:Nat) (lx1:x1<pN) (ly1:y1<pN) (lz1:z1<pN) (lt1:t1<pN) (lx2:x2<pN) (ly2:y2<pN) (lz2:z2<pN) (lt2:t2<pN) {d1 d2 a b1 b2 b k2 c1 c zz z e f g h r1 r2 r3 r4:Nat}
 (g1:Hid ((y1+pN-x1)%pN=d1)) (g2:Hid ((y2+pN-x2)%pN=d2)) (g3:Hid (d1*d2%pN=a)) (g4:Hid ((y1+x1)%pN=b1)) (g5:Hid ((y2+x2)%pN=b2)) (g6:Hid (b1*b2%pN=b)) (g7:Hid ((dN+dN)%pN=k2)) (g8:Hid (t1*k2%pN=c1)) (g9:Hid (c1*t2%pN=c)) (g10:Hid ((z2+z2)%pN=zz)) (g11:Hid (z1*zz%pN=z)) (g12:Hid ((b+pN-a)%pN=e)) (g13:Hid ((z+pN-c)%pN=f)) (g14:Hid ((z+c)%pN=g)) (g15:Hid ((b+a)%pN=h)) (g16:Hid (e*f%pN=r1)) (g17:Hid (g*h%pN=r2)) (g18:Hid (f*g%pN=r3)) (g19:Hid (e*h%pN=r4)) (w:World):
 CB 171 #[.agg (ui x1 y1 z1 t1).toArray,.agg (ui x2 y2 z2 t2).toArray] w (.agg (ui r1 r2 r3 r4).toArray):=by
 have zp:pN<18446744073709551616^4:=zDc;have lim:∀ {n:Nat},n<pN→n<18446744073709551616^4:=fun h=>zA25 h zp;have ldN:=Xk;have ld1:d1<pN:=g1.out▸zA1 _ aX;have ld2:d2<pN:=g2.out▸zA1 _ aX;have la:a<pN:=g3.out▸zA1 _ aX;have lb1:b1<pN:=g4.out▸zA1 _ aX;have lb2:b2<pN:=g5.out▸zA1 _ aX;have lb:b<pN:=g6.out▸zA1 _ aX;have lk2:k2<pN:=g7.out▸zA1 _ aX;have lc1:c1<pN:=g8.out▸zA1 _ aX;have lc:c<pN:=g9.out▸zA1 _ aX;have lzz:zz<pN:=g10.out▸zA1 _ aX;have lz:z<pN:=g11.out▸zA1 _ aX;have le:e<pN:=g12.out▸zA1 _ aX;have lf:f<pN:=g13.out▸zA1 _ aX;have lg:g<pN:=g14.out▸zA1 _ aX;have lh:h<pN:=g15.out▸zA1 _ aX;have lr1:r1<pN:=g16.out▸zA1 _ aX;have lr2:r2<pN:=g17.out▸zA1 _ aX;have lr3:r3<pN:=g18.out▸zA1 _ aX;have lr4:r4<pN:=g19.out▸zA1 _ aX;have q1:=zH (fun w=>pb g1 ly1 lx1 w);have q2:=zH (fun w=>pb g2 ly2 lx2 w);have q3:=zH (fun w=>fY g3 (lim ld1) (lim ld2) w);have q4:=zH (fun w=>pu g4 (lim ly1) (lim lx1) w)
 have q5:=zH (fun w=>pu g5 (lim ly2) (lim lx2) w);have q6:=zH (fun w=>fY g6 (lim lb1) (lim lb2) w);have q7:=zH (fun w=>pu g7 (lim ldN) (lim ldN) w);have q8:=zH (fun w=>fY g8 (lim lt1) (lim lk2) w);have q9:=zH (fun w=>fY g9 (lim lc1) (lim lt2) w);have q10:=zH (fun w=>pu g10 (lim lz2) (lim lz2) w);have q11:=zH (fun w=>fY g11 (lim lz1) (lim lzz) w);have q12:=zH (fun w=>pb g12 lb la w);have q13:=zH (fun w=>pb g13 lz lc w);have q14:=zH (fun w=>pu g14 (lim lz) (lim lc) w);have q15:=zH (fun w=>pu g15 (lim lb) (lim la) w);have q16:=zH (fun w=>fY g16 (lim le) (lim lf) w);have q17:=zH (fun w=>fY g17 (lim lg) (lim lh) w);have q18:=zH (fun w=>fY g18 (lim lf) (lim lg) w);have q19:=zH (fun w=>fY g19 (lim le) (lim lh) w);clear g1 g2 g3 g4 g5 g6 g7 g8 g9 g10 g11 g12 g13 g14 g15 g16 g17 g18 g19 zp ldN lim lx1 ly1 lz1 lt1 lx2 ly2 lz2 lt2 ld1 ld2 la lb1 lb2 lb lk2 lc1 lc lzz lz le lf lg lh lr1 lr2 lr3 lr4
 go_enter Tryz.func171,Tryz.ntmps171;go_upto_region 1 with fail
 refine bZ (fun W aB kA kB k4 kb=>?_);have kA:Arr W w.heap.size (ui x1 y1 z1 t1):=kA;have kB:Arr W (w.heap.size+1) (ui x2 y2 z2 t2):=kB;have k4:Arr W (w.heap.size+1+1) (ui 0 0 0 0):=k4;clear aB;go_upto_region 1 with(first|refine aR ?_|refine aU ?_)
 go_wp2_with(first|refine aR ?_|refine aU ?_);refine zQ (Bt _) fun mU dG=>?_;have kA:=kA.below dG;have kB:=kB.below dG;have k4:=k4.below dG;have kb:=az kb dG;clear dG;go_upto_region 2 with(first|refine aR ?_|refine aU ?_)
 have QE:=kA.lt;have QF:=kB.lt;have iL:=k4.lt;refine aK (fun i8 k5 aA=>?_);have kA:=kA.below aA;have kB:=kB.below aA;have k4:=k4.below aA;have kb:=az kb aA;clear aA;generalize (mU).heap.size=tZ at k5 QE QF iL⊢;go_upto_region 2 with(first|refine aR ?_|refine aU ?_)
 refine cH 12 13 fun bB=>?_;refine dz ?_ 5 495 zaI [0,1,2,3,5,6,7,8] (fun w' hB=>by have e0:=kA.below hB;have e1:=kB.below hB;have e2:=k4.below hB;have e3:=k5.below hB;have yA:=Ic (kA.below hB);have xA:=EA (kA.below hB);have yB:=Ic (kB.below hB);have xB:=EA (kB.below hB);exact zRm) ?_;refine bG 1 4095 [(4,19),(9,24),(10,25),(11,6)] [(false,[]),(false,[]),(false,[(4,19),(9,24)]),(false,[])] [(4,Ph.is (.agg (aw 4 d1).toArray)),(9,Ph.is (.agg (aw 4 d2).toArray)),(10,Ph.is (.agg (aw 4 a).toArray)),(11,Ph.arr (i8).heap.size (aw 4 0))] zKr zKr zaA ?_ ?_
 ·refine⟨⟨_,rfl,?_⟩,⟨_,rfl,?_⟩,⟨_,rfl,?_⟩,⟨_,rfl,?_⟩,trivial⟩
  ·exact oT q1.out
  ·exact oT q2.out
  ·exact zP2 q3.out
  ·exact zcV
 intro vs abT qK YU hP hD;obtain⟨q4,q9,q10,q11,-⟩:=hP;simp only[aG,Act.put,zSa,zSz,zSs];rw[show vs 4=_ from q4,show vs 9=_ from q9,show vs 10=_ from q10];clear q4 q9 q10;obtain⟨g11,e11,j8,qP⟩:=q11;rw[e11];clear e11 hD vs;have RJ:=zA3 kA.lt j8;have RK:=zA3 kB.lt j8;have RI:=zI2 k4 k5 j8;have kA:=kA.below qK;have kB:=kB.below qK;obtain⟨k4,k5⟩:=fZ k4 k5 qK;have kb:=az kb qK;refine kO 8191 ?_;refine ap zKr ?_;refine aV qP (fun pJ qP ad ak=>?_);have kA:=ad _ _ zOm kA;have kB:=ad _ _ zOm kB;obtain⟨k4,k5⟩:=rR ad k4 k5;have kb:=ak _ _ zOm kb;clear ad ak;have k6:=qP;clear qP;generalize g11=t9 at*;go_upto_region 3 with(first|refine aR ?_|refine aU ?_)
 refine cH 12 13 fun di=>?_;refine dz ?_ 5 495 zaK [0,1,2,3,5,6,7,8] (fun w' hB=>by have e0:=kA.below hB;have e1:=kB.below hB;have e2:=k4.below hB;have e3:=k5.below hB;have e4:=k6.below hB;have yA:=Ic (kA.below hB);have xA:=EA (kA.below hB);have yB:=Ic (kB.below hB);have xB:=EA (kB.below hB);exact zRm) ?_;refine bG 1 4095 [(4,30),(9,35),(10,36),(11,7)] [(false,[]),(false,[]),(false,[(4,30),(9,35)]),(false,[])] [(4,Ph.is (.agg (aw 4 b1).toArray)),(9,Ph.is (.agg (aw 4 b2).toArray)),(10,Ph.is (.agg (aw 4 b).toArray)),(11,Ph.arr (pJ).heap.size (aw 4 0))] zKr zKr zaA ?_ ?_
 ·refine⟨⟨_,rfl,?_⟩,⟨_,rfl,?_⟩,⟨_,rfl,?_⟩,⟨_,rfl,?_⟩,trivial⟩
  ·exact oT q4.out
  ·exact oT q5.out
  ·exact zP2 q6.out
  ·exact zcV
 intro vs abU qL YV hP hD;obtain⟨q4,q9,q10,q11,-⟩:=hP;simp only[aG,Act.put,zSa,zSz,zSs];rw[show vs 4=_ from q4,show vs 9=_ from q9,show vs 10=_ from q10];clear q4 q9 q10;obtain⟨g11,e11,j8,qP⟩:=q11;rw[e11];clear e11 hD vs;have RL:=zA3 kA.lt j8;have RM:=zA3 kB.lt j8;have HJ:=UD k4 k5 k6 j8;have kA:=kA.below qL;have kB:=kB.below qL;obtain⟨k4,k5,k6⟩:=dZ k4 k5 k6 qL;have kb:=az kb qL;refine kO 8191 ?_;refine ap zKr ?_;refine aV qP (fun qD qP ad ak=>?_);have kA:=ad _ _ zOm kA;have kB:=ad _ _ zOm kB;obtain⟨k4,k5,k6⟩:=Dz ad k4 k5 k6;have kb:=ak _ _ zOm kb;clear ad ak;have k7:=qP;clear qP;generalize g11=wx at*;go_upto_region 4 with(first|refine aR ?_|refine aU ?_)
 refine cH 10 11 fun iB=>?_;refine dz ?_ 5 207 zbb [0,1,2,3,6,7] (fun w' hB=>by have e0:=kA.below hB;have e1:=kB.below hB;have e2:=k4.below hB;have e3:=k5.below hB;have e4:=k6.below hB;have e5:=k7.below hB;have tA:=Yi (kA.below hB);have tB:=Yi (kB.below hB);exact zRm) ?_;refine bG 1 1023 [(4,41),(5,42),(8,45),(9,8)] [(false,[]),(false,[(4,41)]),(false,[(5,42)]),(false,[])] [(4,Ph.is (.agg (aw 4 k2).toArray)),(5,Ph.is (.agg (aw 4 c1).toArray)),(8,Ph.is (.agg (aw 4 c).toArray)),(9,Ph.arr (qD).heap.size (aw 4 0))] zKr zKr zaA ?_ ?_
 ·refine⟨⟨_,rfl,?_⟩,⟨_,rfl,?_⟩,⟨_,rfl,?_⟩,⟨_,rfl,?_⟩,trivial⟩
  ·exact oT q7.out
  ·exact DB q8.out
  ·exact DB q9.out
  ·exact zcV
 intro vs abW qM YX hP hD;obtain⟨q4,q5,q8,q9,-⟩:=hP;simp only[aG,Act.put,zSa,zSz,zSs];rw[show vs 4=_ from q4,show vs 5=_ from q5,show vs 8=_ from q8];clear q4 q5 q8;obtain⟨g9,e9,kP,Pi⟩:=q9;rw[e9];clear e9 hD vs;have aeg:=zA3 kA.lt kP;have aeh:=zA3 kB.lt kP;have RN:=zI4 k4 k5 k6 k7 kP;have kA:=kA.below qM;have kB:=kB.below qM;obtain⟨k4,k5,k6,k7⟩:=kJ k4 k5 k6 k7 qM;have kb:=az kb qM;refine kO 2047 ?_;refine ap zKr ?_;refine aV Pi (fun rY Pi ad ak=>?_);have kA:=ad _ _ zOm kA;have kB:=ad _ _ zOm kB;obtain⟨k4,k5,k6,k7⟩:=MQ ad k4 k5 k6 k7;have kb:=ak _ _ zOm kb;clear ad ak;have k8:=Pi;clear Pi;generalize g9=xX at*;go_upto_region 5 with(first|refine aR ?_|refine aU ?_)
 refine cH 9 10 fun hU=>?_;refine dz ?_ 4 63 zaF [0,1,2,3,4,5] (fun w' hB=>by have e0:=kA.below hB;have e1:=kB.below hB;have e2:=k4.below hB;have e3:=k6.below hB;have e4:=k7.below hB;have e5:=k8.below hB;have zA:=Sy (kA.below hB);have zB:=Sy (kB.below hB);exact zRm) ?_;refine bG 1 511 [(6,52),(7,53),(8,9)] [(false,[]),(false,[(6,52)]),(false,[])] [(6,Ph.is (.agg (aw 4 zz).toArray)),(7,Ph.is (.agg (aw 4 z).toArray)),(8,Ph.arr (rY).heap.size (aw 4 0))] zKr zKr zaA ?_ ?_
 ·refine⟨⟨_,rfl,?_⟩,⟨_,rfl,?_⟩,⟨_,rfl,?_⟩,trivial⟩
  ·exact oT q10.out
  ·exact DB q11.out
  ·exact zcV
 intro vs abY qO YZ hP hD;obtain⟨q6,q7,q8,-⟩:=hP;simp only[aG,Act.put,zSa,zSz,zSs];rw[show vs 6=_ from q6,show vs 7=_ from q7];clear q6 q7;obtain⟨g8,e8,AM,LG⟩:=q8;rw[e8];clear e8 hD vs;have aej:=zA3 kA.lt AM;have aek:=zA3 kB.lt AM;have RO:=zI4 k4 k6 k7 k8 AM;have kA:=kA.below qO;have kB:=kB.below qO;obtain⟨k4,k6,k7,k8⟩:=kJ k4 k6 k7 k8 qO;have kb:=az kb qO;refine kO 1023 ?_;refine ap zKr ?_;refine aV LG (fun kN LG ad ak=>?_);have kA:=ad _ _ zOm kA;have kB:=ad _ _ zOm kB;obtain⟨k4,k6,k7,k8⟩:=MQ ad k4 k6 k7 k8;have kb:=ak _ _ zOm kb;clear ad ak;have k9:=LG;clear LG;generalize g8=Ar at*;go_upto_region 6 with(first|refine aR ?_|refine aU ?_)
 refine cH 16 20 fun gZ=>?_;refine eZ ?_ 12 1755 zaG [0,1,3,4,6,7,9,10] (fun w' hB=>by obtain⟨e0,e1,e2,e3,e4⟩:=uk k4 k6 k7 k8 k9 hB;exact zRd) ?_;refine ts 4 65535 [(2,56),(5,59),(8,62),(11,65),(12,10),(13,11),(14,12),(15,13)] [(false,[]),(false,[]),(false,[]),(false,[]),(false,[]),(false,[]),(false,[]),(false,[])] [(2,Ph.is (.agg (aw 4 e).toArray)),(5,Ph.is (.agg (aw 4 f).toArray)),(8,Ph.is (.agg (aw 4 g).toArray)),(11,Ph.is (.agg (aw 4 h).toArray)),(12,Ph.arr (kN).heap.size (aw 4 0)),(13,Ph.arr (kN).heap.size (aw 4 0)),(14,Ph.arr (kN).heap.size (aw 4 0)),(15,Ph.arr (kN).heap.size (aw 4 0))] zKr zKr zaA ?_ ?_
 ·refine⟨⟨_,rfl,?_⟩,⟨_,rfl,?_⟩,⟨_,rfl,?_⟩,⟨_,rfl,?_⟩,⟨_,rfl,?_⟩,⟨_,rfl,?_⟩,⟨_,rfl,?_⟩,⟨_,rfl,?_⟩,trivial⟩
  ·exact oT q12.out
  ·exact oT q13.out
  ·exact oT q14.out
  ·exact oT q15.out
  ·exact zcV
  ·exact zcV
  ·exact zcV
  ·exact zcV
 intro vs ab0 BE Y3 hP hD;obtain⟨q2,q5,q8,q11,q12,q13,q14,q15,-⟩:=hP;simp only[aG,Act.put,zSa,zSz,zSs];rw[show vs 2=_ from q2,show vs 5=_ from q5,show vs 8=_ from q8,show vs 11=_ from q11];clear q2 q5 q8 q11;obtain⟨g12,e12,U8,acF⟩:=q12;rw[e12];obtain⟨g13,e13,U9,acG⟩:=q13;rw[e13];obtain⟨g14,e14,Va,Fy⟩:=q14;rw[e14];obtain⟨g15,e15,Hm,acH⟩:=q15;rw[e15];have ne12_13:g12≠g13:=fun h=>hD 12 13 rfl rfl rfl rfl rfl (by rw[e12,e13,h]);have ne12_14:g12≠g14:=fun h=>hD 12 14 rfl rfl rfl rfl rfl (by rw[e12,e14,h]);have ne12_15:g12≠g15:=fun h=>hD 12 15 rfl rfl rfl rfl rfl (by rw[e12,e15,h]);have ne13_14:g13≠g14:=fun h=>hD 13 14 rfl rfl rfl rfl rfl (by rw[e13,e14,h]);have ne13_15:g13≠g15:=fun h=>hD 13 15 rfl rfl rfl rfl rfl (by rw[e13,e15,h]);have ne14_15:g14≠g15:=fun h=>hD 14 15 rfl rfl rfl rfl rfl (by rw[e14,e15,h]);clear e12 e13 e14 e15 hD vs;have NW:=zI5 k4 k6 k7 k8 k9 U8
 have NX:=zI5 k4 k6 k7 k8 k9 U9;have abC:=zI5 k4 k6 k7 k8 k9 Va;have abD:=zI5 k4 k6 k7 k8 k9 Hm;obtain⟨k4,k6,k7,k8,k9⟩:=uk k4 k6 k7 k8 k9 BE;have kb:=az kb BE;have k10:=acF;clear acF;generalize g12=pU at*;have k11:=acG;clear acG;generalize g13=Hc at*;have k12:=Fy;clear Fy;generalize g14=LC at*;have k13:=acH;clear acH;generalize g15=Eg at*;refine kO 131071 ?_;refine jI k10 (fun tq k10 ad ak=>?_);obtain⟨k4,k6,k7,k8,k9,k11⟩:=oK ad k4 k6 k7 k8 k9 k11;obtain⟨k12,k13⟩:=rR ad k12 k13;have kb:=ak _ _ zOm kb;clear ad ak;refine aY 17 262143 rfl zDk (fun K hK=>?_);refine bJ rfl _ _ _ rfl _ _ rfl rfl _ zAm zLn zLm zOn ?_;refine hK (fun _=>True) _ _ trivial (fun _ h=>h) ?_;clear hK K;try simp only[Act.put]
 refine jI k11 (fun rD k11 ad ak=>?_);obtain⟨k4,k6,k7,k8,k9,k10⟩:=oK ad k4 k6 k7 k8 k9 k10;obtain⟨k12,k13⟩:=rR ad k12 k13;have kb:=ak _ _ zOm kb;clear ad ak;refine aY 18 524287 rfl zDk (fun K hK=>?_);refine bJ rfl _ _ _ rfl _ _ rfl rfl _ zAm zLn zLm zOn ?_;refine hK (fun _=>True) _ _ trivial (fun _ h=>h) ?_;clear hK K;try simp only[Act.put]
 refine jI k12 (fun rE k12 ad ak=>?_);obtain⟨k4,k6,k7,k8,k9,k10⟩:=oK ad k4 k6 k7 k8 k9 k10;obtain⟨k11,k13⟩:=rR ad k11 k13;have kb:=ak _ _ zOm kb;clear ad ak;refine aY 19 1048575 rfl zDk (fun K hK=>?_);refine bJ rfl _ _ _ rfl _ _ rfl rfl _ zAm zLn zLm zOn ?_;refine hK (fun _=>True) _ _ trivial (fun _ h=>h) ?_;clear hK K;try simp only[Act.put]
 refine ap zKr ?_
 first|refine aV k13 (fun uj k13 ad ak=>?_)|refine eu k13 (fun uj k13 ad ak=>?_)
 obtain⟨k4,k6,k7,k8,k9,k10⟩:=oK ad k4 k6 k7 k8 k9 k10;obtain⟨k11,k12⟩:=rR ad k11 k12;have kb:=ak _ _ zOm kb;clear ad ak;go_upto_region 7 with(first|refine aR ?_|refine aU ?_)
 refine cH 13 14 fun lT=>?_;refine gF (A:=?_) 6 1755 zKr (by exact lT) [0,1,3,4,6,7,9,10] zKr ?_ ?_;rotate_left
 ·intro w' hB;obtain⟨e0,e1,e2,e3,e4⟩:=uk k4 k10 k11 k12 k13 hB;iterate 8 (first|(refine db rfl rfl ?_;simp only[Act.put,zSa,zSz,zSs])|(refine bN rfl rfl _ _ rfl _ rfl zDk _ zAm zLn ?_;simp only[Act.put,zSa,zSz,zSs])|(refine dw rfl rfl _ _ rfl (ui r1 r2 r3 r4).toArray zKr ?_;simp only[Act.put,zSa,zSz,zSs])|(refine cj (v:=?_) rfl rfl ?_ ?_;rotate_left;(focus (go_simp;try(with_reducible rfl)));simp only[Act.put,zSa,zSz,zSs]))
  exact eo
 refine eg 2 1759 lT q16.out fun zK nh=>?_;refine eg 5 1791 nh q17.out fun Dm nR=>?_;refine eg 8 2047 nR q18.out fun Dn pV=>?_;refine eg 11 4095 pV q19.out fun DV ni=>?_;refine gF (A:=?_) 1 8191 zKr (by exact ni) [12] zKr ?_ ?_;rotate_left
 ·intro w' hB;iterate 1 (first|(refine db rfl rfl ?_;simp only[Act.put,zSa,zSz,zSs])|(refine bN rfl rfl _ _ rfl _ rfl zDk _ zAm zLn ?_;simp only[Act.put,zSa,zSz,zSs])|(refine dw rfl rfl _ _ rfl (ui r1 r2 r3 r4).toArray zKr ?_;simp only[Act.put,zSa,zSz,zSs])|(refine cj (v:=?_) rfl rfl ?_ ?_;rotate_left;(focus (go_simp;try(with_reducible rfl)));simp only[Act.put,zSa,zSz,zSs]))
  exact eo
 obtain⟨k4,k10,k11,k12,k13⟩:=uk k4 k10 k11 k12 k13 ni;have kb:=az kb ni;refine kO 16383 ?_;refine ap zKr ?_;refine aV k4 (fun DW k4 ad ak=>?_);obtain⟨k10,k11,k12,k13⟩:=MQ ad k10 k11 k12 k13;have kb:=ak _ _ zOm kb;clear ad ak;go_wp2_with fail;exact bodyPost_ret (aj Tryz.results171 _ _ _ rfl zKr _ k4 zba) rfl ⟨rfl,kb⟩
structure Pn where
 x:Nat
 y:Nat
 z:Nat
 t:Nat
def Pn.cs (P:Pn):List Value:=ui P.x P.y P.z P.t
def Pn.ok (P:Pn):Prop:=P.x<pN∧P.y<pN∧P.z<pN∧P.t<pN
def mkP (a b c z:Nat):Pn:=⟨(b+pN-a)%pN*((z+pN-c)%pN)%pN,(z+c)%pN*((b+a)%pN)%pN,(z+pN-c)%pN*((z+c)%pN)%pN,(b+pN-a)%pN*((b+a)%pN)%pN⟩
def oL (P Q:Pn):Pn:=mkP ((P.y+pN-P.x)%pN*((Q.y+pN-Q.x)%pN)%pN) ((P.y+P.x)%pN*((Q.y+Q.x)%pN)%pN) (P.t*((dN+dN)%pN)%pN*Q.t%pN) (P.z*((Q.z+Q.z)%pN)%pN)
theorem vX (P Q:Pn):(oL P Q).ok:=⟨zA1 _ aX,zA1 _ aX,zA1 _ aX,zA1 _ aX⟩
theorem Cz (P Q:Pn) (hP:P.ok) (hQ:Q.ok) (w:World):
 CB 171 #[.agg P.cs.toArray,.agg Q.cs.toArray] w (.agg (oL P Q).cs.toArray):=
 aaC P.x P.y P.z P.t Q.x Q.y Q.z Q.t hP.1 hP.2.1 hP.2.2.1 hP.2.2.2 hQ.1 hQ.2.1 hQ.2.2.1 hQ.2.2.2 (zH rfl) (zH rfl) (zH rfl) (zH rfl) (zH rfl) (zH rfl) (zH rfl) (zH rfl) (zH rfl) (zH rfl)
  (zH rfl) (zH rfl) (zH rfl) (zH rfl) (zH rfl) (zH rfl) (zH rfl) (zH rfl) (zH rfl) w
theorem eF {n k v m:Nat} (hk:k<32) (hn:n<256^32) (hv:v<256) (h:m+256^k*(n/256^k%256)=n+256^k*v):(ay n).set k (.int .u8 (v:Int))=ay m:=by
 have h1:=rC 256 (bF 256 32 n) k _ v (eG 256 32 n k hk);rw[ir,zA4 hn]at h1;have h2:val 256 ((bF 256 32 n).set k v)=m:=zOm;have h3:=jQ 256 zDc ((bF 256 32 n).set k v) (Gn (nD 256 32 n zDc) hv);rw[zA23,bj,h2]at h3;rw[ay,ay,h3,List.map_set]
theorem D5 (k:Nat) (hk:k<32):(ay (256^k-1)).set k (.int .u8 255)=ay (256^(k+1)-1):=by
 have hp:0<256^k:=Nat.pow_pos zDc;have DL:256^k≤256^32:=Nat.pow_le_pow_right zDc zOm;refine eF (v:=255) hk zOm zDc ?_;rw[zA32 zOm,zA24];omega
end Go.Proofs.YtgfkgolafkdjfaaGreatDoor
