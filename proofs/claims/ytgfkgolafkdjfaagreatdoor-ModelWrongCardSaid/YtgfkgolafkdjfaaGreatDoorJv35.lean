/- ModelWrong: part 35 of its proof: lemmas and contracts, each with its conditions in its own statement; the last part holds the law itself. -/
import Derived.Test.YtgfkgolafkdjfaaGreatDoorJv34

set_option maxHeartbeats 8000000
set_option maxRecDepth 100000
namespace Go.Proofs.YtgfkgolafkdjfaaGreatDoor
open Go.RowKit
structure Rq where
 (x y z t:Int)
abbrev rq (U:Rq):List Value:=el (dQ U.x++(dQ U.y++(dQ U.z++dQ U.t)))
def Rq.is (U:Rq) (P:Pn):Prop:=EU P.x U.x∧EU P.y U.y∧EU P.z U.z∧EU P.t U.t
theorem qF (a b:List Int):el (a++b)=el a++el b:=List.map_append
theorem rH (x:Int):(el (dQ x)).length=16:=by rw[eI];rfl
theorem Ta {w:World} {k:Nat} {U:Rq} (h:Arr w k (rq U)):w.rangeAt k 0 (el (dQ U.x)):=h.range (fun j hj=>by
 unfold rq;rw[Nat.zero_add,qF,zA12 hj])
theorem Tb {w:World} {k:Nat} {U:Rq} (h:Arr w k (rq U)):w.rangeAt k 16 (el (dQ U.y)):=h.range (fun j hj=>by
 unfold rq;rw[qF,qF,zA2 zcB,rH,show 16+j-16=j by omega,zA12 hj])
theorem aaJ {w:World} {k:Nat} {U:Rq} (h:Arr w k (rq U)):w.rangeAt k 32 (el (dQ U.z)):=h.range (fun j hj=>by
 unfold rq;rw[qF,qF,qF,zA2 zcB,rH,zA2 zcB,rH,show 32+j-16-16=j by omega,zA12 hj])
theorem aex {w:World} {k:Nat} {U:Rq} (h:Arr w k (rq U)):w.rangeAt k 48 (el (dQ U.t)):=h.range (fun j hj=>by
 unfold rq;rw[qF,qF,qF,zA2 zcB,rH,zA2 zcB,rH,zA2 zcB,rH,show 48+j-16-16-16=j by omega])
theorem EU.lit (n:Nat) (hn:n<256^32):EU n n:=EU.of hn
theorem qZ:EU (1:Nat) 1:=by unfold EU;rw[AY];exact El.one
theorem Te {P Q:Pn} {U V:Rq} (hP:P.ok) (hQ:Q.ok) (eP:U.is P) (eQ:V.is Q):∃W:Rq,W.is (oL P Q)∧∀w,Arr w 4 (el (dQ dN))→
 CB 107 #[.agg (rq U).toArray,.agg (rq V).toArray] w (.agg (rq W).toArray):=by
 obtain⟨x1,y1,z1,t1⟩:=P;obtain⟨x2,y2,z2,t2⟩:=Q;obtain⟨X1,Y1,Z1,T1⟩:=U;obtain⟨X2,Y2,Z2,T2⟩:=V;obtain⟨ex1,ey1,ez1,et1⟩:=eP;obtain⟨ex2,ey2,ez2,et2⟩:=eQ;obtain⟨lx1,ly1,-,-⟩:=hP;obtain⟨lx2,ly2,-,-⟩:=hQ;simp only at*;have eD:EU dN dN:=EU.lit _ zDc;obtain⟨R1,h1,E1⟩:=EU.subX ly1 lx1 ey1 ex1;obtain⟨R2,h2,E2⟩:=EU.subX ly2 lx2 ey2 ex2;obtain⟨R3,h3,E3⟩:=E1.mulX E2;obtain⟨R4,h4,E4⟩:=ey1.addX ex1;obtain⟨R5,h5,E5⟩:=ey2.addX ex2;obtain⟨R6,h6,E6⟩:=E4.mulX E5;obtain⟨R7,h7,E7⟩:=et1.mulX et2;obtain⟨R8,h8,E8⟩:=eD.addX eD;obtain⟨R9,h9,E9⟩:=E7.mulX E8;obtain⟨R10,Um,E10⟩:=ez1.mulX ez2;obtain⟨R11,Pe,E11⟩:=E10.addX E10;obtain⟨R12,Pf,E12⟩:=EU.subX (jD _) (jD _) E6 E3;obtain⟨R13,Xr,E13⟩:=EU.subX (jD _) (jD _) E11 E9;obtain⟨R14,Pg,E14⟩:=E11.addX E9;obtain⟨R15,qJ,E15⟩:=E6.addX E3;obtain⟨R16,LE,E16⟩:=E12.mulX E13;obtain⟨R17,Xs,E17⟩:=E15.mulX E14;obtain⟨R18,Xt,E18⟩:=E13.mulX E14;obtain⟨R19,h19,E19⟩:=E12.mulX E15
 have q1:=zH (fun w=>lF ey1 ex1 h1 w);have q2:=zH (fun w=>lF ey2 ex2 h2 w);have q3:=zH (fun w=>dh E1 E2 h3 w);have q4:=zH (fun w=>ki ey1 ex1 h4 w);have q5:=zH (fun w=>ki ey2 ex2 h5 w);have q6:=zH (fun w=>dh E4 E5 h6 w);have q7:=zH (fun w=>dh et1 et2 h7 w);have q8:=zH (fun w=>ki eD eD h8 w);have q9:=zH (fun w=>dh E7 E8 h9 w);have q10:=zH (fun w=>dh ez1 ez2 Um w);have q11:=zH (fun w=>ki E10 E10 Pe w);have q12:=zH (fun w=>lF E6 E3 Pf w);have q13:=zH (fun w=>lF E11 E9 Xr w);have q14:=zH (fun w=>ki E11 E9 Pg w);have q15:=zH (fun w=>ki E6 E3 qJ w);have q16:=zH (fun w=>dh E12 E13 LE w);have q17:=zH (fun w=>dh E15 E14 Xs w);have q18:=zH (fun w=>dh E13 E14 Xt w);have q19:=zH (fun w=>dh E12 E15 h19 w);have hc:t1*t2%pN*((dN+dN)%pN)%pN=t1*((dN+dN)%pN)%pN*t2%pN:=by
  rw[Nat.mod_mul_mod,Nat.mod_mul_mod,zA26,zA26,Nat.mul_comm t2]
 have hz:(z1*z2%pN+z1*z2%pN)%pN=z1*((z2+z2)%pN)%pN:=by
  rw[Nat.mul_mod_mod,Nat.mul_add];exact(Nat.add_mod _ _ _).symm
 rw[hc,hz]at E13 E14 E16 E17 E18;have hI:(⟨R16,R17,R18,R19⟩:Rq).is (oL ⟨x1,y1,z1,t1⟩ ⟨x2,y2,z2,t2⟩):=⟨E16,by rw[Nat.mul_comm]at E17;exact E17,E18,E19⟩;refine⟨⟨R16,R17,R18,R19⟩,hI,fun w kD=>?_⟩;replace kD:=zH kD;clear hI hc hz h1 h2 h3 h4 h5 h6 h7 h8 h9 Um Pe Pf Xr Pg qJ LE Xs Xt h19 E1 E2 E3 E4 E5 E6 E7 E8 E9 E10 E11 E12 E13 E14 E15 E16 E17 E18 E19 eD ex1 ey1 ez1 et1 ex2 ey2 ez2 et2 lx1 ly1 lx2 ly2;go_enter Tryz.func107,Tryz.ntmps107;go_upto_region 1 with fail
 refine bZ (fun W aB kA kB k4 kb=>?_);have kA:Arr W w.heap.size (rq ⟨X1,Y1,Z1,T1⟩):=kA;have kB:Arr W (w.heap.size+1) (rq ⟨X2,Y2,Z2,T2⟩):=kB;have k4:Arr W (w.heap.size+1+1) (rq ⟨0,0,0,0⟩):=k4;have hG:=kD.out.lt;have kD:=kD.out.below kb;clear aB;go_upto_region 1 with(first|refine aR ?_|refine aU ?_)
 refine cH 12 13 fun aP=>?_;refine dz ?_ 5 495 zaD [0,1,2,3,5,6,7,8] (fun w' hB=>by have e0:=kA.below hB;have e1:=kB.below hB;have e2:=k4.below hB;have e3:=kD.below hB;have yA:=Tb (kA.below hB);have xA:=Ta (kA.below hB);have yB:=Tb (kB.below hB);have xB:=Ta (kB.below hB);exact zRm) ?_;refine bG 1 4095 [(4,17),(9,22),(10,23),(11,5)] [(false,[]),(false,[]),(false,[(4,17),(9,22)]),(false,[])] [(4,Ph.is (.agg (el (dQ R1)).toArray)),(9,Ph.is (.agg (el (dQ R2)).toArray)),(10,Ph.is (.agg (el (dQ R3)).toArray)),(11,Ph.arr (W).heap.size (el (dQ 0)))] zKr zKr zaA ?_ ?_
 ·refine⟨⟨_,rfl,?_⟩,⟨_,rfl,?_⟩,⟨_,rfl,?_⟩,⟨_,rfl,?_⟩,trivial⟩
  ·exact oT q1.out
  ·exact oT q2.out
  ·exact zP2 q3.out
  ·exact zcV
 intro vs abP nT YQ hP hD;obtain⟨q4,q9,q10,q11,-⟩:=hP;simp only[aG,Act.put,zSa,zSz,zSs];rw[show vs 4=_ from q4,show vs 9=_ from q9,show vs 10=_ from q10];clear q4 q9 q10;obtain⟨g11,e11,j8,qP⟩:=q11;rw[e11];clear e11 hD vs;have ad8:=zA3 kA.lt j8;have ad9:=zA3 kB.lt j8;have ad7:=zA3 k4.lt j8;have aea:=zA3 kD.lt j8;have kA:=kA.below nT;have kB:=kB.below nT;have k4:=k4.below nT;have kD:=kD.below nT;have kb:=az kb nT;refine kO 8191 ?_;refine ap zKr ?_;refine aV qP (fun i8 qP ad ak=>?_);have kA:=ad _ _ zOm kA;have kB:=ad _ _ zOm kB;have k4:=ad _ _ zOm k4;have kD:=ad _ _ zOm kD;have kb:=ak _ _ zOm kb;clear ad ak;have k5:=qP;clear qP;generalize g11=tZ at*;go_upto_region 2 with(first|refine aR ?_|refine aU ?_)
 refine cH 12 13 fun bB=>?_;refine dz ?_ 5 495 zaI [0,1,2,3,5,6,7,8] (fun w' hB=>by have e0:=kA.below hB;have e1:=kB.below hB;have e2:=k4.below hB;have e3:=kD.below hB;have e4:=k5.below hB;have yA:=Tb (kA.below hB);have xA:=Ta (kA.below hB);have yB:=Tb (kB.below hB);have xB:=Ta (kB.below hB);exact zRm) ?_;refine bG 1 4095 [(4,28),(9,33),(10,34),(11,6)] [(false,[]),(false,[]),(false,[(4,28),(9,33)]),(false,[])] [(4,Ph.is (.agg (el (dQ R4)).toArray)),(9,Ph.is (.agg (el (dQ R5)).toArray)),(10,Ph.is (.agg (el (dQ R6)).toArray)),(11,Ph.arr (i8).heap.size (el (dQ 0)))] zKr zKr zaA ?_ ?_
 ·refine⟨⟨_,rfl,?_⟩,⟨_,rfl,?_⟩,⟨_,rfl,?_⟩,⟨_,rfl,?_⟩,trivial⟩
  ·exact oT q4.out
  ·exact oT q5.out
  ·exact zP2 q6.out
  ·exact zcV
 intro vs abR mg YS hP hD;obtain⟨q4,q9,q10,q11,-⟩:=hP;simp only[aG,Act.put,zSa,zSz,zSs];rw[show vs 4=_ from q4,show vs 9=_ from q9,show vs 10=_ from q10];clear q4 q9 q10;obtain⟨g11,e11,j8,qP⟩:=q11;rw[e11];clear e11 hD vs;have RJ:=zA3 kA.lt j8;have RK:=zA3 kB.lt j8;have RI:=zA3 k4.lt j8;have aec:=zA3 kD.lt j8;have aeb:=zA3 k5.lt j8;have kA:=kA.below mg;have kB:=kB.below mg;have k4:=k4.below mg;have kD:=kD.below mg;have k5:=k5.below mg;have kb:=az kb mg;refine kO 8191 ?_;refine ap zKr ?_;refine aV qP (fun pJ qP ad ak=>?_);have kA:=ad _ _ zOm kA;have kB:=ad _ _ zOm kB;have k4:=ad _ _ zOm k4;have kD:=ad _ _ zOm kD;have k5:=ad _ _ zOm k5;have kb:=ak _ _ zOm kb;clear ad ak;have k6:=qP;clear qP;generalize g11=t9 at*;go_upto_region 3 with(first|refine aR ?_|refine aU ?_)
 refine cH 10 11 fun di=>?_;refine dz ?_ 5 111 zaK [0,1,2,3,5,6] (fun w' hB=>by have e0:=kA.below hB;have e1:=kB.below hB;have e2:=k4.below hB;have e3:=kD.below hB;have e4:=k5.below hB;have e5:=k6.below hB;have tA:=aex (kA.below hB);have tB:=aex (kB.below hB);exact zRm) ?_;refine bG 1 1023 [(4,39),(7,42),(8,43),(9,7)] [(false,[]),(false,[]),(false,[(4,39),(7,42)]),(false,[])] [(4,Ph.is (.agg (el (dQ R7)).toArray)),(7,Ph.is (.agg (el (dQ R8)).toArray)),(8,Ph.is (.agg (el (dQ R9)).toArray)),(9,Ph.arr (pJ).heap.size (el (dQ 0)))] zKr zKr zaA ?_ ?_
 ·refine⟨⟨_,rfl,?_⟩,⟨_,rfl,?_⟩,⟨_,rfl,?_⟩,⟨_,rfl,?_⟩,trivial⟩
  ·exact oT q7.out
  ·exact oT q8.out
  ·exact zP2 q9.out
  ·exact zcV
 intro vs abV mh YW hP hD;obtain⟨q4,q7,q8,q9,-⟩:=hP;simp only[aG,Act.put,zSa,zSz,zSs];rw[show vs 4=_ from q4,show vs 7=_ from q7,show vs 8=_ from q8];clear q4 q7 q8;obtain⟨g9,e9,kP,Pi⟩:=q9;rw[e9];clear e9 hD vs;have RL:=zA3 kA.lt kP;have RM:=zA3 kB.lt kP;have HJ:=zA3 k4.lt kP;have aee:=zA3 kD.lt kP;have aed:=zI2 k5 k6 kP;have kA:=kA.below mh;have kB:=kB.below mh;have k4:=k4.below mh;have kD:=kD.below mh;obtain⟨k5,k6⟩:=fZ k5 k6 mh;have kb:=az kb mh;refine kO 2047 ?_;refine ap zKr ?_;refine aV Pi (fun qD Pi ad ak=>?_);have kA:=ad _ _ zOm kA;have kB:=ad _ _ zOm kB;have k4:=ad _ _ zOm k4;have kD:=ad _ _ zOm kD;obtain⟨k5,k6⟩:=rR ad k5 k6;have kb:=ak _ _ zOm kb;clear ad ak;have k7:=Pi;clear Pi;generalize g9=wx at*;have zA:=aaJ kA;have zB:=aaJ kB;go_wp2_with(first|(refine aE rfl _ _ rfl _ _ rfl zKr _ zA zLn ?_)|(refine aE rfl _ _ rfl _ _ rfl zKr _ zB zLn ?_)|(refine aR ?_)|(refine aU ?_))
 clear zA zB;refine zQ (q10.out _) fun uG iz=>?_;obtain⟨k4,k5,k6,k7⟩:=kJ k4 k5 k6 k7 iz;have kb:=az kb iz;clear iz;clear kA kB kD;go_upto_region 5 with(first|refine aR ?_|refine aU ?_)
 obtain⟨oa,sC,BS,sD⟩:=zJ4 k4 k5 k6 k7;refine aK (fun rY k8 aA=>?_);obtain⟨k4,k5,k6,k7⟩:=kJ k4 k5 k6 k7 aA;have kb:=az kb aA;clear aA;generalize (uG).heap.size=xX at k8 oa sC BS sD⊢;go_wp2_with(first|refine aR ?_|refine aU ?_);refine zQ (q11.out _) fun xF ya=>?_;obtain⟨k4,k5,k6,k7,k8⟩:=uk k4 k5 k6 k7 k8 ya;have kb:=az kb ya;clear ya;go_upto_region 6 with(first|refine aR ?_|refine aU ?_)
 refine ci k8 (fun kN k8 ad ak=>?_);obtain⟨k4,k5,k6,k7⟩:=MQ ad k4 k5 k6 k7;have kb:=ak _ _ zOm kb;clear ad ak;go_wp2_with(first|refine aR ?_|refine aU ?_);refine zQ (q12.out _) fun xE ur=>?_;obtain⟨k4,k5,k6,k7,k8⟩:=uk k4 k5 k6 k7 k8 ur;have kb:=az kb ur;clear ur;go_upto_region 7 with(first|refine aR ?_|refine aU ?_)
 obtain⟨oc,ln,BU,od,oe⟩:=zJ5 k4 k5 k6 k7 k8;refine aK (fun tq k9 aA=>?_);obtain⟨k4,k5,k6,k7,k8⟩:=uk k4 k5 k6 k7 k8 aA;have kb:=az kb aA;clear aA;generalize (xE).heap.size=Ar at k9 oc ln BU od oe⊢;go_wp2_with(first|refine aR ?_|refine aU ?_);refine zQ (q13.out _) fun rD nV=>?_;obtain⟨k4,k5,k6,k7,k8,k9⟩:=gE k4 k5 k6 k7 k8 k9 nV;have kb:=az kb nV;clear nV;go_upto_region 8 with(first|refine aR ?_|refine aU ?_)
 obtain⟨mj,Nr,Ns,yl,ym,Nu⟩:=DA k4 k5 k6 k7 k8 k9;refine aK (fun rE k10 aA=>?_);obtain⟨k4,k5,k6,k7,k8,k9⟩:=gE k4 k5 k6 k7 k8 k9 aA;have kb:=az kb aA;clear aA;generalize (rD).heap.size=pU at k10 mj Nr Ns yl ym Nu⊢;go_wp2_with(first|refine aR ?_|refine aU ?_);refine zQ (q14.out _) fun uj nk=>?_;obtain⟨k4,k5,k6,k7,k8,k9⟩:=gE k4 k5 k6 k7 k8 k9 nk;have k10:=k10.below nk;have kb:=az kb nk;clear nk;go_upto_region 9 with(first|refine aR ?_|refine aU ?_)
 obtain⟨yn,Nv,Nw,Nx,Ny,Nz⟩:=DA k4 k5 k6 k7 k8 k9;have Jw:=k10.lt;refine aK (fun K6 k11 aA=>?_);obtain⟨k4,k5,k6,k7,k8,k9⟩:=gE k4 k5 k6 k7 k8 k9 aA;have k10:=k10.below aA;have kb:=az kb aA;clear aA;generalize (uj).heap.size=Hc at k11 yn Nv Nw Nx Ny Nz Jw⊢;go_wp2_with(first|refine aR ?_|refine aU ?_);refine zQ (q15.out _) fun zK zW=>?_;obtain⟨k4,k5,k6,k7,k8,k9⟩:=gE k4 k5 k6 k7 k8 k9 zW;obtain⟨k10,k11⟩:=fZ k10 k11 zW;have kb:=az kb zW;clear zW;go_upto_region 10 with(first|refine aR ?_|refine aU ?_)
 obtain⟨pY,pZ,p7,p8,p9,qh⟩:=DA k4 k5 k6 k7 k8 k9;obtain⟨Jx,Jy⟩:=IP k10 k11;refine aK (fun Dm k12 aA=>?_);obtain⟨k4,k5,k6,k7,k8,k9⟩:=gE k4 k5 k6 k7 k8 k9 aA;obtain⟨k10,k11⟩:=fZ k10 k11 aA;have kb:=az kb aA;clear aA;generalize (zK).heap.size=LC at k12 pY pZ p7 p8 p9 qh Jx Jy⊢;go_upto_region 10 with(first|refine aR ?_|refine aU ?_)
 refine cH 13 14 fun pV=>?_;refine gF (A:=?_) 6 1755 zKr (by exact pV) [0,1,3,4,6,7,9,10] zKr ?_ ?_;rotate_left
 ·intro w' hB;obtain⟨e0,e1,e2,e3,e4⟩:=uk k4 k9 k10 k11 k12 hB;iterate 8 (first|(refine db rfl rfl ?_;simp only[Act.put,zSa,zSz,zSs])|(refine bN rfl rfl _ _ rfl _ rfl zDk _ zAm zLn ?_;simp only[Act.put,zSa,zSz,zSs])|(refine dw rfl rfl _ _ rfl (rq ⟨R16,R17,R18,R19⟩).toArray zKr ?_;simp only[Act.put,zSa,zSz,zSs])|(refine cj (v:=?_) rfl rfl ?_ ?_;rotate_left;(focus (go_simp;try(with_reducible rfl)));simp only[Act.put,zSa,zSz,zSs]))
  exact eo
 refine eg 2 1759 pV q16.out fun DV ni=>?_;refine eg 5 1791 ni q17.out fun DW pW=>?_;refine eg 8 2047 pW q18.out fun K7 mI=>?_;refine eg 11 4095 mI q19.out fun IJ nS=>?_;refine gF (A:=?_) 1 8191 zKr (by exact nS) [12] zKr ?_ ?_;rotate_left
 ·intro w' hB;iterate 1 (first|(refine db rfl rfl ?_;simp only[Act.put,zSa,zSz,zSs])|(refine bN rfl rfl _ _ rfl _ rfl zDk _ zAm zLn ?_;simp only[Act.put,zSa,zSz,zSs])|(refine dw rfl rfl _ _ rfl (rq ⟨R16,R17,R18,R19⟩).toArray zKr ?_;simp only[Act.put,zSa,zSz,zSs])|(refine cj (v:=?_) rfl rfl ?_ ?_;rotate_left;(focus (go_simp;try(with_reducible rfl)));simp only[Act.put,zSa,zSz,zSs]))
  exact eo
 obtain⟨k4,k9,k10,k11,k12⟩:=uk k4 k9 k10 k11 k12 nS;have kb:=az kb nS;refine kO 16383 ?_;refine ap zKr ?_;refine aV k4 (fun IK k4 ad ak=>?_);obtain⟨k9,k10,k11,k12⟩:=MQ ad k9 k10 k11 k12;have kb:=ak _ _ zOm kb;clear ad ak;go_wp2_with fail;exact bodyPost_ret (aj Tryz.results107 _ _ _ rfl zKr _ k4 zcC) rfl ⟨rfl,kb⟩
theorem In (w:World):CB 106 #[] w (.agg (rq ⟨0,1,1,0⟩).toArray):=by
 have c:=zH (fun w=>Gh w);go_enter Tryz.func106,Tryz.ntmps106;go_upto_region 1 with fail
 refine aH (fun W aB k0 kb=>?_);have k0:Arr W w.heap.size (rq ⟨0,0,0,0⟩):=k0;clear aB;go_wp2_with(refine bi rfl 135 _ rfl (el (dQ 0)).toArray zKr ?_);refine zQ (c.out _) fun mU dG=>?_;have k0:=k0.below dG;have kb:=az kb dG;clear dG;go_wp2_with fail;refine zQ (c.out _) fun i8 dA=>?_;have k0:=k0.below dA;have kb:=az kb dA;clear dA;go_wp2_with(first|(refine bi rfl 135 _ rfl (el (dQ 0)).toArray zKr ?_)|(refine bi rfl 137 _ rfl (rq ⟨0,1,1,0⟩).toArray zKr ?_)|(refine aU ?_));exact bodyPost_ret (aj Tryz.results106 _ _ _ rfl zKr _ zaE zLn) rfl ⟨rfl,ah kb (zA0 _) _⟩
theorem xL:EU (0:Nat) 0:=EU.of (n:=0) zDc
theorem Od:(⟨0,1,1,0⟩:Rq).is nP:=⟨xL,qZ,qZ,xL⟩
theorem My:∃W:Rq,W.is bP∧∀w,Arr w 1 (el (dQ MY))→Arr w 2 (el (dQ MZ))→
 CB 62 #[] w (.agg (rq W).toArray):=by
 have ex:EU MY MY:=EU.lit _ zDc;have ey:EU MZ MZ:=EU.lit _ zDc;obtain⟨R,h,E⟩:=ex.mulX ey;refine⟨⟨MY,MZ,1,R⟩,⟨ex,ey,qZ,E⟩,fun w kX kY=>?_⟩;have q:=zH (fun w=>dh ex ey h w);have c:=zH (fun w=>Gh w);have lX:=kX.lt;have lY:=kY.lt;obtain⟨X,hX⟩:∃X:Int,(MY:Int)=X:=⟨_,rfl⟩;obtain⟨Y,hY⟩:∃X:Int,(MZ:Int)=X:=⟨_,rfl⟩;rw[hX]at kX q⊢;rw[hY]at kY q⊢;clear ex ey h E hX hY;go_enter Tryz.func62,Tryz.ntmps62;go_upto_region 1 with fail
 refine aH (fun W aB k0 kb=>?_);have k0:Arr W w.heap.size (rq ⟨0,0,0,0⟩):=k0;have kX:=kX.below kb;have kY:=kY.below kb;clear aB;go_upto_region 1 with(first|refine aR ?_|refine aU ?_)
 refine cH 7 8 fun bB=>?_;refine gF (A:=?_) 4 27 zKr zaI [0,1,3,4] zKr ?_ ?_;rotate_left
 ·intro w' hB;have e0:=k0.below hB;have e1:=kX.below hB;have e2:=kY.below hB;iterate 4 (first|(refine db rfl rfl ?_;simp only[Act.put,zSa,zSz,zSs])|(refine bN rfl rfl _ _ rfl _ rfl zDk _ zAm zLn ?_;simp only[Act.put,zSa,zSz,zSs])|(refine dw rfl rfl _ _ rfl (rq ⟨X,Y,1,R⟩).toArray zKr ?_;simp only[Act.put,zSa,zSz,zSs])|(refine cj (v:=?_) rfl rfl ?_ ?_;rotate_left;(focus (go_simp;try(with_reducible rfl)));simp only[Act.put,zSa,zSz,zSs]))
  exact eo
 refine eg 2 31 bB c.out fun pJ b9=>?_;refine eg 5 63 b9 q.out fun m9 di=>?_;refine gF (A:=?_) 1 127 zKr zaK [6] zKr ?_ ?_;rotate_left
 ·intro w' hB;iterate 1 (first|(refine db rfl rfl ?_;simp only[Act.put,zSa,zSz,zSs])|(refine bN rfl rfl _ _ rfl _ rfl zDk _ zAm zLn ?_;simp only[Act.put,zSa,zSz,zSs])|(refine dw rfl rfl _ _ rfl (rq ⟨X,Y,1,R⟩).toArray zKr ?_;simp only[Act.put,zSa,zSz,zSs])|(refine cj (v:=?_) rfl rfl ?_ ?_;rotate_left;(focus (go_simp;try(with_reducible rfl)));simp only[Act.put,zSa,zSz,zSs]))
  exact eo
 have k0:=k0.below di;have kX:=kX.below di;have kY:=kY.below di;have kb:=az kb di;refine kO 255 ?_;refine ap zKr ?_;refine aV k0 (fun qD k0 ad ak=>?_);have kX:=ad _ _ zOm kX;have kY:=ad _ _ zOm kY;have kb:=ak _ _ zOm kb;clear ad ak;go_wp2_with fail;exact bodyPost_ret (aj Tryz.results62 _ _ _ rfl zKr _ k0 zcC) rfl ⟨rfl,kb⟩
theorem EG {P:Pn} {U:Rq} (hP:P.ok) (eP:U.is P) (n:Nat) (w:World) (kD:Arr w 4 (el (dQ dN))):
 Calls Tryz.prog 61 #[.agg (rq U).toArray,.agg (ay n).toArray] w fun e w'=>∃W:Rq,e=.returned (.agg (rq W).toArray)∧W.is (iC P n 256)∧Below w.heap.size w w':=by
 have hLs:Hid (∀m,iC P n (m+1)=if n/2^(255-m)%2=1 then oL (oL (iC P n m) (iC P n m)) P else oL (iC P n m) (iC P n m)):=zH (fun m=>rfl);have hLo:=zH (tT P n);have h0:Hid ((⟨0,1,1,0⟩:Rq).is (iC P n 0)):=zH Od;obtain⟨L,hL⟩:∃L:Nat→Pn,iC P n=L:=⟨_,rfl⟩;rw[hL]at hLs hLo h0⊢;have c0:=zH (fun w=>In w);have hG:=kD.lt;replace kD:=zH kD;replace hP:=zH hP;replace eP:=zH eP;clear hL;go_enter Tryz.func61,Tryz.ntmps61;go_upto_region 1 with fail
 refine bZ (fun W aB k2 k3 k4 kb=>?_);have k2:Arr W w.heap.size (rq U):=k2;have k4:Arr W (w.heap.size+1+1) (rq ⟨0,0,0,0⟩):=k4;clear aB;go_wp2_with fail;refine zQ (c0.out _) fun uG iz=>?_;obtain⟨k2,k3,k4⟩:=dZ k2 k3 k4 iz;have kb:=az kb iz;clear iz;go_upto_region 2 with(first|refine aR ?_|refine aU ?_)
 obtain⟨fD,lj,iL⟩:=GD k2 k3 k4;refine aK (fun rY k5 aA=>?_);obtain⟨k2,k3,k4⟩:=dZ k2 k3 k4 aA;have kb:=az kb aA;clear aA;generalize (uG).heap.size=tZ at k5 fD lj iL⊢;go_wp2_with fail;go_loopw[6] (fun kv wr=>∃(j:Nat) (V:Rq),j≤256∧kv=.int .i64 ((j:Int)-1)∧V.is (L (256-j))∧Arr wr w.heap.size (rq U)∧Arr wr (w.heap.size+1) (ay n)∧Arr wr (w.heap.size+1+1) (rq ⟨0,0,0,0⟩)∧Arr wr tZ (rq V)∧Below w.heap.size w wr) (fun kv _=>(intOf kv+1).toNat)
 case atStart=>exact⟨256,_,zA0 _,rfl,h0.out,k2,k3,k4,k5,kb⟩
 case round=>
 clear k2 k3 k4 k5 kb;obtain⟨j,V,hj,rfl,hV,k2,k3,k4,k5,kb⟩:=hrel;rcases Nat.eq_zero_or_pos j with rfl|uz
 ·have e:((0:Nat):Int)-1= -1:=rfl;rw[e];clear e;replace hV:V.is (L 256):=hV;replace hV:=zH hV;go_upto_region 8 with fail
  go_wp2_with(first|refine aR ?_|refine aU ?_);exact bodyPost_ret (aj Tryz.results61 _ _ _ rfl zKr _ zaE zLn) rfl ⟨V,rfl,hV.out,ah kb zOm _⟩
 ·obtain⟨m,rfl⟩:∃m,j=m+1:=⟨j-1,by omega⟩;have e:((m+1:Nat):Int)-1=(m:Int):=zOm;rw[e];clear e;obtain⟨t,ht⟩:=zX (n/2^m%2);have iP:=hLs.out (256-(m+1));rw[show 256-(m+1)+1=256-m by omega,show 255-(256-(m+1))=m by omega,ht]at iP;have ee:=hLo.out (256-(m+1));obtain⟨q,hq⟩:=zX (L (256-(m+1)));rw[hq]at hV iP ee;obtain⟨D,hD,cD⟩:=Te ee ee hV hV;obtain⟨T,hT,cT⟩:=Te (vX q q) hP.out hD eP.out;have kK:=sc n m;rw[ht]at kK;obtain⟨b,hb⟩:=zX (n/256^(m/8)%256);have fP:b<256:=hb▸zA1 _ zDc;rw[hb]at kK;have gb:=bH n (m/8) zOm;rw[hb]at gb;have mJ:bits BinOp.and IntKind.u8 ((b:Int)/2^(m%8)) 1=(t:Int):=by
   exact zeY
  have im0:(0:Int)≤(m:Int)/8∧(m:Int)/8<32∧((m:Int)/8).toNat=m/8∧(0:Int)≤(m:Int)%8∧(m:Int)%8<8∧((m:Int)%8).toNat=m%8∧(0:Int)≤(m:Int):=zOm;replace gb:=zH gb;replace iP:=zH iP;replace cD:=zH cD;replace cT:=zH cT;replace hD:=zH hD;replace hT:=zH hT;have AQ:t=0∨t=1:=zOm;clear kK hb hq ee hV;go_wp2_with(first|refine aR ?_|refine aU ?_);refine zQ (cD.out _ (kD.out.below kb)) fun xF ya=>?_;obtain⟨k2,k3,k4,k5⟩:=kJ k2 k3 k4 k5 ya;have kb:=az kb ya;clear ya;go_upto_region 6 with(first|refine aR ?_|refine aU ?_)
  refine ci k5 (fun kN k5 ad ak=>?_);obtain⟨k2,k3,k4⟩:=Dz ad k2 k3 k4;have kb:=ak _ _ zOm kb;clear ad ak;have bo:=k3.cell gb.out;rcases AQ with rfl|rfl
  ·replace iP:=iP.out;rw[if_neg zDc]at iP;go_wp2_with fail;exact⟨⟨m,D,by omega,rfl,by rw[iP];exact hD.out,k2,k3,k4,k5,kb⟩,by simp[intOf]⟩
  ·replace iP:=iP.out;rw[if_pos rfl]at iP;go_upto_region 7 with fail
   clear bo;go_wp2_with(first|refine aR ?_|refine aU ?_);refine zQ (cT.out _ (kD.out.below kb)) fun xE ur=>?_;obtain⟨k2,k3,k4,k5⟩:=kJ k2 k3 k4 k5 ur;have kb:=az kb ur;clear ur;go_upto_region 4 with(first|refine aR ?_|refine aU ?_)
   refine ci k5 (fun tq k5 ad ak=>?_);obtain⟨k2,k3,k4⟩:=Dz ad k2 k3 k4;have kb:=ak _ _ zOm kb;clear ad ak;go_wp2_with fail;exact⟨⟨m,T,by omega,rfl,by rw[iP];exact hT.out,k2,k3,k4,k5,kb⟩,by simp[intOf]⟩
theorem xu {P:Pn} {U:Rq} (eP:U.is P) (w:World):
 CB 60 #[.agg (rq U).toArray] w (.agg (ay (pP P)).toArray):=by
 obtain⟨ex,ey,ez,-⟩:=eP;obtain⟨I,hI⟩:=zX (ug U.z (pN-2) 256);have E3:=EU.pow ez (e:=pN-2) zDc;rw[hI]at E3;have cI:=zH (fun w=>Ks ez (zH hI) w);obtain⟨i,hi⟩:=zX (P.z^(pN-2)%pN);replace E3:EU (i:Nat) I:=E3.cong (by rw[←hi,Int.natCast_emod,Int.natCast_pow,Int.emod_emod]);obtain⟨R1,h1,F1⟩:=ex.mulX E3;obtain⟨R2,h2,F2⟩:=ey.mulX E3;have cX:=zH (fun w=>dh ex E3 h1 w);have cY:=zH (fun w=>dh ey E3 h2 w);have oX:=zH (fun w=>rm (r:=P.x*i%pN) F1 (by rw[←Int.natCast_emod,Nat.mod_mod]) w);have oY:=zH (fun w=>rm (r:=P.y*i%pN) F2 (by rw[←Int.natCast_emod,Nat.mod_mod]) w);obtain⟨y,IW⟩:=zX (P.y*i%pN);obtain⟨x,JY⟩:=zX (P.x*i%pN);have ly:y<pN:=IW▸zA1 _ aX;rw[IW]at oY;rw[JY]at oX;have hE:pP P=y+2^255*(x%2):=(by rw[pP,hi,IW,JY]);obtain⟨r,hr⟩:=zX (y+2^255*(x%2));rw[hE,hr];replace hr:=zH hr;have Rl:y<2^255:=zA25 ly zDc;have FN:y/256^31<128:=zOm;have g31:=bH y 31 zDc;have g0:=bH x 0 zDc
 rw[Nat.pow_zero,Nat.div_one]at g0;have uB:=nM (x%256) (zA1 _ zDc);rw[Nat.mod_mod_of_dvd x (by decide:2∣256)]at uB;have sA:(ay y).set 31 (.int .u8 ((y/256^31:Nat):Int))=ay (y+2^255*0):=eF zDc zOm zOm zOm;have sB:(ay y).set 31 (.int .u8 ((y/256^31+128:Nat):Int))=ay (y+2^255*1):=eF zDc zOm zOm zOm;obtain⟨d,hd⟩:=zX (y/256^31);rw[hd]at FN sA sB g31;rw[zA4 zOm]at g31;obtain⟨x0,Rh⟩:=zX (x%256);rw[Rh]at g0 uB;have oA:bits .or .u8 (d:Int) 0=(d:Int):=aer d FN;have oB:bits .or .u8 (d:Int) 128=((d+128:Nat):Int):=Sf d FN;replace g31:=zH g31;replace g0:=zH g0;have Po:x%2=0∨x%2=1:=zOm;clear E3 F1 F2 hI hi h1 h2 ex ey ez IW JY ly hE Rl hd FN Rh;go_enter Tryz.func60,Tryz.ntmps60;go_upto_region 1 with fail
 refine be (fun W aB k1 k2 kb=>?_);have k1:Arr W w.heap.size (rq U):=k1;have k2:Arr W (w.heap.size+1) (ay 0):=k2;clear aB;have hz:=aaJ k1;go_wp2_with(refine aE rfl _ _ rfl _ _ rfl zKr _ hz zLn ?_);clear hz;refine zQ (cI.out _) fun rD nV=>?_;obtain⟨k1,k2⟩:=fZ k1 k2 nV;have kb:=az kb nV;clear nV;go_upto_region 2 with(first|refine aR ?_|refine aU ?_)
 obtain⟨nZ,jp⟩:=IP k1 k2;refine aK (fun rE k3 aA=>?_);obtain⟨k1,k2⟩:=fZ k1 k2 aA;have kb:=az kb aA;clear aA;generalize (rD).heap.size=sm at k3 nZ jp⊢;have hx:=Ta k1;go_wp2_with(first|(refine aE rfl _ _ rfl _ _ rfl zKr _ hx zLn ?_)|(refine aR ?_));clear hx;refine zQ (cX.out _) fun uj nk=>?_;obtain⟨k1,k2,k3⟩:=dZ k1 k2 k3 nk;have kb:=az kb nk;clear nk;go_wp2_with fail;refine zQ (oX.out _) fun K6 BK=>?_;obtain⟨k1,k2,k3⟩:=dZ k1 k2 k3 BK;have kb:=az kb BK;clear BK;go_upto_region 3 with(first|refine aR ?_|refine aU ?_)
 obtain⟨BN,BO,BP⟩:=GD k1 k2 k3;refine aK (fun zK k4 aA=>?_);obtain⟨k1,k2,k3⟩:=dZ k1 k2 k3 aA;have kb:=az kb aA;clear aA;generalize (K6).heap.size=Fv at k4 BN BO BP⊢;have hy:=Tb k1;go_wp2_with(first|(refine aE rfl _ _ rfl _ _ rfl zKr _ hy zLn ?_)|(refine aR ?_));clear hy;refine zQ (cY.out _) fun Dm zY=>?_;obtain⟨k2,k3,k4⟩:=dZ k2 k3 k4 zY;have kb:=az kb zY;clear zY;go_wp2_with fail;refine zQ (oY.out _) fun Dn so=>?_;obtain⟨k2,k4⟩:=fZ k2 k4 so;have kb:=az kb so;clear so;go_upto_region 4 with(first|refine aR ?_|refine aU ?_)
 obtain⟨fD,iL⟩:=IP k2 k4;refine aK (fun DV k5 aA=>?_);obtain⟨k2,k4⟩:=fZ k2 k4 aA;have kb:=az kb aA;clear aA;generalize (Dn).heap.size=tZ at k5 fD iL⊢;have bo:=k5.cell g31.out;have bT:=k5.frozen 31;have acV:=k4.cell g0.out;clear k1 k3 cI cX cY oX oY;rcases Po with hs|hs
 ·rw[hs]at uB;replace sA:Hid ((ay y).set 31 (.int .u8 (d:Int))=ay r):=zH (by rw[←hr.out,hs];exact sA);clear sB oB hs;go_upto_region 5 with fail
  clear bo bT acV;refine ck k5 (fun DW k5 ad ak=>?_);have k2:=ad _ _ zOm k2;have kb:=ak _ _ zOm kb;clear ad ak;rw[sA.out]at k5;exact zet
 ·rw[hs]at uB;replace sB:Hid ((ay y).set 31 (.int .u8 ((d:Int)+128))=ay r):=zH (by rw[←hr.out,hs];exact sB);clear sA oA hs;go_upto_region 5 with fail
  clear bo bT acV;refine ck k5 (fun K7 k5 ad ak=>?_);have k2:=ad _ _ zOm k2;have kb:=ak _ _ zOm kb;clear ad ak;rw[sB.out]at k5;exact zet
def OB (B:Nat) (w:World) (v:Value) (bs:List UInt8):Prop:=w.ownsRow B 5 1 v bs.length (aJ bs)
theorem OB.below {B:Nat} {w w':World} {v:Value} {bs:List UInt8} (h:OB B w v bs) (hb:Below w.heap.size w w'):OB B w' v bs:=dg h hb
theorem OB.mono {B C:Nat} {w:World} {v:Value} {bs:List UInt8} (h:OB B w v bs) (hb:C≤B):OB C w v bs:=ej h hb
theorem OB.nil (B:Nat) (w:World):OB B w (.slice none 0 0) []:=World.ownsRow_nil _ _ _ _
theorem OB.sl {B:Nat} {w:World} {v:Value} {bs:List UInt8} (h:OB B w v bs):Sl w v (aJ bs):=Sl.of_own h
theorem OB.rng {B:Nat} {w:World} {v:Value} {bs:List UInt8} (h:OB B w v bs) (h0:0<bs.length):∃g c,v=.slice (some ⟨g,0,none⟩) bs.length c∧B≤g∧bs.length≤c∧c≤maxLen∧w.rangeAt g 0 (aJ bs):=gn h h0
theorem jL {W w:World} {ops:Array Oper} {rest:List Oper} {o:Oper} {a:Act} {Q:Exit→Act→World→Prop} {v vx:Value} {bs cs:List UInt8} (qi:o.guard=none) (s x:Operand)
 (ho:o.op=.call {callee:=.builtin .append,args:=#[s,x],argTypes:=#[24,24]}) (hs:a.eval s=v) (hx:a.eval x=vx) (cf:OB W.heap.size w v bs) (dI:Sl w vx (aJ cs)) (kb:Below W.heap.size W w) (hl:bs.length+cs.length≤140737488355328)
 (h:∀v' w',OB W.heap.size w' v' (bs++cs)→Below W.heap.size W w'→w.grownBy w' v.ownBlock→wpList Tryz.prog ops Q rest (a.put o.dst v') w'):wpList Tryz.prog ops Q (o::rest) a w:=by
 obtain⟨i,hi,jN,jA,jB⟩:=info_parts ig;refine dO qi s x 24 ho W.heap.size 5 Tryz.underlying24 hi jN jA jB rfl v bs.length (aJ bs) hs cf vx (aJ cs) hx dI (dr _) ?_ ?_ kb.size ?_
 ·rw[ai];unfold maxLen;omega
 ·rw[ai];omega
 intro v' w' h1 h2;refine h v' w' ?_ (f9 kb cf kb.size h2) h2;rw[ai,←bE]at h1;rw[OB,zA5];exact h1
theorem tV {W w:World} {ops:Array Oper} {rest:List Oper} {o:Oper} {a:Act} {Q:Exit→Act→World→Prop} {v:Value} {bs:List UInt8} {n:Nat} {T:TypeId} {y:Int} (qi:o.guard=none) (s x:Operand)
 (ho:o.op=.call {callee:=.builtin .append,args:=#[s,x],argTypes:=#[24,24]}) (hs:a.eval s=v) (hx:a.eval x=.slice (some ⟨n,0,none⟩) 1 1) (hn:w.heap.size=n) (c:UInt8) (hc:y=(c.toNat:Int)) (cf:OB W.heap.size w v bs) (kb:Below W.heap.size W w) (hl:bs.length≤140737488355000)
 (h:∀v' w',OB W.heap.size w' v' (bs++[c])→Below W.heap.size W w'→w.grownBy w' v.ownBlock→wpList Tryz.prog ops Q rest (a.put o.dst v') w'):wpList Tryz.prog ops Q (o::rest) a (w.alloc (.cells #[.int .u8 y] T)):=by
 subst hn hc;refine jL qi s x ho hs hx (cf.below (ae _ _)) (Sl.new1 w _ T) (kb.alloc kb.size _) zab (fun v' w' h1 h2 h3=>h v' w' h1 h2 ?_);have hg:(w.alloc (.cells #[.int .u8 ((c.toNat:Nat):Int)] T)).grownBy w' v.ownBlock:=h3;exact aN (bO (ae _ _)) hg
def C0 (B S:Nat) (L:List UInt8):List UInt8:=L++[128]++List.replicate ((2*B-S-1-L.length%B)%B) 0++List.replicate (S-8) 0++jG (8*L.length:Int)
def Vu:Value→Nat
 | .slice _ n _=>n
 |_=>0
theorem aaB (S N:Nat) (h8:8≤S) (j:Nat) (hj:j<S):∃c:UInt8,(List.replicate (S-8) 0++jG (8*N:Int)).take (j+1)=(List.replicate (S-8) 0++jG (8*N:Int)).take j++[c]∧
 (S-1-j<8→bits .and .i64 ((8*N:Int)/2^(8*(S-1-j))) 255%256=(c.toNat:Int))∧(8≤S-1-j→(0:Int)=(c.toNat:Int)):=by
 have hl:j<(List.replicate (S-8) 0++jG (8*N:Int)).length:=(by rw[zA5,cg,List.length_replicate];omega);refine⟨(List.replicate (S-8) 0++jG (8*N:Int))[j],by rw[List.take_add_one,zA7 hl];rfl,fun h=>?_,fun h=>?_⟩
 ·rw[Li _ _ h,List.getElem_append_right (by rw[List.length_replicate];omega)];have h2:7-(S-1-j)<(jG (8*N:Int)).length:=(by rw[cg];omega);rw[List.getD,zA7 h2];simp only[List.length_replicate,Option.getD_some,show 7-(S-1-j)=j-(S-8) by omega]
 ·rw[List.getElem_append_left (by rw[List.length_replicate];omega),List.getElem_replicate];rfl
theorem Io (B S:Nat) (hBS:B=64∧S=8∨B=128∧S=16) (a:Option Addr) (cap:Nat) (L:List UInt8) (hl:L.length≤1099511627776) (w:World) (hs:Sl w (.slice a L.length cap) (aJ L)):
 Calls Tryz.prog 42 #[.slice a L.length cap,.int .i64 (B:Int),.int .i64 (S:Int)] w fun e w'=>∃v,e=.returned v∧OB w.heap.size w' v (C0 B S L)∧Below w.heap.size w w':=by
 obtain⟨N,hN⟩:=zX L.length;obtain⟨Z,hz⟩:=zX ((2*B-S-1-N%B)%B);obtain⟨E,hE⟩:=zX (List.replicate (S-8) 0++jG (8*N:Int));obtain⟨R,hR⟩:=zX (C0 B S L);have hZ:Hid (L++[128]++List.replicate Z 0++E=R):=zH (by rw[←hR,C0,hN,hz,←hE,zA16 _ (List.replicate (S-8) 0)]);have DJ:=zH (aaB S N zOm);have hEl:Hid (E.length=S):=zH (by rw[←hE,zA5,cg,List.length_replicate];omega);rw[hR];rw[hE]at DJ;rw[hN]at hl hs⊢;have hB0:(B:Int)≠0:=zOm;have hB1:(0:Int)<B∧(B:Int)≤128∧(0:Int)<S∧(S:Int)≤16:=zOm;obtain⟨q,hq⟩:=zX (B-S);have hqS:(B:Int)-(S:Int)=(q:Int):=zOm;have hmz:Hid (∀z,z≤Z→((N+1+z)%B=q↔z=Z)):=zH (fun z h=>by rcases hBS with⟨rfl,rfl⟩|⟨rfl,rfl⟩<;>omega);have hZl:Z≤128:=(by rw[←hz];rcases hBS with⟨rfl,rfl⟩|⟨rfl,rfl⟩<;>omega);replace hs:=zH hs;replace hZl:=zH hZl;replace hN:=zH hN;clear hR hE hz hBS hq;go_enter Tryz.func42,Tryz.ntmps42
 go_wp2_with(at_builtin;first|(refine jL (W:=w) rfl _ _ rfl rfl rfl (OB.nil _ _) hs.out (zA6 _ _) (by rw[hN.out];simp;omega) (fun v w1 k1 kb _=>?_))|go_loud (refine tV (W:=w) rfl _ _ rfl rfl rfl rfl 128 zDc k1 kb (by rw[List.nil_append,hN.out];omega) (fun v w2 k2 kb _=>?_)));clear k1;replace k2:OB w.heap.size w2 v (L++[128]++List.replicate 0 0):=(by rw[List.nil_append]at k2;rw[List.replicate_zero,zA31];exact k2);go_wp2_with fail;go_loopw[7] (fun v wr=>∃z:Nat,z≤Z∧OB w.heap.size wr v (L++[128]++List.replicate z 0)∧Below w.heap.size w wr) (fun v _=>N+1+Z-Vu v)
 case atStart=>exact⟨0,zA28 _,k2,kb⟩
 case round=>
 clear k2 kb;obtain⟨z,hz,k2,kb⟩:=hrel;have QQ:(L++[128]++List.replicate z 0).length=N+1+z:=(by simp[hN.out];omega);obtain⟨g,c,rfl,-⟩:=k2.rng zOm;rw[QQ]at k2⊢;obtain⟨n,hn⟩:=zX (N+1+z);have hm:=hmz.out z hz;rw[hn]at k2 hm⊢;obtain⟨m,hme⟩:=zX (n%B);rw[hme]at hm;have em:Int.tmod (n:Int) (B:Int)=(m:Int):=(by rw[zA17 zOm,←hme,Int.natCast_emod]);clear hme
 by_cases hzZ:z=Z
 ·obtain rfl:=hm.2 hzZ;subst hzZ;have dq:((m:Int) != (m:Int))=false:=zac;replace hn:=zH hn;clear hm hz;go_wp2_with fail;clear dq em;go_loopw[7,9] (fun v kv wr=>∃j:Nat,j≤S∧kv=.int .i64 ((S:Int)-1-(j:Int))∧OB w.heap.size wr v (L++[128]++List.replicate z 0++E.take j)∧Below w.heap.size w wr) (fun _ kv _=>(intOf kv+1).toNat)
  case atStart=>exact⟨0,zA28 _,by simp,by rw[List.take_zero,zA31];exact k2,kb⟩
  case round=>
  clear k2 kb;obtain⟨j,hj,rfl,k2,kb⟩:=hrel
  by_cases hjS:j<S
  ·obtain⟨c,jX,pH,IR⟩:=DJ.out j hjS;have dF:(L++[128]++List.replicate z 0++E.take j).length≤140737488355000:=by
    have h1:=hZl.out;simp only[zA5,List.length_replicate,zA15,List.length_cons,List.length_nil,hN.out];omega
   obtain⟨k,hk⟩:=zX (S-1-j);have ek:(S:Int)-1-(j:Int)=(k:Int):=zOm;have XS:(0:Int)≤(k:Int):=zOm;rw[hk]at pH IR;replace hk:=zH hk;replace jX:=zH jX;replace dF:=zH dF;rw[ek]
   by_cases h8:k<8
   ·have d8:(k:Int)<8:=zOm;have hc:=pH h8;clear pH IR;go_wp2_with(at_builtin;refine tV (W:=w) rfl _ _ rfl rfl rfl rfl c rfl k2 kb dF.out (fun v w2 k2 kb _=>?_));exact ze5
   ·have d8:¬(k:Int)<8:=zOm;have hc:=(IR zOm).symm;clear pH IR;go_wp2_with(at_builtin;refine tV (W:=w) rfl _ _ rfl rfl rfl rfl c hc.symm k2 kb dF.out (fun v w2 k2 kb _=>?_));exact ze5
  ·have hjE:j=S:=zOm;have dk:¬(0:Int)≤(S:Int)-1-(j:Int):=zOm;rw[zA8 (by rw[hEl.out];omega),hZ.out]at k2;go_wp2_with fail;go_ret;exact⟨_,rfl,k2,kb⟩
 ·have dq:((m:Int) != (q:Int))=true:=zab;replace hn:=zH hn;have dF:=zH (show(L++[128]++List.replicate z 0).length≤140737488355000 by rw[QQ];have:=hZl.out;omega);clear hm QQ;go_wp2_with(at_builtin;refine tV (W:=w) rfl _ _ rfl rfl rfl rfl 0 zDc k2 kb dF.out (fun v w2 k2 kb _=>?_));refine⟨⟨z+1,by omega,by rw[List.replicate_succ',←zA16];exact k2,kb⟩,?_⟩;obtain⟨g',c',rfl,-⟩:=k2.rng zab;simp[Vu,hN.out];have:=hn.out;omega
end Go.Proofs.YtgfkgolafkdjfaaGreatDoor
