/- ModelWrong: part 46 of its proof: lemmas and contracts, each with its conditions in its own statement; the last part holds the law itself. -/
import Derived.Test.YtgfkgolafkdjfaaGreatDoorJv44
import Derived.Test.YtgfkgolafkdjfaaGreatDoorJv45
import Derived.Lib.SlBytesConst

set_option maxHeartbeats 8000000
set_option maxRecDepth 100000
namespace Go.Proofs.YtgfkgolafkdjfaaGreatDoor
open Go.RowKit
theorem EF (k:Nat) (hk:k<256^32) (w:World):
 CB 35 #[.agg (ay k).toArray] w (.agg (ay (bD k 9)).toArray):=by
 have c1:=zH (fun w=>Am k 9 hk zDc w);have s1:Hid ((ay 0).set 0 (.int .u8 ((9:Nat):Int))=ay 9):=zH (eF zDc zDc zDc zDc);have g0:=zH (bH 0 0 zDc);obtain⟨r,hr⟩:=zX (bD k 9);rw[hr]at c1⊢;clear hr hk;go_enter Tryz.func35,Tryz.ntmps35;go_upto_region 1 with fail
 refine be (fun W aB k1 k2 kb=>?_);have k2:Arr W (w.heap.size+1) (ay 0):=k2;clear aB;go_upto_region 2 with fail
 refine aH (fun w9 ie k3 fO=>?_);have l1:=k1.lt;have l2:=k2.lt;obtain⟨k1,k2⟩:=fZ k1 k2 fO;have kb:=az kb fO;generalize W.heap.size=sm at k3 l1 l2⊢;have k3:Arr w9 sm (ay 0):=k3;clear ie fO;have bo:=k3.cell g0.out;have bT:=k3.frozen 0;go_upto_region 3 with fail
 clear bo bT;have s2:=s1.out;refine ck k3 (fun mU k3 ad ak=>?_);obtain⟨k1,k2⟩:=rR ad k1 k2;have kb:=ak _ _ zOm kb;clear ad ak;have k3:Arr mU sm ((ay 0).set 0 (.int .u8 ((9:Nat):Int))):=k3;rw[s1.out]at k3;clear s2;go_wp2_with(first|refine aR ?_|refine aU ?_);refine zQ (c1.out _) fun i8 dA=>?_;have k2:=k2.below dA;have kb:=az kb dA;clear dA;go_wp2_with(refine aU ?_);exact bodyPost_ret (aj Tryz.results35 _ _ _ rfl zKr _ zaE zLn) rfl ⟨rfl,ah kb zOm _⟩
theorem Ky (k u:Nat) (hk:k<256^32) (hu:u<256^32) (hz:bD k u≠0) (w:World):
 CB 63 #[.agg (ay k).toArray,.agg (ay u).toArray] w (.tuple #[.agg (ay (bD k u)).toArray,.int .i64 0]):=by
 have c1:=zH (fun w=>Am k u hk hu w);have lr:bD k u<256^32:=AR k u;obtain⟨r,hr⟩:=zX (bD k u);rw[hr]at c1 lr hz⊢;have q:=Fr (b:=false) (decide_eq_false hz) lr;replace hz:=zH hz;clear hr hk hu;go_enter Tryz.func63,Tryz.ntmps63;go_upto_region 1 with fail
 refine bZ (fun W aB k2 k3 k4 kb=>?_);have k4:Arr W (w.heap.size+1+1) (ay 0):=k4;clear aB;go_upto_region 1 with(first|refine aR ?_|refine aU ?_)
 go_wp2_with(first|refine aR ?_|refine aU ?_);refine zQ (c1.out _) fun jF dc=>?_;obtain⟨k2,k3,k4⟩:=dZ k2 k3 k4 dc;have kb:=az kb dc;clear dc;go_upto_region 2 with(first|refine aR ?_|refine aU ?_)
 obtain⟨gI,ll,iM⟩:=GD k2 k3 k4;refine aK (fun pJ k6 aA=>?_);obtain⟨k2,k3,k4⟩:=dZ k2 k3 k4 aA;have kb:=az kb aA;clear aA;generalize (jF).heap.size=t9 at k6 gI ll iM⊢;go_wp2_with(first|refine aR ?_|refine aU ?_);exact bodyPost_ret (aT Tryz.results63 _ _ _ _ rfl Tryz.underlying27 rfl _ (k4.setRow _) zam _ rfl) rfl ⟨rfl,ah kb zOm _⟩
theorem CV (r s d k:Nat) (v:Int) (w:World) (g:Gl w):
 CB 7 #[.agg (fS r s d k).toArray,.int .i64 v] w (.agg (ag 32 (dC k v)).toArray):=by
 obtain⟨R,hR⟩:=zX (dC k v);replace hR:Hid (iT (nb 32 k++jG v)=R):=zH (by rw[←hR,dC,bS];simp);rw[show dC k v=R from by rw[←hR.out,dC,bS];simp];replace g:=zH g;go_enter Tryz.func7,Tryz.ntmps7;go_upto_region 1 with fail
 refine be (fun W aB k2 k4 kb=>?_);have sK:=zH (Tl (show Arr W w.heap.size (fS r s d k)from k2));have k4:Arr W (w.heap.size+1) (ag 32 0):=k4;clear aB k2;go_wp2_with(at_builtin;refine jL (W:=W) rfl _ _ rfl rfl rfl (OB.nil _ _) sK.out (zA6 _ _) zck (fun u w1 o1 kc _=>?_));rw[List.nil_append]at o1;refine(oy v _).mono ?_;rintro e w2 ⟨u2,rfl,o8,hb⟩;replace o1:=o1.below hb;replace kc:=az kc hb;have s8:=zH (Sl.of_own o8);clear hb o8 sK;go_wp2_with(at_builtin;refine jL (W:=W) rfl _ _ rfl rfl rfl o1 s8.out kc (by rw[aC,cg];decide) (fun u w3 o1 kc _=>?_));refine zQ (tP o1 (by rw[zA5,aC,cg];decide) ((g.out.below kb).below kc).a) fun w4 hb=>?_;rw[hR.out];replace kc:=az kc hb;replace k4:=k4.below kc;replace kb:=az kb kc;clear hb kc o1 s8;go_wp2_with(refine aU ?_);exact bodyPost_ret (aj Tryz.results7 _ _ _ rfl zKr _ zaE zLn) rfl ⟨rfl,ah kb zOm _⟩
theorem OU (T D X:Nat) (hT:T<256^32) (hD:D<256^32) (hz:bD D T≠0) (w:World) (g:Gl w):
 Calls Tryz.prog 34 #[.agg (ay T).toArray,.agg (ay D).toArray,.agg (ay X).toArray] w fun e w'=>∃u,e=.returned (.tuple #[u,.int .i64 0])∧OB w.heap.size w' u (jw T D X)∧Below w.heap.size w w':=by
 have c1:=zH (fun w=>EF D hD w);have c2:=zH (fun w=>Ky D T hD hT hz w);have cK:=zH (fun w g=>OT (bD D 9) (bD D T) w g);have cA:Hid (∀(w:World) gx gt,Sl w (.slice (some ⟨gx,0,none⟩) 32 32) (aJ (nb 32 X))→Sl w (.slice (some ⟨gt,0,none⟩) 32 32) (aJ (nb 32 T))→
  Calls Tryz.prog 64 #[.agg (ag 32 (I0 (bD D 9) (bD D T))).toArray,.agg (ag 12 0).toArray,.slice (some ⟨gx,0,none⟩) 32 32,.slice (some ⟨gt,0,none⟩) 32 32] w fun e w'=>∃u,e=.returned u∧OB w.heap.size w' u (jk (I0 (bD D 9) (bD D T)) 0 (nb 32 X) (nb 32 T))∧Below w.heap.size w w'):=zH (fun w gx gt h1 h2=>by
  have q:=EH (I0 (bD D 9) (bD D T)) 0 (some ⟨gx,0,none⟩) (some ⟨gt,0,none⟩) 32 32 (nb 32 X) (nb 32 T) zck zck w zbX zcc;rw[aC,aC]at q;exact q)
 have hSl:=qw (I0 (bD D 9) (bD D T)) 0 (nb 32 X) (nb 32 T);rw[aC]at hSl;rw[show jw T D X=nb 32 (bD D 9)++jk (I0 (bD D 9) (bD D T)) 0 (nb 32 X) (nb 32 T)from rfl];generalize jk (I0 (bD D 9) (bD D T)) 0 (nb 32 X) (nb 32 T)=SS at*;generalize I0 (bD D 9) (bD D T)=KK at*;generalize bD D 9=E at*;generalize bD D T=Z at*;replace g:=zH g;replace hSl:=zH hSl;clear hT hD hz;go_enter Tryz.func34,Tryz.ntmps34;go_upto_region 1 with fail
 refine bZ (fun w1 aB k3 k4 k5 kb=>?_);clear aB;go_wp2_with(first|refine aR ?_|refine aU ?_);refine zQ (c1.out _) fun m9 gH=>?_;obtain⟨k3,k4,k5⟩:=dZ k3 k4 k5 gH;have kb:=az kb gH;clear gH;go_upto_region 2 with(first|refine aR ?_|refine aU ?_)
 obtain⟨sz,oa,sC⟩:=GD k3 k4 k5;refine aK (fun qD k8 aA=>?_);obtain⟨k3,k4,k5⟩:=dZ k3 k4 k5 aA;have kb:=az kb aA;clear aA;generalize (m9).heap.size=xX at k8 sz oa sC⊢;go_wp2_with(first|refine aR ?_|refine aU ?_);refine zQ (c2.out _) fun uG iz=>?_;obtain⟨k3,k4,k5,k8⟩:=kJ k3 k4 k5 k8 iz;have kb:=az kb iz;clear iz;go_upto_region 3 with(first|refine aR ?_|refine aU ?_)
 obtain⟨BT,oc,ln,oe⟩:=zJ4 k3 k4 k5 k8;refine aK (fun rY k9 aA=>?_);obtain⟨k3,k4,k5,k8⟩:=kJ k3 k4 k5 k8 aA;have kb:=az kb aA;clear aA;generalize (uG).heap.size=Ar at k9 BT oc ln oe⊢;obtain⟨W5,hW5⟩:=zX rY;rw[hW5]at k3 k5 k8 k9 kb⊢;clear hW5 k4;have sE:=zH (fun w' (hb:Below W5.heap.size W5 w')=>show Sl w' (.slice (some ⟨xX,0,none⟩) 32 32) (aJ (nb 32 E))from Sl.ofArrN (by rw[←fB];exact k8.below hb) (aC _ _) zDc);have sX:=zH (fun w' (hb:Below W5.heap.size W5 w')=>show Sl w' (.slice (some ⟨w.heap.size+1+1,0,none⟩) 32 32) (aJ (nb 32 X))from Sl.ofArrN (by rw[←fB];exact k5.below hb) (aC _ _) zDc);have sT:=zH (fun w' (hb:Below W5.heap.size W5 w')=>show Sl w' (.slice (some ⟨w.heap.size,0,none⟩) 32 32) (aJ (nb 32 T))from Sl.ofArrN (by rw[←fB];exact k3.below hb) (aC _ _) zDc);have g5:=zH (fun w' (hb:Below W5.heap.size W5 w')=>(g.out.below kb).below hb);go_upto_region 5 with fail
 refine cH 9999 12 fun hU=>?_;refine gF (A:=?_) 6 237 zKr zaF [0,2,3,5,6,7] zKr ?_ ?_;rotate_left
 ·intro w' hB;obtain⟨y8,y9⟩:=fZ k8 k9 hB;iterate 6 (first|(refine db rfl rfl ?_;simp only[Act.put,zSa,zSz,zSs])|(refine bN rfl rfl _ _ rfl _ rfl zDk _ zAm zLn ?_;simp only[Act.put,zSa,zSz,zSs])|(refine dw rfl rfl _ _ rfl (ag 12 0).toArray zKr ?_;simp only[Act.put,zSa,zSz,zSs])|(refine cj (v:=?_) rfl rfl ?_ ?_;rotate_left;(focus (go_simp;try(with_reducible rfl)));simp only[Act.put,zSa,zSz,zSs]))
  exact eo
 refine aY 1 239 rfl zDk (fun K hK=>?_);refine kH rfl ?_;refine tS (W:=W5) rfl _ _ rfl rfl rfl (OB.nil _ _) (sE.out _ hU) hU zck (fun v wa o1 hba=>?_);refine hK _ _ _ hba (fun _ h=>h) ?_;rw[List.nil_append]at o1;clear hK K;rw[dJ,dJ];refine aY 4 255 rfl zDk (fun K hK=>?_);go_simp;refine zQ (cK.out _ (g5.out _ hba).a) fun kN ja=>?_;have eT:=aW hba (zA0 _) ja;refine hK (fun w'=>Below (W5).heap.size (W5) w') _ _ eT (fun _ h=>h) ?_;clear hK K hba;try simp only[Act.put,zSa,zSz,zSs]
 have o1:=o1.below ja;refine aY 8 511 rfl zDk (fun K hK=>?_);go_simp;refine(cA.out _ _ _ (sX.out _ eT) (sT.out _ eT)).mono ?_;rintro e xE ⟨u8,rfl,oS,ur⟩;have gZ:=aW eT (zA0 _) ur;refine hK (fun w'=>Below (W5).heap.size (W5) w') _ _ gZ (fun _ h=>h) ?_;clear hK K eT;try simp only[Act.put,zSa,zSz,zSs]
 have o1:=o1.below ur;clear sE sX sT cA cK;refine aY 9 1023 rfl zDk (fun K hK=>?_);refine kH rfl ?_;refine tS (W:=W5) rfl _ _ rfl rfl rfl o1 oS.sl gZ (by rw[aC,hSl.out];decide) (fun v6 wb o2 kK=>?_);refine hK _ _ _ kK (fun _ h=>h) ?_;clear hK K o1 oS;refine dz ?_ 0 4095 (by exact kK) [10,11] (fun _ _=>zRd) ?_;refine ap zKr ?_;have kz:=az kb kK;go_wp2_with fail;go_ret2;exact⟨_,rfl,o2.mono kb.size,kz⟩
theorem agH (b:Nat) (hb:b<256^32):(b/256^31%256)/128=b/2^255:=by
 rw[zA4 zOm,zA22]
theorem EU.powN {a e:Nat} {U:Int} (h:EU a U) (he:e<256^32):EU (a^e%pN:Nat) (ug U e 256):=(EU.pow h he).cong zcA
theorem Tc (b:Nat) (hb:b<256^32) (ee:(iZ b).2=true) (w:World) (kD:Arr w 4 (el (dQ dN))) (kR:Arr w 6 (el (dQ iN))):
 Calls Tryz.prog 97 #[.agg (ay b).toArray] w fun e w'=>∃W:Rq,e=.returned (.tuple #[.agg (rq W).toArray,.bool true])∧Below w.heap.size w w':=by
 obtain⟨y,hy⟩:=zX (b%2^255);obtain⟨t,ht⟩:=zX (b/2^255);obtain⟨u,hu⟩:=zX (Dh y);unfold iZ at ee;rw[hy,ht,hu]at ee;have h1:y%pN=y:=by
  refine Decidable.byContradiction fun h=>?_;rw[if_pos h]at ee;exact absurd ee zDc
 rw[if_neg (fun h=>h h1)]at ee;have h2:Nt.rtok pN eN iN u=true:=by
  cases h:Nt.rtok pN eN iN u with
  |true=>rfl
  |false=>rw[if_pos h]at ee;exact absurd ee zDc
 rw[if_neg (by rw[h2];decide)]at ee;obtain⟨x,hx⟩:=zX (Nt.rtx pN eN iN u);have lx:x<pN:=hx▸Nt.rtx_lt aX u;have h3:t=1→x≠0:=fun e h0=>by
  rw[if_pos e,if_pos (by unfold Nt.rtv;rw[if_pos h2,hx,h0];rfl)]at ee;exact absurd ee zDc
 have lp:pN<256^32:=zDc;have ly:y<pN:=(by rw[←h1];exact zA1 _ aX);have ey:EU y y:=EU.lit y zOm;have eD:EU dN dN:=EU.lit _ zDc;obtain⟨S,hS,eS⟩:=ey.mulX ey;obtain⟨R1,g1,E1⟩:=EU.subX (jD _) (by decide:1<pN) eS qZ;obtain⟨R2,g2,E2⟩:=eD.mulX eS;obtain⟨R3,g3,E3⟩:=E2.addX qZ;obtain⟨R4,hR4⟩:=zX (ug R3 (pN-2) 256);have E4:=EU.powN E3 (e:=pN-2) zDc;rw[hR4]at E4;obtain⟨R5,g5,E5⟩:=E1.mulX E4;rw[show(y*y%pN+pN-1)%pN*(((dN*(y*y%pN)%pN+1)%pN)^(pN-2)%pN)%pN=u from hu]at E5;have lu:u<pN:=(by rw[←hu];exact zA1 _ aX);obtain⟨R,hR⟩:=zX (rtU R5 u);have eR:=Tf E5;rw[hR,hx]at eR;obtain⟨N,hN⟩:=zX (fv 0-fv R);have eN':EU ((0:Nat)-(x:Int)) N:=(by rw[←hN];exact EU.sub xL eR);obtain⟨MR,hMR⟩:=zX (wW R y);obtain⟨MN,hMN⟩:=zX (wW N y);have cC:=zH (fun w=>SE (a:=y) (r:=y) (zH h1) zOm w);have cI:=zH (fun w=>Gf y zOm w);have q0:=zH (fun w=>dh ey ey hS w);have c1:=zH (fun w=>Gh w);have q1:=zH (fun w=>lF eS qZ g1 w)
 have q2:=zH (fun w=>dh eD eS g2 w);have q3:=zH (fun w=>ki E2 qZ g3 w);have q4:=zH (fun w=>Ks E3 (zH hR4) w);have q5:=zH (fun w=>dh E1 E4 g5 w);have q6:=zH (fun w kG=>Wp E5 lu (zH hR) (zH h2) w kG);have q7:=zH (fun w=>rm (r:=x) eR (by rw[←Int.natCast_emod,zA4 lx]) w);have q8:=zH (fun w=>lF xL eR (zH hN) w);have qmR:=zH (fun w=>dh eR ey (zH hMR) w);have qmN:=zH (fun w=>dh eN' ey (zH hMN) w);have hq:=zH (fun w=>show(Op.equalIn 10000 27 (.agg (ay y).toArray) (.agg (ay y).toArray)).run Tryz.prog w=.ok true w from by rw[wu y y zOm zOm w,decide_eq_true rfl]);have Uv:=zH (fun w=>wu x 0 zOm zDc w);have g31:=bH b 31 zDc;obtain⟨d,hd⟩:=zX (b/256^31%256);have ld:d<256:=hd▸zA1 _ zDc;have a1:=tw d ld;have s1:(ay b).set 31 (.int .u8 ((d%128:Nat):Int))=ay y:=eF zDc hb zOm (by
  rw[hd,←hy];have:b/256^31=d:=zOm;omega)
 have a1':(((d%128:Nat):Int))=(d:Int)%128:=zOm;rw[a1']at s1 a1;have a2:(d:Int)/128=(t:Int):=(by rw[←ht,←agH b hb,hd];simp);rw[hd]at g31;have gx:=bH x 0 zDc;rw[Nat.pow_zero,Nat.div_one]at gx;have uB:=nM (x%256) (zA1 _ zDc);rw[Nat.mod_mod_of_dvd x (by decide:2∣256)]at uB;obtain⟨x0,Rh⟩:=zX (x%256);rw[Rh]at gx uB;have AQ:t=0∨t=1:=zOm;have lG:=kD.lt;have lR:=kR.lt;replace g31:=zH g31;replace s1:=zH s1;replace gx:=zH gx;replace kD:=zH kD;replace kR:=zH kR;obtain⟨z,hz⟩:=zX (x%2);rw[hz]at uB;have jB:(x=0→z=0)∧(z=0∨z=1):=zOm;obtain⟨D,hD⟩:∃D:Int,(dN:Int)=D:=⟨_,rfl⟩;rw[hD]at kD q2;obtain⟨Y,hY⟩:∃Y:Int,(y:Int)=Y:=⟨_,rfl⟩;rw[hY]at q0 qmR qmN cI;clear a1' lp ee h1 h2 ly lx ey eD eS E1 E2 E3 E4 E5 eR eN' hR hR4 hN hMR hMN hS g1 g2 g3 g5 lu hd ht hy hu hx hb Rh hz hD;go_enter Tryz.func97,Tryz.ntmps97;go_upto_region 1 with fail
 refine be (fun W aB k1 k2 kb=>?_);have k2:Arr W (w.heap.size+1) (rq ⟨0,0,0,0⟩):=k2;clear aB;have bo:=k1.cell g31.out;have bT:=k1.frozen 31;go_upto_region 2 with fail
 go_upto_region 3 with fail
 clear bo bT;refine ck k1 (fun mU k1 ad ak=>?_);have k2:=ad _ _ zOm k2;have kb:=ak _ _ zOm kb;clear ad ak;rw[s1.out]at k1;go_upto_region 3 with(first|refine aR ?_|refine aU ?_)
 refine cH 9999 4 fun bn=>?_;refine dz ?_ 2 5 za0 [0,2] (fun w' hB=>by obtain⟨e0,e1⟩:=fZ k1 k2 hB;exact zRd) ?_;refine eg 1 7 bn cC.out fun jF bB=>?_;refine dz ?_ 0 15 zaI [3] (fun w' hB=>by have eqf1:=hq.out w';exact zRd) ?_;refine ap zKr ?_;obtain⟨k1,k2⟩:=fZ k1 k2 bB;have kb:=az kb bB;clear bB;go_wp2_with(first|refine aR ?_|refine aU ?_);refine zQ (cI.out _) fun pJ fG=>?_;have k2:=k2.below fG;have kb:=az kb fG;clear fG;clear k1;go_upto_region 6 with(first|refine aR ?_|refine aU ?_)
 have fD:=k2.lt;refine aK (fun m9 k5 aA=>?_);have k2:=k2.below aA;have kb:=az kb aA;clear aA;generalize (pJ).heap.size=tZ at k5 fD⊢;go_wp2_with(first|refine aR ?_|refine aU ?_);refine zQ (q0.out _) fun qD ia=>?_;obtain⟨k2,k5⟩:=fZ k2 k5 ia;have kb:=az kb ia;clear ia;go_upto_region 7 with(first|refine aR ?_|refine aU ?_)
 obtain⟨gI,jq⟩:=IP k2 k5;refine aK (fun uG k6 aA=>?_);obtain⟨k2,k5⟩:=fZ k2 k5 aA;have kb:=az kb aA;clear aA;generalize (qD).heap.size=t9 at k6 gI jq⊢;have kD:=kD.out.below kb;refine cH 15 17 fun kV=>?_;refine eZ ?_ 14 25 (by exact kV) [0,3,4] (fun w' hB=>by have y6:=k6.below hB;have yD:=kD.below hB;exact zRd) ?_
 refine ts 2 32767 [(1,29),(2,30),(5,33),(6,34),(7,35),(8,36),(9,37),(10,38),(11,27),(12,39),(13,40),(14,7)] [(false,[]),(false,[(1,29)]),(false,[]),(false,[]),(false,[(5,33),(6,34)]),(false,[(7,35)]),(false,[(2,30),(8,36)]),(false,[(9,37)]),(true,[(10,38)]),(true,[(11,27)]),(true,[(11,27)]),(false,[])] [(1,Ph.is (.agg (el (dQ 1)).toArray)),(2,Ph.is (.agg (el (dQ R1)).toArray)),(5,Ph.is (.agg (el (dQ R2)).toArray)),(6,Ph.is (.agg (el (dQ 1)).toArray)),(7,Ph.is (.agg (el (dQ R3)).toArray)),(8,Ph.is (.agg (el (dQ R4)).toArray)),(9,Ph.is (.agg (el (dQ R5)).toArray)),(10,Ph.is (.tuple #[.agg (el (dQ R)).toArray,.bool true])),(11,Ph.is (.tuple #[.agg (el (dQ R)).toArray,.bool true])),(12,Ph.is (.agg (el (dQ R)).toArray)),(13,Ph.is (.bool true)),(14,Ph.arr (uG).heap.size (el (dQ 0)))] zKr zKr zaA ?_ ?_
 ·refine⟨⟨_,rfl,?_⟩,⟨_,rfl,?_⟩,⟨_,rfl,?_⟩,⟨_,rfl,?_⟩,⟨_,rfl,?_⟩,⟨_,rfl,?_⟩,⟨_,rfl,?_⟩,⟨_,rfl,?_⟩,⟨_,rfl,?_⟩,⟨_,rfl,?_⟩,⟨_,rfl,?_⟩,⟨_,rfl,?_⟩,trivial⟩
  ·exact oT c1.out
  ·exact DB q1.out
  ·exact oT q2.out
  ·exact oT c1.out
  ·exact zP2 q3.out
  ·exact DB q4.out
  ·exact zP2 q5.out
  ·intro vs w1 hS hE hD K hK;obtain⟨q9,-⟩:=hD;simp only[aG,Act.put,zSa,zSz,zSs]at hK⊢;rw[show vs 9=_ from q9]at hK⊢;clear q9;go_simp;refine zQ (q6.out _ (kR.out.below (az kb hS))) fun w2 hb2=>?_;exact zdH
  ·intro vs w1 hS hE hD;obtain⟨q10,-⟩:=hD;simp only[aG,Act.put,zSa,zSz,zSs]at⊢;rw[show vs 10=_ from q10]at⊢;clear q10;exact zd2
  ·exact zeu
  ·exact zeu
  ·exact zcV
 intro vs ajw XC ahe hP hD;obtain⟨q1,q2,q5,q6,q7,q8,q9,q10,q11,q12,q13,q14,-⟩:=hP;simp only[aG,Act.put,zSa,zSz,zSs];rw[show vs 1=_ from q1,show vs 2=_ from q2,show vs 5=_ from q5,show vs 6=_ from q6,show vs 7=_ from q7,show vs 8=_ from q8,show vs 9=_ from q9,show vs 10=_ from q10,show vs 11=_ from q11,show vs 12=_ from q12,show vs 13=_ from q13];clear q1 q2 q5 q6 q7 q8 q9 q10 q11 q12 q13;obtain⟨g14,e14,Va,Fy⟩:=q14;rw[e14];clear e14 hD vs;have lt2:=zA3 k2.lt Va;have lt5:=zA3 k5.lt Va;clear k6 kD q1 q2 q3 q4 q5 q6 kR;obtain⟨k2,k5⟩:=fZ k2 k5 XC;have kb:=az kb XC;refine kO 65535 ?_;refine eZ ?_ 0 131071 zaC [16] (fun _ _=>zRd) ?_;refine ap zKr ?_
 first|refine aV Fy (fun xF Fy ad ak=>?_)|refine eu Fy (fun xF Fy ad ak=>?_)
 obtain⟨k2,k5⟩:=rR ad k2 k5;have kb:=ak _ _ zOm kb;clear ad ak;have k7:=Fy;clear Fy;generalize g14=wx at*;go_upto_region 10 with fail
 go_wp2_with(first|refine aR ?_|refine aU ?_);refine zQ (q7.out _) fun kN ja=>?_;obtain⟨k2,k5,k7⟩:=dZ k2 k5 k7 ja;have kb:=az kb ja;clear ja;go_upto_region 11 with(first|refine aR ?_|refine aU ?_)
 obtain⟨sF,ln,od⟩:=GD k2 k5 k7;refine aK (fun xE k9 aA=>?_);obtain⟨k2,k5,k7⟩:=dZ k2 k5 k7 aA;have kb:=az kb aA;clear aA;generalize (kN).heap.size=Ar at k9 sF ln od⊢;have bo:=k9.cell gx.out
 by_cases hx:x=0
 ·have jN:=jB.1 hx;have zu:t=0:=by
   rcases AQ with h|h
   ·exact h
   ·exact absurd hx (h3 h)
  have XZ:=Uv.out;rw[decide_eq_true hx]at XZ;replace hx:=zH hx;subst zu;rw[jN]at uB;go_upto_region 15 with(first|(refine bi rfl 27 _ rfl (ay 0).toArray zKr ?_)|(refine aR ?_))
  clear bo k9;go_upto_region 15 with fail
  go_upto_region 15 with(first|refine aR ?_|refine aU ?_)
  refine cH 7 9 fun kT=>?_;refine gF (A:=?_) 5 27 zKr (by exact kT) [0,1,3,4] zKr ?_ ?_;rotate_left
  ·intro w' hB;obtain⟨e0,e1,e2⟩:=dZ k2 k5 k7 hB;iterate 4 (first|(refine db rfl rfl ?_;simp only[Act.put,zSa,zSz,zSs])|(refine bN rfl rfl _ _ rfl _ rfl zDk _ zAm zLn ?_;simp only[Act.put,zSa,zSz,zSs])|(refine dw rfl rfl _ _ rfl (rq ⟨R,Y,1,MR⟩).toArray zKr ?_;simp only[Act.put,zSa,zSz,zSs])|(refine cj (v:=?_) rfl rfl ?_ ?_;rotate_left;(focus (go_simp;try(with_reducible rfl)));simp only[Act.put,zSa,zSz,zSs]))
   exact eo
  refine eg 2 31 kT c1.out fun rD iU=>?_;refine eg 5 63 iU qmR.out fun rE iV=>?_;refine gF (A:=?_) 2 127 zKr (by exact iV) [6] zKr ?_ ?_;rotate_left
  ·intro w' hB;iterate 1 (first|(refine db rfl rfl ?_;simp only[Act.put,zSa,zSz,zSs])|(refine bN rfl rfl _ _ rfl _ rfl zDk _ zAm zLn ?_;simp only[Act.put,zSa,zSz,zSs])|(refine dw rfl rfl _ _ rfl (rq ⟨R,Y,1,MR⟩).toArray zKr ?_;simp only[Act.put,zSa,zSz,zSs])|(refine cj (v:=?_) rfl rfl ?_ ?_;rotate_left;(focus (go_simp;try(with_reducible rfl)));simp only[Act.put,zSa,zSz,zSs]))
   exact eo
  obtain⟨k2,k5,k7⟩:=dZ k2 k5 k7 iV;have kb:=az kb iV;refine kO 255 ?_;refine gF (A:=?_) 0 511 zKr zaC [8] zKr ?_ ?_;rotate_left
  ·intro w' hB;iterate 1 (first|(refine db rfl rfl ?_;simp only[Act.put,zSa,zSz,zSs])|(refine bN rfl rfl _ _ rfl _ rfl zDk _ zAm zLn ?_;simp only[Act.put,zSa,zSz,zSs])|(refine dw rfl rfl _ _ rfl (rq ⟨R,Y,1,MR⟩).toArray zKr ?_;simp only[Act.put,zSa,zSz,zSs])|(refine cj (v:=?_) rfl rfl ?_ ?_;rotate_left;(focus (go_simp;try(with_reducible rfl)));simp only[Act.put,zSa,zSz,zSs]))
   exact eo
  refine ap zKr ?_;refine aV k2 (fun uj k2 ad ak=>?_);exact zdW
 ·have XZ:=Uv.out;rw[decide_eq_false hx]at XZ
  by_cases hzt:z=t
  ·subst hzt;go_upto_region 15 with(first|(refine bi rfl 27 _ rfl (ay 0).toArray zKr ?_)|(refine aR ?_))
   clear bo k9;go_upto_region 15 with fail
   go_upto_region 15 with(first|refine aR ?_|refine aU ?_)
   refine cH 7 9 fun lT=>?_;refine gF (A:=?_) 5 27 zKr (by exact lT) [0,1,3,4] zKr ?_ ?_;rotate_left
   ·intro w' hB;obtain⟨e0,e1,e2⟩:=dZ k2 k5 k7 hB;iterate 4 (first|(refine db rfl rfl ?_;simp only[Act.put,zSa,zSz,zSs])|(refine bN rfl rfl _ _ rfl _ rfl zDk _ zAm zLn ?_;simp only[Act.put,zSa,zSz,zSs])|(refine dw rfl rfl _ _ rfl (rq ⟨R,Y,1,MR⟩).toArray zKr ?_;simp only[Act.put,zSa,zSz,zSs])|(refine cj (v:=?_) rfl rfl ?_ ?_;rotate_left;(focus (go_simp;try(with_reducible rfl)));simp only[Act.put,zSa,zSz,zSs]))
    exact eo
   refine eg 2 31 lT c1.out fun zK nh=>?_;refine eg 5 63 nh qmR.out fun Dm nR=>?_;refine gF (A:=?_) 2 127 zKr (by exact nR) [6] zKr ?_ ?_;rotate_left
   ·intro w' hB;iterate 1 (first|(refine db rfl rfl ?_;simp only[Act.put,zSa,zSz,zSs])|(refine bN rfl rfl _ _ rfl _ rfl zDk _ zAm zLn ?_;simp only[Act.put,zSa,zSz,zSs])|(refine dw rfl rfl _ _ rfl (rq ⟨R,Y,1,MR⟩).toArray zKr ?_;simp only[Act.put,zSa,zSz,zSs])|(refine cj (v:=?_) rfl rfl ?_ ?_;rotate_left;(focus (go_simp;try(with_reducible rfl)));simp only[Act.put,zSa,zSz,zSs]))
    exact eo
   obtain⟨k2,k5,k7⟩:=dZ k2 k5 k7 nR;have kb:=az kb nR;refine kO 255 ?_;refine gF (A:=?_) 0 511 zKr zaC [8] zKr ?_ ?_;rotate_left
   ·intro w' hB;iterate 1 (first|(refine db rfl rfl ?_;simp only[Act.put,zSa,zSz,zSs])|(refine bN rfl rfl _ _ rfl _ rfl zDk _ zAm zLn ?_;simp only[Act.put,zSa,zSz,zSs])|(refine dw rfl rfl _ _ rfl (rq ⟨R,Y,1,MR⟩).toArray zKr ?_;simp only[Act.put,zSa,zSz,zSs])|(refine cj (v:=?_) rfl rfl ?_ ?_;rotate_left;(focus (go_simp;try(with_reducible rfl)));simp only[Act.put,zSa,zSz,zSs]))
    exact eo
   refine ap zKr ?_;refine aV k2 (fun Dn k2 ad ak=>?_);exact zdW
  ·have rW:(z:Int)≠(t:Int):=zOm;go_upto_region 14 with(first|(refine bi rfl 27 _ rfl (ay 0).toArray zKr ?_)|(refine aR ?_))
   clear bo k9;go_wp2_with(first|(refine bi rfl 135 _ rfl (el (dQ 0)).toArray zKr ?_)|(refine aR ?_));refine zQ (q8.out _) fun DV zZ=>?_;obtain⟨k2,k5,k7⟩:=dZ k2 k5 k7 zZ;have kb:=az kb zZ;clear zZ;go_upto_region 15 with(refine aU ?_)
   refine ci k7 (fun DW k7 ad ak=>?_);obtain⟨k2,k5⟩:=rR ad k2 k5;have kb:=ak _ _ zOm kb;clear ad ak;go_upto_region 15 with fail
   go_upto_region 15 with(first|refine aR ?_|refine aU ?_)
   refine cH 7 9 fun mI=>?_;refine gF (A:=?_) 5 27 zKr (by exact mI) [0,1,3,4] zKr ?_ ?_;rotate_left
   ·intro w' hB;obtain⟨e0,e1,e2⟩:=dZ k2 k5 k7 hB;iterate 4 (first|(refine db rfl rfl ?_;simp only[Act.put,zSa,zSz,zSs])|(refine bN rfl rfl _ _ rfl _ rfl zDk _ zAm zLn ?_;simp only[Act.put,zSa,zSz,zSs])|(refine dw rfl rfl _ _ rfl (rq ⟨N,Y,1,MN⟩).toArray zKr ?_;simp only[Act.put,zSa,zSz,zSs])|(refine cj (v:=?_) rfl rfl ?_ ?_;rotate_left;(focus (go_simp;try(with_reducible rfl)));simp only[Act.put,zSa,zSz,zSs]))
    exact eo
   refine eg 2 31 mI c1.out fun IJ nS=>?_;refine eg 5 63 nS qmN.out fun IK zS=>?_;refine gF (A:=?_) 2 127 zKr (by exact zS) [6] zKr ?_ ?_;rotate_left
   ·intro w' hB;iterate 1 (first|(refine db rfl rfl ?_;simp only[Act.put,zSa,zSz,zSs])|(refine bN rfl rfl _ _ rfl _ rfl zDk _ zAm zLn ?_;simp only[Act.put,zSa,zSz,zSs])|(refine dw rfl rfl _ _ rfl (rq ⟨N,Y,1,MN⟩).toArray zKr ?_;simp only[Act.put,zSa,zSz,zSs])|(refine cj (v:=?_) rfl rfl ?_ ?_;rotate_left;(focus (go_simp;try(with_reducible rfl)));simp only[Act.put,zSa,zSz,zSs]))
    exact eo
   obtain⟨k2,k5,k7⟩:=dZ k2 k5 k7 zS;have kb:=az kb zS;refine kO 255 ?_;refine gF (A:=?_) 0 511 zKr zaC [8] zKr ?_ ?_;rotate_left
   ·intro w' hB;iterate 1 (first|(refine db rfl rfl ?_;simp only[Act.put,zSa,zSz,zSs])|(refine bN rfl rfl _ _ rfl _ rfl zDk _ zAm zLn ?_;simp only[Act.put,zSa,zSz,zSs])|(refine dw rfl rfl _ _ rfl (rq ⟨N,Y,1,MN⟩).toArray zKr ?_;simp only[Act.put,zSa,zSz,zSs])|(refine cj (v:=?_) rfl rfl ?_ ?_;rotate_left;(focus (go_simp;try(with_reducible rfl)));simp only[Act.put,zSa,zSz,zSs]))
    exact eo
   refine ap zKr ?_;refine aV k2 (fun aaZ k2 ad ak=>?_);obtain⟨k5,k7⟩:=rR ad k5 k7;have kb:=ak _ _ zOm kb;clear ad ak;go_wp2_with fail;exact bodyPost_ret (aT Tryz.results97 _ _ _ _ rfl Tryz.underlying137 rfl (rq ⟨N,Y,1,MN⟩) k2 zcC _ rfl) rfl zcR
def CtP (n:Nat) (i0:Int) (i:Nat) (v:Value) (w:World):Prop:=
 (i=0∨i=1→∃g,n≤g∧v=.slice (some ⟨g,0,none⟩) 4 4∧Sl w v (aJ jT))∧(i=3→Sl w v [.int .i64 i0])
theorem CtP.ext {n:Nat} {i0:Int} {i:Nat} {v:Value} {w1 w2:World} (h:CtP n i0 i v w1) (he:ExF n w1 w2):CtP n i0 i v w2:=
 ⟨fun e=>by obtain⟨g,h1,h2,h3⟩:=h.1 e;exact⟨g,h1,h2,he.2 _ _ h3⟩,fun e=>he.2 _ _ (h.2 e)⟩
theorem Km (i:Int) (k:Nat) (w:World):
 Calls Tryz.prog 58 #[.int .i64 i,.agg (ay k).toArray] w fun e w'=>∃u,e=.returned u∧OB w.heap.size w' u (jT++(bS [i]++nb 32 k))∧Below w.heap.size w w':=by
 have cI:=zH (fun w' vb vn (h1:Sl w' vb (aJ jT)) (h2:Sl w' vn [.int .i64 i])=>rj vb vn jT [i] w' h1 h2 (by simp[jT]));have hl8:=zH (de [i]);go_enter Tryz.func58,Tryz.ntmps58;go_upto_region 1 with fail
 refine aH (fun w1 aB k3 kb=>?_);have k3:Arr w1 w.heap.size (ay k):=k3;have sK:=zH (fun w' (hb:Below w1.heap.size w1 w')=>show Sl w' (.slice (some ⟨w.heap.size,0,none⟩) 32 32) (aJ (nb 32 k))from Sl.ofArrN (by rw[←fB];exact k3.below hb) (aC _ _) zDc);clear aB k3;have hS:Below w1.heap.size w1 w1.drew:=(zA6 _ _).drew;refine eC (fun w'=>Below w1.heap.size w1 w') 9999 8 rfl zKr ?_;refine dz ?_ 6 36 zcr [2,5] (fun _ _=>zRd) ?_;refine Ba (ExF w1.heap.size) 3 47 (([(0,5),(1,6),(3,8)]:List (Nat×Nat)).map (·.1)) [(false,[]),(false,[(0,5)]),(false,[])] (CtP w1.heap.size i) (fun _ _ _=>True) (fun _ _ _ _=>True) zKr zKr zKr (ExF.refl _)
  (fun _ _ _ h1 h2=>h1.trans h2) hS (fun _ _ h1 h2=>h1.trans h2.1) (fun _ _ _ _ h1 h2=>h1.ext h2) (fun _ _ _ _ _ _ _ _=>⟨trivial,trivial⟩) ⟨⟨_,rfl,?_⟩,⟨_,rfl,?_⟩,⟨_,rfl,?_⟩,trivial⟩ ?_
 ·intro vs w3 hS hE hD K hK;clear hD;have aB:=hS.size;simp only[aG,Act.put,zSa,zSz,zSs]at hK⊢;go_simp;exact hK _ _ ⟨fun _=>⟨_,aB,rfl,Sl.ofArrN (Arr.new _ _ _) rfl zDc⟩,nofun⟩ (ExF.of (ae _ _) aB) trivial
 ·intro vs w3 hS hE hD K hK;obtain⟨g,hg,e4,s4⟩:=hD.1.1 (.inl rfl);clear hD;rw[e4]at s4;simp only[aG,Act.put,zSa,zSz,zSs]at hK⊢;rw[e4]at hK⊢;obtain⟨w4,hcv,hx⟩:=D9 w3 g 4 4 _ hg;go_simp;exact hK _ _ ⟨fun _=>⟨g,hg,rfl,hx.2 _ _ s4⟩,nofun⟩ hx trivial
 ·intro vs w3 hS hE hD K hK;clear hD;simp only[aG,Act.put,zSa,zSz,zSs]at hK⊢;go_simp;exact hK _ _ ⟨nofun,fun _=>Sl.new1 _ _ _⟩ (ExF.of (ae _ _) hS.size) trivial
 intro vs w3 hS3 hE3 hP _;obtain⟨g1,-,e1,s1⟩:=(hP 1 zac).1 (.inr rfl);have s3:=(hP 3 zac).2 rfl;rw[e1]at s1;rw[pR [(0,5),(1,6),(3,8)] _ zKr];simp only[aG,Act.put,zSa,zSz,zSs];rw[e1];generalize vs 0=v0;generalize vs 3=v3 at s3⊢;clear hP hE3 hS e1 vs;have Z9:=hS3.size;refine aY 4 63 rfl zDk (fun K hK=>?_);go_simp;refine(cI.out _ _ _ s1 s3).mono ?_;rintro e mU ⟨v4,rfl,o4,dG⟩;have aP:=aW hS3 (zA0 _) dG;refine hK (fun w'=>Below (w1).heap.size (w1) w') _ _ aP (fun _ h=>h) ?_;clear hK K hS3;try simp only[Act.put,zSa,zSz,zSs]
 have o4:OB w1.heap.size _ v4 (jT++bS [i]):=ej o4 Z9;refine aY 6 127 rfl zDk (fun K hK=>?_);refine kH rfl ?_;refine tS (W:=w1) rfl _ _ rfl rfl rfl o4 (sK.out _ aP) aP (by rw[zA5,aC,hl8.out];simp[jT]) (fun v6 wb o6 kK=>?_);refine hK _ _ _ kK (fun _ h=>h) ?_;clear hK K o4;refine dz ?_ 0 255 (by exact kK) [7] (fun _ _=>zRd) ?_;refine ap zKr ?_;rw[zA16]at o6;have kz:=az kb kK;go_wp2_with fail;go_ret;exact⟨_,rfl,o6.mono kb.size,kz⟩
theorem ED (v b:Int) (root:Nat) (a:Option Addr) (c:Nat) (wl:List UInt8) (nA:wl.length=80) (i:Int) (k R1 s1 R s:Nat) (hv:0≤v) (lP:v≤2147483647) (hb:1≤b) (hb2:b≤32) (hi:0≤i) (IS:i≤2147483647) (w:World) (hw:Sl w (.slice a 80 c) (aJ wl)):
 Calls Tryz.prog 67 #[.agg (bU v b root (.slice a 80 c) i k R1 s1 R s).toArray] w fun e w'=>∃u,e=.returned (.tuple #[u,.int .i64 0])∧OB w.heap.size w' u (fj v b root wl i k R1 s1)∧Below w.heap.size w w':=by
 have c1:=zH (fun w=>qt v hv lP w);have c2:=zH (fun w=>qt i hi IS w);have cI1:=zH (fun w' vb vn (h1:Sl w' vb (aJ rT)) (h2:Sl w' vn [.int .i64 v,.int .i64 b])=>rj vb vn rT [v,b] w' h1 h2 (by simp[rT]));replace hw:=zH hw;have l1:¬b<1:=zOm;have l2:¬32<b:=zOm;clear hv lP hb hb2 hi IS;go_enter Tryz.func67,Tryz.ntmps67;go_upto_region 1 with fail
 refine aH (fun W aB k1 kb=>?_);replace k1:Arr W w.heap.size (bU v b root (.slice a 80 c) i k R1 s1 R s):=k1;clear aB;have y0:=k1.cell (j:=0) (u:=.int .i64 v) rfl;go_wp2_with fail;clear y0;refine zQ (c1.out _) fun i8 dA=>?_;have k1:=k1.below dA;have kb:=az kb dA;clear dA;have y1:=k1.cell (j:=1) (u:=.int .i64 b) rfl;have y34:=vG k1;have y35:=Cq k1;go_wp2_with fail;clear y1 y34 y35;refine zQ (c2.out _) fun jF dc=>?_;have k1:=k1.below dc;have kb:=az kb dc;clear dc;go_upto_region 3 with fail
 have kb4:=ae (jF) (.cells #[.int .u8 80,.int .u8 67,.int .u8 77,.int .u8 49] 5 (4,5));have y0:=(k1.below kb4).cell (j:=0) (u:=.int .i64 v) rfl;have y1:=(k1.below kb4).cell (j:=1) (u:=.int .i64 b) rfl;have hcv:=fun(w:World) (C:Array Value) (n c:Nat)=>Lib.run_convert_bytes_const (P:=Tryz.prog) w 24 5 C n c Tryz.underlying24 Tryz.underlying5;have h1:=zH (show Sl ((jF).alloc (.cells #[.int .u8 80,.int .u8 67,.int .u8 77,.int .u8 49] 5 (4,5))) (.slice (some ⟨(jF).heap.size,0,none⟩) 4 4) (aJ rT)from Sl.newMk _ _ _ _ _ rfl 4 rfl zDc);have h2:=zH (Sl.newMk ((jF).alloc (.cells #[.int .u8 80,.int .u8 67,.int .u8 77,.int .u8 49] 5 (4,5))) #[.int .i64 v,.int .i64 b] 3 (0,0) ((jF).heap.size+1) zac 2 rfl zDc);have kb5:=az kb4 (ae ((jF).alloc (.cells #[.int .u8 80,.int .u8 67,.int .u8 77,.int .u8 49] 5 (4,5))) (.cells #[.int .i64 v,.int .i64 b] 3));go_wp2_with fail
 refine(cI1.out _ _ _ (h1.out.alloc _) h2.out).mono ?_;rintro e w2 ⟨u4,rfl,Hs,hb2⟩;rw[show(rT++bS [v,b]).length=20 by rw[zA5,de];rfl]at Hs;replace Hs:=ej Hs kb5.size;have Zf:=aW kb5 (zA0 _) hb2;have lt1:=k1.lt;clear hb2 kb5 kb4 y0 y1 h1 h2 cI1 hcv c1 c2;obtain⟨w1,Rf⟩:=zX jF;rw[Rf]at Hs Zf k1 kb lt1;clear Rf;obtain⟨T1,hT1⟩:=zX (rT++bS [v,b]);rw[hT1]at Hs;obtain⟨ii,Vf,jN,jA,jB⟩:=info_parts ig;go_upto_region 4 with fail
 refine eC (fun w'=>Below w1.heap.size w1 w') 9999 8 rfl zKr ?_;have xZ:=Zf.drew;refine dz ?_ 3 55 (by exact xZ) [0,1,2,4,5] (fun w' hB=>by have y34:=vG (k1.below hB);exact zRd) ?_;refine aY 3 63 rfl zDk (fun K hK=>?_);refine eJ rfl _ _ 24 rfl w1.heap.size 5 Tryz.underlying24 Vf jN jA jB rfl u4 20 (aJ T1) rfl (dg Hs (zA6 _ _).drew) _ (aJ (nb 32 root)) rfl (HR (k1.below xZ)) (dr _) ?c1 ?c2 xZ.size ?_
 case c1=>rw[ai,aC];decide
 case c2=>rw[ai,aC];decide
 intro u5 wa FI Zo;have xY:=xZ.grown Zo xZ.size (gj Hs);rw[ai,aC,←bE]at FI;clear Zo Hs;refine hK (fun w'=>Below (w1).heap.size (w1) w') _ _ xY (fun _ h=>h) ?_;clear hK K;try simp only[Act.put,zSa,zSz,zSs]
 refine aY 6 127 rfl zDk (fun K hK=>?_);refine eJ rfl _ _ 24 rfl w1.heap.size 5 Tryz.underlying24 Vf jN jA jB rfl u5 52 _ rfl FI _ (aJ wl) rfl (hw.out.below (az kb xY)) (dr _) ?c1 ?c2 xY.size ?_
 case c1=>rw[ai,nA];decide
 case c2=>rw[ai,nA];decide
 intro u6 wb Ht ND;have Bz:=xY.grown ND xY.size (gj FI);rw[ai,nA,←bE]at Ht;clear ND FI xY xZ Zf;refine hK (fun w'=>Below (w1).heap.size (w1) w') _ _ Bz (fun _ h=>h) ?_;clear hK K;try simp only[Act.put,zSa,zSz,zSs]
 refine dz ?_ 0 255 (by exact Bz) [7] (fun _ _=>zRd) ?_;refine ap zKr ?_;obtain⟨T3,hT3⟩:=zX (T1++nb 32 root++wl);rw[hT3]at Ht;have hT3l:Hid (T3.length=132):=zH (by rw[←hT3,←hT1];simp[rT,de,aC,nA]);have y35:=Cq (k1.below Bz);have hS_b':=zH (zA14 Bz.size (Nat.le_succ _));have Hh:=az Bz (ae wb (.cells #[.int .i64 i] 3));have h4:=zH (Sl.new1 wb (.int .i64 i) 3);have adr:=zH (Ht.alloc (.cells #[.int .i64 i] 3));have cI2:=zH (fun w' vb vn (h1:Sl w' vb (aJ T3)) (h2:Sl w' vn [.int .i64 i])=>rj vb vn T3 [i] w' h1 h2 (by rw[hT3l.out];simp));go_wp2_with fail;refine(cI2.out _ _ _ (Sl.of_own adr.out) h4.out).mono ?_;rintro e w7 ⟨u7,rfl,NJ,LI⟩;replace Hh:=az Hh LI;rw[show(T3++bS [i]).length=140 by rw[zA5,de,hT3l.out];rfl]at NJ;clear y35 h4 adr Ht cI2 LI Bz;replace NJ:=ej NJ (show w1.heap.size≤_ from by have:=hS_b'.out;simpa using this);go_upto_region 6 with fail
 refine eC (fun w'=>Below w1.heap.size w1 w') 9999 11 rfl zKr ?_;have Qe:=Hh.drew;refine dz ?_ 4 239 (by exact Qe) [0,1,2,3,5,6,7] (fun _ _=>zRd) ?_;refine aY 4 255 rfl zDk (fun K hK=>?_);refine eJ rfl _ _ 24 rfl w1.heap.size 5 Tryz.underlying24 Vf jN jA jB rfl u7 140 _ rfl (dg NJ (zA6 _ _).drew) _ (aJ (nb 32 k)) rfl (Ml (k1.below Qe)) (dr _) ?c1 ?c2 Qe.size ?_
 case c1=>rw[ai,aC];decide
 case c2=>rw[ai,aC];decide
 intro u8 wc XV QI;have At:=Qe.grown QI Qe.size (gj NJ);rw[ai,aC,←bE]at XV;clear QI NJ;refine hK (fun w'=>Below (w1).heap.size (w1) w') _ _ At (fun _ h=>h) ?_;clear hK K;try simp only[Act.put,zSa,zSz,zSs]
 refine aY 8 511 rfl zDk (fun K hK=>?_);refine eJ rfl _ _ 24 rfl w1.heap.size 5 Tryz.underlying24 Vf jN jA jB rfl u8 172 _ rfl XV _ (aJ (nb 32 R1++nb 32 s1)) rfl (HQ (k1.below At)) (dr _) ?c1 ?c2 At.size ?_
 case c1=>simp only[ai,zA5,aC];decide
 case c2=>simp only[ai,zA5,aC];decide
 intro u9 wd Uu qi;have Jn:=At.grown qi At.size (gj XV);rw[←bE,ai,zA5,aC,aC]at Uu;clear qi XV;refine hK (fun w'=>Below (w1).heap.size (w1) w') _ _ Jn (fun _ h=>h) ?_;clear hK K;try simp only[Act.put,zSa,zSz,zSs]
 refine dz ?_ 0 2047 (by exact Jn) [9,10] (fun _ _=>zRd) ?_;refine ap zKr ?_;have hM:T3++bS [i]++nb 32 k++(nb 32 R1++nb 32 s1)=fj v b root wl i k R1 s1:=(by rw[←hT3,←hT1];rfl);rw[hM]at Uu;have hl:=mq v b root wl i k R1 s1 nA;have ho:OB w1.heap.size wd u9 (fj v b root wl i k R1 s1):=(by rw[OB,hl];exact Uu);clear Uu hM hl;go_wp2_with fail;go_ret2;exact⟨u9,rfl,ho.mono kb.size,az kb Jn⟩
end Go.Proofs.YtgfkgolafkdjfaaGreatDoor
