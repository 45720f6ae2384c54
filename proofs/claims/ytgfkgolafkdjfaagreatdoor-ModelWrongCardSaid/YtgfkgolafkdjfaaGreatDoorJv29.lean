/- ModelWrong: part 29 of its proof: lemmas and contracts, each with its conditions in its own statement; the last part holds the law itself. -/
import Derived.Test.YtgfkgolafkdjfaaGreatDoorJv28
import Derived.Test.YtgfkgolafkdjfaaGreatDoorJv27

set_option maxHeartbeats 4000000
set_option maxRecDepth 100000
namespace Go.Proofs.YtgfkgolafkdjfaaGreatDoor
open Go.RowKit
theorem Bu (A:Fin pN):fi A.val=A:=Fin.ext (zA4 A.isLt)
theorem PZ (n:Nat):fi (n%pN)=fi n:=Fin.ext (by rw[ix,ix,Nat.mod_mod])
theorem Ft:fi 1=1:=rfl
theorem Jl (n:Nat):fi (n^(pN-2)%pN)=UB (fi n):=by
 exact zfH
theorem acj:fi dN*bW.c=1:=by decide+kernel
theorem ack:fi dN≠ -1:=by decide+kernel
def tX (P:Pn) (A:Ed.Pt pN):Prop:=fi P.z≠0∧fi P.x=fi P.z*A.x∧fi P.y=fi P.z*A.y∧fi P.t=fi P.z*(A.x*A.y)
theorem MU (C:Ed.Cv pN) {d c z1 z2 x1 y1 x2 y2 x3 y3:Fin pN} (hd:d*c=1) (h1:z1≠0) (h2:z2≠0) (hp:c+x1*x2*y1*y2≠0) (hq:c-x1*x2*y1*y2≠0)
 (hx:x3*(c+x1*x2*y1*y2)=c*(x1*y2+x2*y1)) (hy:y3*(c-x1*x2*y1*y2)=c*(y1*y2+x1*x2)) {a b e k z:Fin pN}
 (ha:a=(z1*y1-z1*x1)*(z2*y2-z2*x2)) (hb:b=(z1*y1+z1*x1)*(z2*y2+z2*x2)) (hk:k=z1*(x1*y1)*(d+d)*(z2*(x2*y2))) (hz:z=z1*(z2+z2)) (he:e=(z-k)*(z+k)):
 e≠0∧(b-a)*(z-k)=e*x3∧(z+k)*(b+a)=e*y3∧(b-a)*(b+a)=e*(x3*y3):=by
 have k1:z+k=(2*(z1*z2)*d)*(c+x1*x2*y1*y2):=by
  rw[hk,hz];clear hx hy ha hb hk hz he hp hq h1 h2;exact zc5
 have k2:z-k=(2*(z1*z2)*d)*(c-x1*x2*y1*y2):=by
  rw[hk,hz];clear hx hy ha hb hk hz he hp hq h1 h2 k1;exact zc5
 have k3:b-a=(2*(z1*z2)*d)*(c*(x1*y2+x2*y1)):=by
  rw[ha,hb];clear hx hy ha hb hk hz he hp hq h1 h2 k1 k2;exact zc5
 have k4:b+a=(2*(z1*z2)*d)*(c*(y1*y2+x1*x2)):=by
  rw[ha,hb];clear hx hy ha hb hk hz he hp hq h1 h2 k1 k2 k3;exact zc5
 have dn:d≠0:=by
  intro h;rw[h]at hd;exact C.one (by rw[←hd];exact Fin.zero_mul _)
 have wn:2*(z1*z2)*d≠0:=C.mul_ne (C.mul_ne C.two_ne (C.mul_ne h1 h2)) dn;refine⟨?_,?_,?_,?_⟩
 ·rw[he,k1,k2];exact C.mul_ne (C.mul_ne wn hq) (C.mul_ne wn hp)
 ·rw[he,k1,k2,k3,←hx];exact zdz
 ·rw[he,k1,k2,k4,←hy];exact zdz
 ·rw[he,k1,k2,k3,k4,←hx,←hy];exact zdz
theorem I2 {P Q:Pn} {A B:Ed.Pt pN} (hP:P.ok) (hQ:Q.ok) (oA:Ed.On bW A) (oB:Ed.On bW B) (h1:tX P A) (h2:tX Q B):tX (oL P Q) (Ed.add bW A B):=by
 have hm:=fun n:Nat=>zA1 n aX;have hx:=Ed.add_x bW oA oB;have hy:=Ed.add_y bW oA oB;have hp:=Ed.Cv.dp bW oA oB;have hq:=Ed.Cv.dm bW oA oB;generalize Ed.add bW A B=R at*;have q:=MU bW acj h1.1 h2.1 hp hq hx hy rfl rfl rfl rfl rfl;unfold tX oL mkP;simp only[mV,Fs,qH (hm _),qH hP.1,qH hQ.1];rw[h1.2.1,h1.2.2.1,h1.2.2.2,h2.2.1,h2.2.2.1,h2.2.2.2];exact q
theorem VF:tX nP (Ed.O pN):=⟨by decide+kernel,by decide+kernel,by decide+kernel,by decide+kernel⟩
theorem T5 {P:Pn} {A:Ed.Pt pN} (hP:P.ok) (oA:Ed.On bW A) (h:tX P A) {n:Nat} (hn:n<2^256):∀m,m≤256→tX (iC P n m) (Ed.mul bW A (n/2^(256-m)))
 |0,_=>by
  rw[show n/2^(256-0)=0 from zA32 hn];exact VF
 |m+1,hm=>by
  have ih:=T5 hP oA h hn m zOm;have hT:=tT P n m;obtain⟨k,hk⟩:=zX (n/2^(256-m));have QL:n/2^(256-(m+1))=2*k+n/2^(255-m)%2:=by
   have e:256-m=(255-m)+1:=zOm;rw[show 256-(m+1)=255-m by omega,←hk,e,zA24,←zA22];omega
  rw[hk]at ih;have ok:=vJ oA k;have i2:=I2 hT hT ok ok ih ih;rw[←Ed.mul_add bW oA]at i2;rw[QL,iC];have ZZ:n/2^(255-m)%2=0∨n/2^(255-m)%2=1:=zOm;rcases ZZ with e|e
  ·rw[if_neg (by rw[e];decide),e,show 2*k+0=k+k by omega];exact i2
  ·rw[if_pos e,e,show 2*k+1=k+k+1 by omega];exact I2 (vX _ _) hP (vJ oA _) oA i2 h
theorem xz {P:Pn} {A:Ed.Pt pN} (hP:P.ok) (oA:Ed.On bW A) (h:tX P A) {n:Nat} (hn:n<2^256):tX (iC P n 256) (Ed.mul bW A n):=by
 have q:=T5 hP oA h hn 256 (zA0 _);rwa[show n/2^(256-256)=n from Nat.div_one _]at q
def gB:Ed.Pt pN:=⟨fi MY,fi MZ⟩
theorem ng:Ed.On bW gB:=by
 show _=_
 decide+kernel
theorem LB:tX bP gB:=⟨by decide+kernel,by decide+kernel,by decide+kernel,by decide+kernel⟩
theorem YG:(iC bP qN 256).x=0∧(iC bP qN 256).y=(iC bP qN 256).z:=by decide+kernel
theorem Jm:Ed.mul bW gB qN=Ed.O pN:=by
 have h:=xz Bk ng LB (n:=qN) zDc;obtain⟨e1,e2⟩:=YG;obtain⟨h1,h2,h3,-⟩:=h;rw[e1]at h2;rw[e2]at h3;refine Ed.Pt.ext ?_ ?_
 ·rcases bW.zero_div h2.symm with h|h
  ·exact absurd h h1
  ·exact h
 ·refine bW.cancel h1 ?_;rw[←h3];exact(Fin.mul_one _).symm
theorem Sb:∀n,Ed.mul bW (Ed.O pN) n=Ed.O pN
 |0=>rfl
 |n+1=>by
  show Ed.add bW (Ed.mul bW (Ed.O pN) n) (Ed.O pN)=_
  rw[Sb n,Ed.add_O bW (Ed.on_O bW)]
theorem ab6 {P:Ed.Pt pN} (h:Ed.On bW P):Ed.add bW (Ed.O pN) P=P:=by rw[Ed.add_comm,Ed.add_O bW h]
theorem Ct {P:Ed.Pt pN} (oP:Ed.On bW P) (h:Ed.mul bW P qN=Ed.O pN) (n:Nat):Ed.mul bW P (n%qN)=Ed.mul bW P n:=by
 conv=>rhs;rw[←Nat.div_add_mod n qN,Ed.mul_add bW oP,←Ed.mul_mul bW oP,h,Sb,ab6 (vJ oP _)]
def DH (A:Ed.Pt pN):Nat:=A.y.val+2^255*(A.x.val%2)
theorem Ud {n:Nat} {a:Fin pN} (h:fi n=a):n%pN=a.val:=by rw[←h,ix]
theorem Fq {P:Pn} {A:Ed.Pt pN} (h:tX P A):pP P=DH A:=by
 have hi:=bW.iv_mul _ h.1;have e1:fi (P.y*(P.z^(pN-2)%pN))=A.y:=by
  rw[←PZ,mV,Jl,h.2.2.1];show fi P.z*A.y*bW.iv (fi P.z)=A.y
  generalize bW.iv (fi P.z)=i at*;clear h;exact zc5
 have e2:fi (P.x*(P.z^(pN-2)%pN))=A.x:=by
  rw[←PZ,mV,Jl,h.2.1];show fi P.z*A.x*bW.iv (fi P.z)=A.x
  generalize bW.iv (fi P.z)=i at*;clear h;exact zc5
 rw[pP,DH,Ud e1,Ud e2]
theorem aaY {A:Ed.Pt pN} (oA:Ed.On bW A):Dh A.y.val=A.x.val*A.x.val%pN:=by
 refine Jk (zA1 _ aX) (zA1 _ aX) ?_;have h1:(1:Nat)<pN:=zDc;have hd:=acj;have hn:fi dN*(A.y*A.y)+1≠0:=by
  intro e;have h2:A.y*A.y=1:=by
   have oA:=oA;simp only[Ed.On]at oA;refine Classical.byContradiction fun _=>?_;rename_i rW;refine rW ?_;generalize fi dN=d at*;generalize bW.c=c at*;clear rW h1;exact zc5
  rw[h2]at e;refine ack ?_;clear h2 hd h1;generalize fi dN=d at*;exact zc5
 have hi:=bW.iv_mul _ hn;rw[Dh,mV,mV,Jl,qH h1,mV];rw[show fi ((dN*(A.y.val*A.y.val%pN)%pN+1)%pN)=fi dN*(A.y*A.y)+1 by rw[Fs,mV,mV,Bu];rfl];rw[Bu,Bu,Ft];show(A.y*A.y-1)*bW.iv _=_
 generalize bW.iv (fi dN*(A.y*A.y)+1)=i at*;have e:A.y*A.y-1=A.x*A.x*(fi dN*(A.y*A.y)+1):=by
  simp only[Ed.On]at oA;generalize fi dN=d at*;generalize bW.c=c at*;clear hi hn;exact zc5
 rw[e];generalize fi dN*(A.y*A.y)+1=s at*;clear e oA hd hn;exact zc5
theorem CQ {A:Ed.Pt pN} (oA:Ed.On bW A):(iZ (DH A)).2=true∧tX (iZ (DH A)).1 A:=by
 have hy:=A.y.isLt;have hx:=A.x.isLt;have hp:pN<2^255:=zDc;have e1:DH A%2^255=A.y.val:=(by rw[DH,zA27,zA4 (zA25 hy hp)]);have e2:DH A/2^255=A.x.val%2:=(by rw[DH,zA30 _ _ zDc,zA32 (zA25 hy hp),Nat.zero_add]);have ee:=Nt.rtok_sq xa Kd Y7 U1 ad6 hx;have hsq:=Nt.rtv_sq ee aX;have hev:=Nt.rtv_even (e:=eN) (i:=iN) Kd (A.x.val*A.x.val%pN);have bK:=Nt.rtv_lt (e:=eN) (i:=iN) aX (A.x.val*A.x.val%pN);have sU:=Kd;unfold iZ;rw[e1,e2,aaY oA,if_neg (by rw[zA4 hy];exact fun h=>h rfl),if_neg (by rw[ee];decide)];clear e1 e2 ee;generalize Nt.rtv pN eN iN (A.x.val*A.x.val%pN)=r at*;have hc:=Nt.sq_cases xa bK hx hsq;have pt:∀x,x=A.x.val→tX ⟨x,A.y.val,1,x*A.y.val%pN⟩ A:=by
  rintro x rfl;refine⟨show fi 1≠0 by decide+kernel,?_,?_,?_⟩
  ·show fi A.x.val=fi 1*A.x
   rw[Bu,Ft,Fin.one_mul]
  ·show fi A.y.val=fi 1*A.y
   rw[Bu,Ft,Fin.one_mul]
  ·show fi (A.x.val*A.y.val%pN)=fi 1*(A.x*A.y)
   rw[mV,Bu,Bu,Ft,Fin.one_mul]
 clear hsq hp;have ZZ:A.x.val%2=0∨A.x.val%2=1:=zOm;rcases ZZ with e|e
 ·rw[if_neg (by rw[e];decide)];refine⟨rfl,pt _ ?_⟩;omega
 ·rw[if_pos e,if_neg zOm];refine⟨rfl,pt _ ?_⟩;rw[show 0+pN-r=A.x.val by omega,zA4 hx]
theorem aaN (K:Nat):tX (iC bP (pE K) 256) (Ed.mul bW gB (pE K)):=xz Bk ng LB (zA3 (ME K) zDc)
theorem SA (K:Nat):ev K=DH (Ed.mul bW gB (pE K)):=Fq (aaN K)
theorem aaE (K:Nat):(iZ (ev K)).2=true:=by
 rw[SA];exact(CQ (vJ ng _)).1
theorem II (K:Nat) (L:List UInt8):AH (ev K) (uF K L) (xv K L) L=true:=by
 have hq:qN<2^256:=zDc;have lk:Tp K L<qN:=zA1 _ vK;have lr:IZ K L<qN:=zA1 _ vK;have ls:xv K L<qN:=zA1 _ vK;have hr:tX (iC bP (IZ K L) 256) (Ed.mul bW gB (IZ K L)):=xz Bk ng LB zOm;have hs:tX (iC bP (xv K L) 256) (Ed.mul bW gB (xv K L)):=xz Bk ng LB zOm;have eR:uF K L=DH (Ed.mul bW gB (IZ K L)):=Fq hr;obtain⟨r1,r2⟩:=CQ (vJ ng (IZ K L));obtain⟨k1,k2⟩:=CQ (vJ ng (pE K));rw[←eR]at r1 r2;rw[←SA]at k1 k2;have ht:=xz (xk (ev K)) (vJ ng (pE K)) k2 (n:=Tp K L) zOm;have FK:=I2 (xk (uF K L)) (tT _ _ _) (vJ ng _) (vJ (vJ ng _) _) r2 ht;have e1:=Fq hs;have e2:=Fq FK;rw[AH,r1,k1,decide_eq_true ls];show(true&&(true&&(true&&decide (pP (iC bP (xv K L) 256)=pP (oL (iZ (uF K L)).1 (iC (iZ (ev K)).1 (Tp K L) 256))))))=true
 rw[e1,e2,Ed.mul_mul bW ng,←Ed.mul_add bW ng,xv,Ct ng Jm];rw[decide_eq_true]
 ·rfl
 ·rw[Ed.mul_add bW ng,Ed.mul_add bW ng (IZ K L),Ct ng Jm,Nat.mul_comm]
theorem VC {P Q:Ed.Pt pN}:Ed.add bW (Ed.neg P) (Ed.neg Q)=Ed.neg (Ed.add bW P Q):=by
 unfold Ed.add Ed.neg;have e: -P.x* -Q.x=P.x*Q.x:=zcg;simp only[e];refine Ed.Pt.ext ?_ rfl;show bW.c*(-P.x*Q.y+ -Q.x*P.y)*_= -(bW.c*(P.x*Q.y+Q.x*P.y)*_)
 generalize bW.iv _=i;generalize bW.c=c;exact zc5
theorem Mm (P:Ed.Pt pN):∀n,Ed.mul bW (Ed.neg P) n=Ed.neg (Ed.mul bW P n)
 |0=>by
  show Ed.O pN=Ed.neg (Ed.O pN)
  refine Ed.Pt.ext ?_ rfl;show(0:Fin pN)= -0
  decide+kernel
 |n+1=>by
  show Ed.add bW (Ed.mul bW (Ed.neg P) n) (Ed.neg P)=_
  rw[Mm P n,VC];rfl
theorem YH:gN=Ed.neg gB:=Ed.Pt.ext zDk zDk
theorem YI:Ed.mul bW gN qN=Ed.O pN:=by
 rw[YH,Mm,Jm];refine Ed.Pt.ext ?_ rfl;show -(0:Fin pN)=0
 decide+kernel
theorem acl:gN≠Ed.O pN:=fun h=>absurd (congrArg Ed.Pt.x h) zDk
theorem CM:Nt.Prime qN:=Nt.prime_q
theorem VJ {n:Nat} (h:Ed.mul bW gN n=Ed.O pN):qN∣n:=by
 refine Classical.byContradiction fun hn=>?_;have hf:=Nt.fermat CM hn;have e:n*n^(qN-2)%qN=1:=by
  rw[←Nat.pow_succ',show Nat.succ (qN-2)=qN-1 by decide];exact hf
 have h2:Ed.mul bW gN (n*n^(qN-2))=Ed.O pN:=by
  rw[←Ed.mul_mul bW Hd,h,Sb]
 rw[←Ct Hd YI,e,Ed.mul_one bW Hd]at h2;exact acl h2
theorem GV (k:Nat):¬qN∣dD k:=by
 rintro⟨m,hm⟩;have hr:=zA1 (k-k%8) (show 0<2^254 by decide);have h8:(k-k%8)%2^254%8=0:=by
  rw[Nat.mod_mod_of_dvd _ (show 8∣2^254 by decide)];omega
 unfold dD at hm;generalize (k-k%8)%2^254=r at*;have h1:m<8:=by
  refine Nat.lt_of_mul_lt_mul_left (a:=qN) ?_;rw[←hm];exact zA3 (Nat.add_lt_add_right hr _) zDc
 have h2:m≠0:=by
  rintro rfl;rw[Nat.mul_zero]at hm;exact absurd hm (Nat.ne_of_gt (zA3 (show 0<2^254 by decide) (Nat.le_add_left _ _)))
 have h3:qN*m%8=0:=by
  rw[←hm,Nat.add_mod,h8]
 clear hm hr h8;have key:∀m,m<8→m≠0→qN*m%8≠0:=zDk;exact key m h1 h2 h3
theorem P1 {T:Ed.Pt pN} (on:Ed.On bW T) (h:T.x=0):Ed.add bW T T=Ed.O pN:=by
 have e:Ed.neg T=T:=by
  obtain⟨x,y⟩:=T;simp only at h;subst h;refine Ed.Pt.ext ?_ rfl;show -(0:Fin pN)=0
  decide+kernel
 have q:=Ed.add_neg bW on;rwa[e]at q
theorem aaq:¬qN∣2:=by decide+kernel
theorem Mg (a b:Nat):bD a (bD b 9)≠0:=by
 intro h;have h2:=Ck a b;rw[h]at h2;have hn:¬qN∣dD b*dD a:=fun h4=>(CM.dvd_mul h4).elim (GV _) (GV _);generalize dD b*dD a=n at*;have on:=vJ Hd n;obtain⟨f1,-⟩:=Ed.U_flat bW on h2.symm;have h3:=P1 on f1;rw[←Ed.mul_add bW Hd,←Nat.two_mul]at h3;exact(CM.dvd_mul (VJ h3)).elim aaq hn
theorem Iy (k n:Nat) (bs side:List UInt8) (l1:bs.length≤50000) (l2:side.length≤100000) (a1 a2:Option Addr) (c1 c2:Nat) (w:World) (h1:Sl w (.slice a1 (bs.length+16) c1) (aJ (jk k n bs side))) (h2:Sl w (.slice a2 side.length c2) (aJ side)):
 Calls Tryz.prog 131 #[.agg (ag 32 k).toArray,.agg (ag 12 n).toArray,.slice a1 (bs.length+16) c1,.slice a2 side.length c2] w fun e w'=>
  ∃g,e=.returned (.tuple #[.slice (some ⟨g,0,none⟩) bs.length bs.length,.int .i64 0])∧w.heap.size≤g∧Arr w' g (aJ bs)∧Below w.heap.size w w':=by
 have aI:=qw k n bs side;have e1:(jk k n bs side).take bs.length=ID k 1 n bs:=(by rw[jk];exact List.take_left' (nG _ _ _ _));have e2:(jk k n bs side).drop bs.length=pF k n (ID k 1 n bs) side:=(by rw[jk];exact List.drop_left' (nG _ _ _ _));have q:=DZ k n a1 a2 c1 c2 (jk k n bs side) side zOm l2 zOm w (by rw[aI];exact h1) h2;rw[aI,Nat.add_sub_cancel,e1,e2]at q;refine q.mono ?_;rintro e w' ⟨h,hb⟩;unfold Pv at h;rw[if_pos rfl,EP]at h;obtain⟨g,rfl,hg,ha⟩:=h;exact⟨g,rfl,hg,ha,hb⟩
theorem Rv (K:Nat) (v i:Int) (a:Option Addr) (c:Nat) (bs:List UInt8) (ua:bs.length=64) (hm:qm v i=true) (w:World) (h:Sl w (.slice a 80 c) (aJ (kd K v i bs))):
 Calls Tryz.prog 81 #[.agg (ag 32 K).toArray,.int .i64 v,.int .i64 i,.slice a 80 c] w fun e w'=>∃g,e=.returned (.tuple #[.slice (some ⟨g,0,none⟩) 64 64,.int .i64 0])∧w.heap.size≤g∧Arr w' g (aJ bs)∧Below w.heap.size w w':=by
 have c1:=zH (fun w=>Ce v i w);rw[hm]at c1;have cN:=zH (fun w=>Ev i w);have cI:=zH (fun w vn h=>xb vn v w h);have cA:=zH (fun w' g2 c2 (h1:Sl w' (.slice a 80 c) (aJ (kd K v i bs))) (h2:Sl w' (.slice (some ⟨g2,0,none⟩) 8 c2) (aJ (bS [v])))=>show Calls Tryz.prog 131 #[.agg (ag 32 K).toArray,.agg (ag 12 (kM i)).toArray,.slice a 80 c,.slice (some ⟨g2,0,none⟩) 8 c2] w' (fun e w''=>∃g,e=.returned (.tuple #[.slice (some ⟨g,0,none⟩) 64 64,.int .i64 0])∧w'.heap.size≤g∧Arr w'' g (aJ bs)∧Below w'.heap.size w' w'')from by
  have q:=Iy K (kM i) bs (bS [v]) zOm (by simp[de]) a (some ⟨g2,0,none⟩) c c2 w' (by rw[ua];exact h1) (by rw[de];exact h2);rw[ua,de]at q;exact q)
 obtain⟨X,hX⟩:=zX (kd K v i bs);rw[hX]at cA h;replace h:=zH h;clear hX hm ua;go_enter Tryz.func81,Tryz.ntmps81;go_upto_region 1 with fail
 refine aH (fun W aB k4 kb=>?_);replace k4:Arr W w.heap.size (ag 32 K):=k4;clear aB;go_wp2_with fail;refine zQ (c1.out _) fun w1 hb=>?_;replace k4:=k4.below hb;replace kb:=az kb hb;clear hb c1;go_upto_region 3 with fail
 refine cH 9999 12 fun aP=>?_;refine dz ?_ 8 27 zaD [0,1,3,4] (fun w' hB=>by have y4:=k4.below hB;exact zRd) ?_;refine bG 5 127 [(2,21),(5,24),(6,25)] [(false,[]),(false,[]),(false,[(5,24)])] [(2,Ph.is (.agg (ag 12 (kM i)).toArray)),(5,Ph.sl 1 [.int .i64 v]),(6,Ph.sx 8 (aJ (bS [v])))] zKr zKr zaA ?_ ?_
 ·refine⟨⟨_,rfl,?_⟩,⟨_,rfl,?_⟩,⟨_,rfl,?_⟩,trivial⟩
  ·exact oT cN.out
  ·exact zeo
  ·exact zdy
 intro vs agZ BA acn hP hD;obtain⟨q2,q5,q6,-⟩:=hP;simp only[aG,Act.put,zSa,zSz,zSs];rw[show vs 2=_ from q2];clear q2;obtain⟨d5,e5,Q8⟩:=q5;rw[e5];rw[show vs _=_ from e5]at Q8;clear e5;obtain⟨d6,e6,X3⟩:=q6;rw[e6];clear e6;clear hD vs;have ie:=(BA).size;refine aY 7 255 rfl zDk (fun K hK=>?_);go_simp;refine(cA.out _ _ _ (h.out.below (az kb BA)) X3).mono ?_;rintro e i8 ⟨gr,rfl,Eh,kr,dA⟩;have bn:=aW BA (zA0 _) dA;refine hK (fun w'=>Below (w1).heap.size (w1) w') _ _ bn (fun _ h=>h) ?_;clear hK K BA;try simp only[Act.put,zSa,zSz,zSs]
 refine dz ?_ 0 4095 za0 [8,9,10,11] (fun _ _=>zRd) ?_;refine ap zKr ?_;have kb9:=az kb bn;have Dw:=kb.size;clear X3 Q8 cA cI cN k4;go_wp2_with fail;go_ret2;exact⟨gr,rfl,by omega,kr,kb9⟩
theorem WQ {w:World} {g o n c:Nat} {xs ys zs:List Value} (h:Sl w (.slice (some ⟨g,o,none⟩) n c) xs) (he:xs=ys++zs):w.rangeAt g o ys:=by
 obtain⟨a,cap,he',-,-,-,h5⟩:=h;injection he' with h1 h2 h3
 intro j u hu;have:=h5 _ h1.symm j u (by rw[he,zA12 (zA18.1 hu).1];exact hu);rwa[Addr.add_lit]at this
theorem EQ (d D X:Nat) (hd:d<256^32) (b o c:Nat) (w:World) (h:Sl w (.slice (some ⟨b,o,none⟩) 80 c) (aJ (jw (bD d 9) D X))):
 CB 76 #[.agg (ay d).toArray,.slice (some ⟨b,o,none⟩) 80 c] w (.tuple #[.agg (ag 32 X).toArray,.int .i64 0]):=by
 obtain⟨T,hT⟩:=zX (bD d 9);obtain⟨E,hE⟩:=zX (bD D 9);obtain⟨Z,hZ⟩:=zX (bD D T);have hsw:bD d E=Z:=(by rw[←hE,←hZ,←hT,NT]);have jN:Z≠0:=(by rw[←hZ,←hT];exact Mg _ _);have lE:E<256^32:=(by rw[←hE];exact AR _ _);have cS:=zH (fun w=>NV (zH hsw) hd lE (e0:=0) (by rw[if_neg jN]) w);have cP:=zH (fun w=>NU (zH hT) hd w);have hwr:jw T D X=nb 32 E++jk (I0 E Z) 0 (nb 32 X) (nb 32 T):=(by rw[jw,hE,hZ]);rw[hT,hwr]at h;have cK:=zH (fun w=>Uk E Z w);obtain⟨KK,hKK⟩:=zX (I0 E Z);rw[hKK]at h cK;rw[←dJ E,←dJ Z]at cK;have aI:(jk KK 0 (nb 32 X) (nb 32 T)).length=48:=(by rw[qw,aC]);have hr:Hid (∀w',Below w.heap.size w w'→w'.rangeAt b o (ay E)):=zH (fun w' hb=>by
  rw[fB];exact WQ (h.below hb) (bE _ _))
 have Du:Hid (∀w',Below w.heap.size w w'→Sl w' (.slice (some ⟨b,o+32,none⟩) 48 (c-32)) (aJ (jk KK 0 (nb 32 X) (nb 32 T)))):=zH (fun w' hb=>by
  have ZD:(nb 32 E++jk KK 0 (nb 32 X) (nb 32 T)).length=80:=(by rw[zA5,aC,aI]);have q:=Sl.tail (m:=32) (bs:=nb 32 E++jk KK 0 (nb 32 X) (nb 32 T)) (by rw[ZD];exact h.below hb) (by rw[ZD];decide);rw[ZD,List.drop_left' (aC 32 E)]at q;exact q)
 have afD:80≤c:=by
  obtain⟨a',c',h1,h2,h3,-⟩:=h;simp only[Value.slice.injEq]at h1;omega
 have ah4:¬c=32:=zOm;have ah5:32≤c:=zOm;clear afD;have cA:=zH (fun w' g2 (h1:Sl w' (.slice (some ⟨b,o+32,none⟩) 48 (c-32)) (aJ (jk KK 0 (nb 32 X) (nb 32 T)))) (h2:Sl w' (.slice (some ⟨g2,0,none⟩) 32 32) (aJ (nb 32 T)))=>show Calls Tryz.prog 131 #[.agg (ag 32 KK).toArray,.agg (ag 12 0).toArray,.slice (some ⟨b,o+32,none⟩) 48 (c-32),.slice (some ⟨g2,0,none⟩) 32 32] w' (fun e w''=>∃g,e=.returned (.tuple #[.slice (some ⟨g,0,none⟩) 32 32,.int .i64 0])∧w'.heap.size≤g∧Arr w'' g (aJ (nb 32 X))∧Below w'.heap.size w' w'')from by
  have q:=Iy KK 0 (nb 32 X) (nb 32 T) zck zck (some ⟨b,o+32,none⟩) (some ⟨g2,0,none⟩) (c-32) 32 w' zbX zcc;rw[aC,aC]at q;exact q)
 clear hwr hsw jN lE hKK aI hE hZ hd hT;replace h:=zH h;go_enter Tryz.func76,Tryz.ntmps76;go_upto_region 1 with fail
 refine be (fun W aB k2 k4 kb=>?_);replace k2:Arr W w.heap.size (ay d):=k2;replace k4:Arr W (w.heap.size+1) (ag 32 0):=k4;clear aB;have y3:=hr.out W kb;have DJ:∀w g o c,(Instr.arrayAt 27 (.slice (some ⟨g,o,none⟩) 32 c)).run Tryz.prog w=.ok (.pointer (some ⟨g,o,none⟩)) w:=fun w g o c=>run_arrayAt w 27 5 32 _ 32 c Tryz.underlying27 zDc;go_upto_region 4 with(first|(refine aE rfl _ _ rfl _ _ rfl zKr _ y3 zam ?_)|(refine aD rfl _ _ _ rfl _ (ay E) rfl rfl _ (Arr.new _ _ _) zam zam (jO _) (fun w3 k6 hg aB=>?_)))
 have hb:=a9 hg;replace k2:=k2.below hb;replace k4:=k4.below hb;replace kb:=az kb hb;obtain⟨g6,lV⟩:=zX W.heap.size;rw[lV]at k6⊢;clear hb hg aB lV y3 hr;go_wp2_with(first|(refine ab rfl _ _ rfl _ rfl zDk _ k2 zam ?_)|(refine ab rfl _ _ rfl _ rfl zDk _ k6 zam ?_));refine zQ (cS.out _) fun w4 hb=>?_;obtain⟨k2,k4,k6⟩:=dZ k2 k4 k6 hb;replace kb:=az kb hb;clear hb cS;go_upto_region 5 with(refine aD rfl _ _ _ rfl _ (ay Z) rfl rfl _ (Arr.new _ _ _) zam zam (jO _) (fun w5 k7 hg aB=>?_))
 have hb:=a9 hg;obtain⟨k2,k4,k6⟩:=dZ k2 k4 k6 hb;replace kb:=az kb hb;obtain⟨g7,lW⟩:=zX w4.heap.size;rw[lW]at k7⊢;clear hb hg aB lW;go_wp2_with(refine ab rfl _ _ rfl _ rfl zDk _ k2 zam ?_);refine zQ (cP.out _) fun w6 hb=>?_;obtain⟨k4,k6,k7⟩:=dZ k4 k6 k7 hb;replace kb:=az kb hb;clear hb cP k2;go_upto_region 8 with(refine aD rfl _ _ _ rfl _ (ay T) rfl rfl _ (Arr.new _ _ _) zam zam (jO _) (fun w9 k9 hg aB=>?_))
 have hb:=a9 hg;obtain⟨k4,k6,k7⟩:=dZ k4 k6 k7 hb;replace kb:=az kb hb;obtain⟨g9,kP⟩:=zX w6.heap.size;rw[kP]at k9⊢;clear hb hg aB kP;have hT9:=zH (show Sl w9 (.slice (some ⟨g9,0,none⟩) 32 32) (aJ (nb 32 T))from Sl.ofArrN (by rw[←fB];exact k9) (aC _ _) zDc);refine cH 9999 13 fun bB=>?_;refine gF (A:=?_) 7 123 zKr zaI [0,1,3,4,5,6] zKr ?_ ?_;rotate_left
 ·intro w' hB;obtain⟨y6,y7⟩:=fZ k6 k7 hB;iterate 6 (first|(refine db rfl rfl ?_;simp only[Act.put,zSa,zSz,zSs])|(refine bN rfl rfl _ _ rfl _ rfl zDk _ zAm zLn ?_;simp only[Act.put,zSa,zSz,zSs])|(refine dw rfl rfl _ _ rfl (ag 12 0).toArray zKr ?_;simp only[Act.put,zSa,zSz,zSs])|(refine cj (v:=?_) rfl rfl ?_ ?_;rotate_left;(focus (go_simp;try(with_reducible rfl)));simp only[Act.put,zSa,zSz,zSs]))
  exact eo
 refine eg 2 127 bB cK.out fun pJ b9=>?_;refine aY 7 255 rfl zDk (fun K hK=>?_);go_simp;refine(cA.out _ _ (Du.out _ (az kb b9)) (hT9.out.below b9)).mono ?_;rintro e m9 ⟨gr,rfl,Eh,kr,gH⟩;have di:=aW b9 (zA0 _) gH;refine hK (fun w'=>Below (w9).heap.size (w9) w') _ _ di (fun _ h=>h) ?_;clear hK K b9;try simp only[Act.put,zSa,zSz,zSs]
 refine dz ?_ 0 8191 zaK [8,9,10,11,12] (fun _ _=>zRd) ?_;refine ap zKr ?_;replace k4:=k4.below di;have kb9:=az kb di;rw[←eB]at kr;clear cA cK hT9 k6 k7 k9 Du kb;go_wp2_with(first|(refine ab rfl _ _ rfl _ rfl zDk _ kr zbx ?_)|(refine aD rfl _ _ _ rfl _ (ag 32 X) rfl rfl _ k4 zbx za3 (bm _ _) (fun w10 k10 hg aB=>?_)));have kb10:=gQ kb9 hg (Nat.le_succ _) kb9.size;exact bodyPost_ret (aT Tryz.results76 _ _ _ _ rfl Tryz.underlying27 rfl _ k10 zbx _ rfl) rfl ⟨rfl,kb10⟩
def tY (kv:Value) (r s:Nat) (S:Stt) (v:Sv) (bt:Int) (q:Nat):List Value:=kv::(ag 32 r++(ag 32 s++(S.cs v++(.int .i64 bt::ag 32 q))))
theorem UV (kv:Value) (r s:Nat) (S:Stt) (v:Sv) (bt:Int) (q:Nat):(tY kv r s S v bt q).length=107:=by simp[tY,aa,Stt.cs]
section
variable {w:World} {c:Nat} {kv:Value} {r s:Nat} {S:Stt} {v:Sv} {bt:Int} {q:Nat}
theorem acb (h:Arr w c (tY kv r s S v bt q)):w.rangeAt c 1 (ag 32 r):=h.range (fun j hj=>gW (A:=[kv]) rfl j hj)
theorem Xj (h:Arr w c (tY kv r s S v bt q)):w.rangeAt c 33 (ag 32 s):=h.range (fun j hj=>by
 rw[show tY kv r s S v bt q=(kv::ag 32 r)++(ag 32 s++(S.cs v++(.int .i64 bt::ag 32 q))) by simp[tY]];exact gW zcb j hj)
theorem Fh (h:Arr w c (tY kv r s S v bt q)):w.rangeAt c 65 (S.cs v):=h.range (fun j hj=>by
 rw[show tY kv r s S v bt q=(kv::(ag 32 r++ag 32 s))++(S.cs v++(.int .i64 bt::ag 32 q)) by simp[tY]];exact gW zcb j hj)
theorem Yx (h:Arr w c (tY kv r s S v bt q)):w.cell? ⟨c,74,none⟩=some (.int .i64 bt):=h.cell (by
 rw[show tY kv r s S v bt q=(kv::(ag 32 r++(ag 32 s++S.cs v)))++([.int .i64 bt]++ag 32 q) by simp[tY]];have q:=gW (A:=kv::(ag 32 r++(ag 32 s++S.cs v))) (B:=[.int .i64 bt]) (C:=ag 32 q) (o:=74) (by simp[aa,Stt.cs]) 0 Nat.zero_lt_one;exact q)
theorem Br (h:Arr w c (tY kv r s S v bt q)):w.cell? ⟨c,0,none⟩=some kv:=h.cell rfl
theorem wj (h:Arr w c (tY kv r s S v bt q)) {j:Nat} {u:Value} (hj:(S.cs v)[j]? =some u):w.cell? ⟨c,65+j,none⟩=some u:=by
 have:=Fh h j u hj;exact this
end
theorem PP (c r s:Nat) (kv:Value) (S:Stt) (v:Sv) (bt:Int) (q:Nat) (a:Option Addr) (cb:Nat) (ver b:Int) (root D X:Nat) (i:Int) (k R1 s1 RS SS:Nat) (hv:0≤ver) (lP:ver≤2147483647) (hb:1≤b) (hb2:b≤32) (hi:td i=true)
 (hr:r<256^32) (hs:s<256^32) (hk:k<256^32) (hR1:R1<256^32) (kQ:s1<256^32) (hRS:RS<256^32) (hSS:SS<256^32) (e1:(td i&&AH r R1 s1 (jT++(bS [i]++nb 32 k)))=true) (e2:AH k RS SS (fj ver b root (jw (bD s 9) D X) i k R1 s1)=true)
 (XO:S.floor≤ver) (Qo:bt≠AG S) (w:World) (k0:Arr w c (tY kv r s S v bt q)) (ep:StOk w S v) (dI:Sl w (.slice a 300 cb) (aJ (Ka ver b root (jw (bD s 9) D X) i k (nb 32 R1++nb 32 s1) (nb 32 RS++nb 32 SS))))
 (Q7:∀w',Below w.heap.size w w'→CB 75 #[.pointer (some ⟨c,0,none⟩),.int .i64 i] w' (.bool false)) (R:Int→World→Prop)
 (hC:∀w' v',Below w.heap.size w w'→StOwn w.heap.size w' (Kl S (Ka ver b root (jw (bD s 9) D X) i k (nb 32 R1++nb 32 s1) (nb 32 RS++nb 32 SS))) v'→Calls Tryz.prog 78 #[.pointer (some ⟨c,0,none⟩),.agg ((Kl S (Ka ver b root (jw (bD s 9) D X) i k (nb 32 R1++nb 32 s1) (nb 32 RS++nb 32 SS))).cs v').toArray] w' fun e w''=>∃x,e=.returned (.int .i64 x)∧R x w''):
 Calls Tryz.prog 46 #[.pointer (some ⟨c,0,none⟩),.slice a 300 cb] w fun e w'=>∃x,e=.returned (.int .i64 x)∧R x w':=by
 have nA:=tW (bD s 9) D X;have cU:=zH (fun w g c' h=>EQ s D X hs g 0 c' w h);obtain⟨wl,Rg⟩:=zX (jw (bD s 9) D X);rw[Rg]at e2 dI hC nA cU;have XW:(Ka ver b root wl i k (nb 32 R1++nb 32 s1) (nb 32 RS++nb 32 SS)).length=300:=by
  rw[←FT,zA5,mq _ _ _ _ _ _ _ _ nA,zA5,aC,aC]
 have cR:=zH (HT ver b root (.slice a 300 cb) wl nA i k R1 s1 RS SS hv lP hb hb2 hi w dI);have cK:=zH (fun w g c' h=>J7 r ver b root (some ⟨g,0,none⟩) c' wl nA i k R1 s1 RS SS hv lP hb hb2 hi hr hk hR1 kQ hRS hSS e1 e2 w h);obtain⟨OUT,hO⟩:=zX (Ka ver b root wl i k (nb 32 R1++nb 32 s1) (nb 32 RS++nb 32 SS));rw[hO]at dI hC XW;have cT:=zH (fun w h=>Ap S v w h);have cP:=zH (fun w h h2=>V3 S v (.slice a 300 cb) OUT w h h2 (by rw[XW];decide));obtain⟨tg,NL⟩:=zX (AG S);rw[NL]at cT Qo;rw[dJ,show(if(true&&true)=true then(0:Int)else 11)=0 from rfl]at cK;rw[dJ]at cU;replace dI:=zH dI;replace ep:=zH ep;replace hC:=zH hC;replace Q7:=zH Q7;have ah1:(bt==tg)=false:=(by simpa using Qo);have afP:¬ver<S.floor:=zOm;obtain⟨fl,Zm⟩:=zX S.floor;have yfl:Hid (∀w',Arr w' c (tY kv r s S v bt q)→w'.cell? ⟨c,65,none⟩=some (.int .i64 fl)):=zH (fun w' h=>by rw[←Zm];exact wj h (j:=0) rfl);rw[Zm]at afP
 have kb:=zA6 w.heap.size w;have lU:=k0.lt;clear hv lP hb hb2 hi hr hs hk hR1 kQ hRS hSS e1 e2 XO Qo Rg XW hO NL Zm nA;go_enter Tryz.func46,Tryz.ntmps46;go_wp2_with fail;refine cR.out.mono ?_;rintro e w1 ⟨gw,cw,rfl,hw,-,hb⟩;replace k0:=k0.below hb;replace kb:=az kb hb;clear hb cR;go_upto_region 2 with(refine aD rfl _ _ _ rfl _ (bU ver b root (.slice (some ⟨gw,0,none⟩) 80 cw) i k R1 s1 RS SS) rfl rfl _ (Arr.new _ _ _) zcf zcf (jd _ _ _ _ _ _ _ _ _ _ rfl) (fun w2 k5 hg aB=>?_))
 have hb2:=a9 hg;replace k0:=k0.below hb2;replace kb:=az kb hb2;have rK:=zH (hw.below hb2);obtain⟨g5,jJ⟩:=zX w1.heap.size;rw[jJ]at k5⊢;clear hg aB jJ hb2 hw;go_upto_region 4 with fail
 refine cH 9999 7 fun aP=>?_;refine dz ?_ 2 31 zaD [0,1,2,3,4] (fun w' hB=>by have y0:=acb (k0.below hB);have y5:=k5.below hB;exact zRm) ?_;refine eg 5 63 aP (cK.out _ _ _ (rK.out.below aP)) fun i8 bn=>?_;refine dz ?_ 0 127 za0 [6] (fun _ _=>zRd) ?_;refine ap zKr ?_;replace k0:=k0.below bn;replace k5:=k5.below bn;replace rK:=zH (rK.out.below bn);replace kb:=az kb bn;clear bn cK;have y35:=Cq k5;go_wp2_with fail;refine zQ (Q7.out _ kb) fun w6 Nj=>?_;replace k0:=k0.below Nj;replace k5:=k5.below Nj;replace rK:=zH (rK.out.below Nj);replace kb:=az kb Nj;clear Nj Q7 y35;go_upto_region 9 with fail
 refine cH 9999 9 fun bB=>?_;refine dz ?_ 0 511 zaI [0,1,2,3,4,5,6,7,8] (fun w' hB=>by have yv:=(k5.below hB).cell (j:=0) (u:=.int .i64 ver) rfl;have y0:=yfl.out w' (k0.below hB);exact zRd) ?_;refine ap zKr ?_;replace k0:=k0.below bB;replace k5:=k5.below bB;replace rK:=zH (rK.out.below bB);replace kb:=az kb bB;obtain⟨w7,hw7⟩:=zX w6.drew;rw[hw7]at k0 k5 rK kb⊢;have X8:=kb.size;clear bB hw7;go_upto_region 11 with fail
 refine cH 11 13 fun b9=>?_;refine eZ ?_ 7 63 zaJ [0,1,2,3,4,5] (fun w' hB=>by have y0:=Xj (k0.below hB);have yw:=vG (k5.below hB);exact zRm) ?_;refine bG 2 2047 [(6,49),(7,42),(8,50),(9,51),(10,8)] [(false,[]),(true,[(6,49)]),(true,[(7,42)]),(true,[(7,42)]),(false,[])] [(6,Ph.is (.tuple #[.agg (ag 32 X).toArray,.int .i64 0])),(7,Ph.is (.tuple #[.agg (ag 32 X).toArray,.int .i64 0])),(8,Ph.is (.agg (ag 32 X).toArray)),(9,Ph.is (.int .i64 0)),(10,Ph.arr w7.heap.size (ag 32 0))] zKr zKr zaA ?_ ?_
 ·refine⟨⟨_,rfl,?_⟩,⟨_,rfl,?_⟩,⟨_,rfl,?_⟩,⟨_,rfl,?_⟩,⟨_,rfl,?_⟩,trivial⟩
  ·exact zei
  ·exact zde
  ·exact zcZ
  ·exact zcZ
  ·exact zcV
 intro vs Yn BB YN hP hD;obtain⟨q6,q7,q8,q9,q10,-⟩:=hP;simp only[aG,Act.put,zSa,zSz,zSs];rw[show vs 6=_ from q6,show vs 7=_ from q7,show vs 8=_ from q8,show vs 9=_ from q9];clear q6 q7 q8 q9;obtain⟨g10,e10,qT,nU⟩:=q10;rw[e10];clear e10 hD vs;obtain⟨agy,agA⟩:=zI2 k0 k5 qT;clear cU;obtain⟨k0,k5⟩:=fZ k0 k5 BB;have kb:=az kb BB;refine kO 4095 ?_;refine eZ ?_ 0 8191 zaC [12] (fun _ _=>zRd) ?_;refine ap zKr ?_
 first|refine aV nU (fun m9 nU ad ak=>?_)|refine eu nU (fun m9 nU ad ak=>?_)
 obtain⟨k0,k5⟩:=rR ad k0 k5;have kb:=ak _ _ zOm kb;clear ad ak;clear nU rK agy agA qT X8;go_upto_region 14 with fail
 obtain⟨w9,hw9⟩:=zX m9;rw[hw9]at k0 kb⊢;clear hw9 k5;refine cH 9999 10 fun dV=>?_;refine dz ?_ 2 255 zaL [0,1,2,3,4,5,6,7] (fun w' hB=>by have y0:=Fh (k0.below hB);have y74:=Yx (k0.below hB);exact zRm) ?_;refine eg 8 511 dV (cT.out _ (ep.out.below (az kb dV))) fun uG iB=>?_;refine dz ?_ 0 1023 zbb [9] (fun _ _=>zRd) ?_;refine ap zKr ?_;replace k0:=k0.below iB;replace kb:=az kb iB;clear iB cT;have y0:=Fh k0;go_wp2_with(refine aE rfl _ _ rfl _ _ rfl zKr _ y0 zKr ?_);refine(cP.out _ (ep.out.below kb) (dI.out.below kb)).mono ?_;rintro e w10 ⟨v',rfl,ho,hb⟩;have sS:=zH (ho.mono kb.size);replace kb:=az kb hb;clear hb ho k0 y0;go_wp2_with fail;refine(hC.out _ v' kb sS.out).mono ?_;rintro e w11 ⟨x,rfl,hR⟩;replace hR:=zH hR;clear hC sS kb;go_wp2_with fail;go_ret;exact⟨x,rfl,hR.out⟩
def gK (j:Int) (m:List Value) (X:Nat) (fits:Bool):List Value:=.int .i64 j::(m++(ag 32 X++[.bool fits]))
theorem fh (j:Int) (m:List Value) (X:Nat) (f:Bool) (h:m.length=196):(gK j m X f).length=230:=by simp[gK,aa,h]
theorem nJ (j:Int) (m:List Value) (X:Nat) (f:Bool) (h:∀u∈m,u.oneCell'=true):∀u∈gK j m X f,u.oneCell'=true:=by
 intro u hu;rcases List.mem_cons.1 hu with rfl|hu
 ·rfl
 rcases List.mem_append.1 hu with hu|hu
 ·exact h u hu
 rcases List.mem_append.1 hu with hu|hu
 ·exact bm _ _ u hu
 ·rw[List.mem_singleton.1 hu];rfl
theorem Yy (c r s:Nat) (kv:Value) (S:Stt) (v:Sv) (bt:Int) (q:Nat) (j:Nat) (hj:j<2) (mv:Value) (L4:∀w',Arr w' c (tY kv r s S v bt q)→w'.cell? ⟨c,67+j*3,none⟩=some mv) (ver b:Int) (root D X:Nat) (i:Int) (k R1 s1 RS SS:Nat)
 (hv:0≤ver) (lP:ver≤2147483647) (hb:1≤b) (hb2:b≤32) (hi:td i=true) (hs:s<256^32) (w:World) (k0:Arr w c (tY kv r s S v bt q))
 (dI:Sl w mv (aJ (Ka ver b root (jw (bD s 9) D X) i k (nb 32 R1++nb 32 s1) (nb 32 RS++nb 32 SS)))):
 Calls Tryz.prog 94 #[.pointer (some ⟨c,0,none⟩),.int .i64 (j:Int)] w fun e w'=>∃gw cw,e=.returned (.tuple #[.agg (gK j (bU ver b root (.slice (some ⟨gw,0,none⟩) 80 cw) i k R1 s1 RS SS) X true).toArray,.bool true])∧w.heap.size≤gw∧Below w.heap.size w w':=by
 have nA:=tW (bD s 9) D X;have cU:=zH (fun w g c' h=>EQ s D X hs g 0 c' w h);obtain⟨wl,Rg⟩:=zX (jw (bD s 9) D X);rw[Rg]at dI nA cU;rw[dJ]at cU;have cR:=zH (fun w' (jW:Below w.heap.size w w')=>HT ver b root mv wl nA i k R1 s1 RS SS hv lP hb hb2 hi w' (dI.below jW));replace L4:=zH L4;have i0:(0:Int)≤(j:Int):=zOm;have i1:(j:Int)<2:=zOm;have lU:=k0.lt;clear hv lP hb hb2 hi hs dI nA Rg hj;go_enter Tryz.func94,Tryz.ntmps94;go_upto_region 1 with fail
 refine aH (fun W aB k4 kb=>?_);obtain⟨Z,hZ⟩:∃Z:List Value,Z=gK 0 (bU 0 0 0 (.slice none 0 0) 0 0 0 0 0 0) 0 false:=⟨_,rfl⟩;replace k4:Arr W w.heap.size (gK 0 (bU 0 0 0 (.slice none 0 0) 0 0 0 0 0 0) 0 false):=k4;rw[←hZ]at k4;have hZl:Hid (Z.length=230):=zH zcl;replace k0:=k0.below kb;clear aB hZ;have yc:=L4.out W k0;go_wp2_with fail;refine(cR.out _ kb).mono ?_;rintro e w1 ⟨gw,cw,rfl,hw,AN,hb⟩;have vy:w.heap.size≤gw:=zA14 kb.size AN;replace k0:=k0.below hb;replace k4:=k4.below hb;replace kb:=az kb hb;clear hb cR yc AN;go_upto_region 2 with(refine aD rfl _ _ _ rfl _ (bU ver b root (.slice (some ⟨gw,0,none⟩) 80 cw) i k R1 s1 RS SS) rfl rfl _ (Arr.new _ _ _) zcf zcf (jd _ _ _ _ _ _ _ _ _ _ rfl) (fun w2 k6 hg aB=>?_))
 have hb2:=a9 hg;replace k0:=k0.below hb2;replace k4:=k4.below hb2;replace kb:=az kb hb2;have rK:=zH (hw.below hb2);obtain⟨g6,lV⟩:=zX w1.heap.size;rw[lV]at k6⊢;have X8:=kb.size;clear hg aB lV hb2 hw;go_upto_region 4 with fail
 refine cH 11 13 fun aP=>?_;refine eZ ?_ 7 63 zaD [0,1,2,3,4,5] (fun w' hB=>by have y0:=Xj (k0.below hB);have yw:=vG (k6.below hB);exact zRm) ?_;refine bG 2 2047 [(6,31),(7,24),(8,32),(9,33),(10,8)] [(false,[]),(true,[(6,31)]),(true,[(7,24)]),(true,[(7,24)]),(false,[])] [(6,Ph.is (.tuple #[.agg (ag 32 X).toArray,.int .i64 0])),(7,Ph.is (.tuple #[.agg (ag 32 X).toArray,.int .i64 0])),(8,Ph.is (.agg (ag 32 X).toArray)),(9,Ph.is (.int .i64 0)),(10,Ph.arr w2.heap.size (ag 32 0))] zKr zKr zaA ?_ ?_
 ·refine⟨⟨_,rfl,?_⟩,⟨_,rfl,?_⟩,⟨_,rfl,?_⟩,⟨_,rfl,?_⟩,⟨_,rfl,?_⟩,trivial⟩
  ·exact zei
  ·exact zde
  ·exact zcZ
  ·exact zcZ
  ·exact zcV
 intro vs aeO zU P5 hP hD;obtain⟨q6,q7,q8,q9,q10,-⟩:=hP;simp only[aG,Act.put,zSa,zSz,zSs];rw[show vs 6=_ from q6,show vs 7=_ from q7,show vs 8=_ from q8,show vs 9=_ from q9];clear q6 q7 q8 q9;obtain⟨g10,e10,qT,nU⟩:=q10;rw[e10];clear e10 hD vs;have agz:=zI2 k4 k6 qT;clear cU;obtain⟨k4,k6⟩:=fZ k4 k6 zU;have kb:=az kb zU;refine kO 4095 ?_;refine eZ ?_ 0 8191 zaC [12] (fun _ _=>zRd) ?_;refine ap zKr ?_
 first|refine aV nU (fun i8 nU ad ak=>?_)|refine eu nU (fun i8 nU ad ak=>?_)
 obtain⟨k4,k6⟩:=rR ad k4 k6;have kb:=ak _ _ zOm kb;clear ad ak;generalize g10=g8 at*;clear k0 rK qT;go_wp2_with(first|(refine ab rfl _ _ rfl _ rfl zDk _ k6 zcf ?_)|(refine ab rfl _ _ rfl _ rfl zDk _ nU zbx ?_)|(refine bi rfl _ _ rfl (gK j (bU ver b root (.slice (some ⟨gw,0,none⟩) 80 cw) i k R1 s1 RS SS) X true).toArray zKr ?_)|(refine aD rfl _ _ _ rfl _ (gK j (bU ver b root (.slice (some ⟨gw,0,none⟩) 80 cw) i k R1 s1 RS SS) X true) rfl rfl _ k4 zcm (by rw[hZl.out,fh _ _ _ _ (a8 _ _ _ _ _ _ _ _ _ _)]) (nJ _ _ _ _ (jd _ _ _ _ _ _ _ _ _ _ rfl)) (fun w9 k9 kP ie=>?_)));have kb9:=gQ kb kP (zA0 _) kb.size;exact bodyPost_ret (aT Tryz.results94 _ _ _ _ rfl Tryz.underlying158 rfl _ k9 zcm _ rfl) rfl ⟨gw,cw,rfl,vy,kb9⟩
end Go.Proofs.YtgfkgolafkdjfaaGreatDoor
