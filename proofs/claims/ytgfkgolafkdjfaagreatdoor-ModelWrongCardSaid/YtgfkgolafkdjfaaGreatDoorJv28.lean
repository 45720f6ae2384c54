/- ModelWrong: part 28 of its proof: lemmas and contracts, each with its conditions in its own statement; the last part holds the law itself. -/
import Derived.ProofKit
import Derived.Test.YtgfkgolafkdjfaaGreatDoorJv26

set_option maxHeartbeats 4000000
set_option maxRecDepth 100000
namespace Go.Proofs.YtgfkgolafkdjfaaGreatDoor
open Go.RowKit
namespace Ed
structure Cv (p:Nat) [NeZero p] where
 c:Fin p
 i:Fin p
 h:Fin p
 iv:Fin p→Fin p
 iv_mul:∀a,a≠0→a*iv a=1
 iv0:iv 0=0
 two:2*h=1
 one:(1:Fin p)≠0
 ii:i*i= -1
 nsq:∀x,x*x≠c
 ladder:121665*c+121666=0
 nz:(121666:Fin p)≠0
structure Pt (p:Nat) where
 x:Fin p
 y:Fin p
theorem Pt.ext {p:Nat}:∀ {P Q:Pt p} (_:P.x=Q.x) (_:P.y=Q.y),P=Q
 |⟨_,_⟩,⟨_,_⟩,rfl,rfl=>rfl
section
variable {p:Nat} [NeZero p]
theorem Cv.zero_div (C:Cv p) {a b:Fin p} (h:a*b=0):a=0∨b=0:=by
 by_cases ha:a=0
 ·exact .inl ha
 ·right;have:=C.iv_mul a ha;exact zc5
theorem Cv.mul_ne (C:Cv p) {a b:Fin p} (ha:a≠0) (hb:b≠0):a*b≠0:=fun h=>(C.zero_div h).elim ha hb
theorem Cv.cancel (C:Cv p) {a b d:Fin p} (hd:d≠0) (h:d*a=d*b):a=b:=by
 have:=C.iv_mul d hd;exact zc5
theorem Cv.sq_ne (C:Cv p) {a:Fin p} (h:a*a=0):a=0:=(C.zero_div h).elim id id
theorem Cv.two_ne (C:Cv p):(2:Fin p)≠0:=by
 intro e;have h1:=C.two;have h2:=C.one;exact zc5
theorem Cv.c_ne (C:Cv p):C.c≠0:=fun e=>C.nsq 0 zcg
theorem Cv.i_ne (C:Cv p):C.i≠0:=by
 intro e;have h1:=C.ii;have h2:=C.one;exact zc5
def On (C:Cv p) (P:Pt p):Prop:=P.x*P.x*P.y*P.y=C.c*(P.y*P.y-P.x*P.x-1)
theorem Cv.no_sq (C:Cv p) {A B:Fin p} (hA:A≠0) (h:A*A=C.c*(B*B)):False:=by
 have hB:B≠0:=by
  intro e;subst e;exact hA (C.sq_ne zcg)
 have h1:=C.iv_mul B hB;refine C.nsq (A*C.iv B) ?_;exact zc5
theorem Cv.complete (C:Cv p) {P Q:Pt p} (hP:On C P) (hQ:On C Q) (e:Fin p) (he:e*e=1) (hD:P.x*Q.x*P.y*Q.y=e*C.c):False:=by
 obtain⟨x1,y1⟩:=P;obtain⟨x2,y2⟩:=Q;simp only[On]at hP hQ hD;have hc:=C.c_ne;have hi:=C.ii;have iS:=C.i_ne;have qU:x1≠0:=by
  intro h;refine hc ?_;exact zc5
 have Dx:y1≠0:=by
  intro h;refine hc ?_;exact zc5
 have Po:x2≠0:=by
  intro h;refine hc ?_;exact zc5
 have k1:(C.i*x1*y1*(C.i*x2+y2))*(C.i*x1*y1*(C.i*x2+y2))=C.c*((C.i*(C.i*x1+e*y1))*(C.i*(C.i*x1+e*y1))):=by
  refine C.cancel hc ?_;exact zc5
 have k2:(C.i*x1*y1*(C.i*x2-y2))*(C.i*x1*y1*(C.i*x2-y2))=C.c*((C.i*(C.i*x1-e*y1))*(C.i*(C.i*x1-e*y1))):=by
  refine C.cancel hc ?_;exact zc5
 have h0:C.i*x1*y1≠0:=C.mul_ne (C.mul_ne iS qU) Dx
 by_cases h1:C.i*x2+y2=0
 ·by_cases h2:C.i*x2-y2=0
  ·have h3:2*(C.i*x2)=0:=zcg;exact C.mul_ne C.two_ne (C.mul_ne iS Po) h3
  ·exact C.no_sq (C.mul_ne h0 h2) k2
 ·exact C.no_sq (C.mul_ne h0 h1) k1
theorem Cv.dp (C:Cv p) {P Q:Pt p} (hP:On C P) (hQ:On C Q):C.c+P.x*Q.x*P.y*Q.y≠0:=by
 intro h;refine C.complete hP hQ (-1) zcg (by grind)
theorem Cv.dm (C:Cv p) {P Q:Pt p} (hP:On C P) (hQ:On C Q):C.c-P.x*Q.x*P.y*Q.y≠0:=by
 intro h;refine C.complete hP hQ 1 zcg (by grind)
def add (C:Cv p) (P Q:Pt p):Pt p:=
 ⟨C.c*(P.x*Q.y+Q.x*P.y)*C.iv (C.c+P.x*Q.x*P.y*Q.y),C.c*(P.y*Q.y+P.x*Q.x)*C.iv (C.c-P.x*Q.x*P.y*Q.y)⟩
theorem add_x (C:Cv p) {P Q:Pt p} (hP:On C P) (hQ:On C Q):(add C P Q).x*(C.c+P.x*Q.x*P.y*Q.y)=C.c*(P.x*Q.y+Q.x*P.y):=by
 have h:=C.iv_mul _ (C.dp hP hQ);unfold add;simp only;exact zc5
theorem add_y (C:Cv p) {P Q:Pt p} (hP:On C P) (hQ:On C Q):(add C P Q).y*(C.c-P.x*Q.x*P.y*Q.y)=C.c*(P.y*Q.y+P.x*Q.x):=by
 have h:=C.iv_mul _ (C.dm hP hQ);unfold add;simp only;exact zc5
theorem add_comm (C:Cv p) (P Q:Pt p):add C P Q=add C Q P:=by
 unfold add;have e1:C.c+P.x*Q.x*P.y*Q.y=C.c+Q.x*P.x*Q.y*P.y:=zcg;have e2:C.c-P.x*Q.x*P.y*Q.y=C.c-Q.x*P.x*Q.y*P.y:=zcg;rw[e1,e2];congr 1
 ·grind
 ·grind
theorem on_add (C:Cv p) {P Q:Pt p} (hP:On C P) (hQ:On C Q):On C (add C P Q):=by
 have hx:=add_x C hP hQ;have hy:=add_y C hP hQ;have ha:=C.dp hP hQ;have hb:=C.dm hP hQ;have hc:=C.c_ne;generalize add C P Q=R at*;obtain⟨x1,y1⟩:=P;obtain⟨x2,y2⟩:=Q;obtain⟨x3,y3⟩:=R;simp only[On]at*;refine C.cancel (C.mul_ne (C.mul_ne ha ha) (C.mul_ne hb hb)) ?_;have e1:(C.c+x1*x2*y1*y2)*(C.c+x1*x2*y1*y2)*((C.c-x1*x2*y1*y2)*(C.c-x1*x2*y1*y2))*(x3*x3*y3*y3)=
  (C.c*(x1*y2+x2*y1))*(C.c*(x1*y2+x2*y1))*((C.c*(y1*y2+x1*x2))*(C.c*(y1*y2+x1*x2))):=by
  rw[←hx,←hy];exact zc5
 have e2:(C.c+x1*x2*y1*y2)*(C.c+x1*x2*y1*y2)*((C.c-x1*x2*y1*y2)*(C.c-x1*x2*y1*y2))*(C.c*(y3*y3-x3*x3-1))=
  C.c*((C.c*(y1*y2+x1*x2))*(C.c*(y1*y2+x1*x2))*((C.c+x1*x2*y1*y2)*(C.c+x1*x2*y1*y2))-(C.c*(x1*y2+x2*y1))*(C.c*(x1*y2+x2*y1))*((C.c-x1*x2*y1*y2)*(C.c-x1*x2*y1*y2))-(C.c+x1*x2*y1*y2)*(C.c+x1*x2*y1*y2)*((C.c-x1*x2*y1*y2)*(C.c-x1*x2*y1*y2))):=by
  rw[←hx,←hy];exact zc5
 rw[e1,e2];clear e1 e2 hx hy ha hb hc;exact zc5
theorem UP (c x1 y1 x2 y2 x3 y3:Fin p)
 (e1:x1*x1*y1*y1=c*(y1*y1-x1*x1-1))
 (e2:x2*x2*y2*y2=c*(y2*y2-x2*x2-1))
 (e3:x3*x3*y3*y3=c*(y3*y3-x3*x3-1)):
 ((x1*y2+x2*y1)*(c-x1*x2*y1*y2)*y3+x3*(y1*y2+x1*x2)*(c+x1*x2*y1*y2))*
  ((c+x2*x3*y2*y3)*(c-x2*x3*y2*y3)+c*(x1*y1*(x2*y3+x3*y2)*(y2*y3+x2*x3)))
 =((x2*y3+x3*y2)*(c-x2*x3*y2*y3)*y1+x1*(y2*y3+x2*x3)*(c+x2*x3*y2*y3))*
  ((c+x1*x2*y1*y2)*(c-x1*x2*y1*y2)+c*(x3*y3*(x1*y2+x2*y1)*(y1*y2+x1*x2))):=by
 exact zc5
theorem UQ (c x1 y1 x2 y2 x3 y3:Fin p)
 (e1:x1*x1*y1*y1=c*(y1*y1-x1*x1-1))
 (e2:x2*x2*y2*y2=c*(y2*y2-x2*x2-1))
 (e3:x3*x3*y3*y3=c*(y3*y3-x3*x3-1)):
 ((y1*y2+x1*x2)*(c+x1*x2*y1*y2)*y3+x3*(x1*y2+x2*y1)*(c-x1*x2*y1*y2))*
  ((c+x2*x3*y2*y3)*(c-x2*x3*y2*y3)+c*(-(x1*y1*(x2*y3+x3*y2)*(y2*y3+x2*x3))))
 =((y2*y3+x2*x3)*(c+x2*x3*y2*y3)*y1+x1*(x2*y3+x3*y2)*(c-x2*x3*y2*y3))*
  ((c+x1*x2*y1*y2)*(c-x1*x2*y1*y2)+c*(-(x3*y3*(x1*y2+x2*y1)*(y1*y2+x1*x2)))):=by
 exact zc5
theorem fr (c m nx ny s t X Y:Fin p) (hx:s*(c+m)=c*nx) (hy:t*(c-m)=c*ny):
 (c+m)*(c-m)*(s*Y+X*t)=c*(nx*(c-m)*Y+X*ny*(c+m))∧(c+m)*(c-m)*(t*Y+s*X)=c*(ny*(c+m)*Y+X*nx*(c-m))∧(c+m)*(c-m)*(s*X*t*Y)=c*(c*(X*Y*nx*ny)):=by
 have e1:(c+m)*(c-m)*(s*Y+X*t)=(s*(c+m))*(c-m)*Y+X*(t*(c-m))*(c+m):=zch;have e2:(c+m)*(c-m)*(t*Y+s*X)=(t*(c-m))*(c+m)*Y+X*(s*(c+m))*(c-m):=zch;have e3:(c+m)*(c-m)*(s*X*t*Y)=(s*(c+m))*(t*(c-m))*(X*Y):=zch;rw[e1,e2,e3,hx,hy];clear hx hy e1 e2 e3;refine⟨?_,?_,?_⟩<;>grind -lia-linarith
theorem P0 (C:Cv p) {c M N sl sr nl nr L1 L3 R1 R3 u v:Fin p} (hc:c≠0) (hM:M≠0) (hN:N≠0) (hl:c+sl≠0) (hr:c+sr≠0) (hu:u*(c+sl)=c*nl) (hv:v*(c+sr)=c*nr)
 (l1:M*nl=c*L1) (l3:M*sl=c*(c*L3)) (r1:N*nr=c*R1) (r3:N*sr=c*(c*R3)) (h:L1*(N+c*R3)=R1*(M+c*L3)):u=v:=by
 have a1:M*(c+sl)=c*(M+c*L3):=(by clear hu hv h r1 r3;grind -lia-linarith);have a2:N*(c+sr)=c*(N+c*R3):=(by clear hu hv h l1 l3 a1;grind -lia-linarith);have n1:M+c*L3≠0:=fun e=>C.mul_ne hM hl (by rw[a1,e];clear hu hv h l1 l3 r1 r3 a1 a2 e;grind -lia-linarith);have n2:N+c*R3≠0:=fun e=>C.mul_ne hN hr (by rw[a2,e];clear hu hv h l1 l3 r1 r3 a1 a2 n1 e;grind -lia-linarith);have b1:u*(M+c*L3)=c*L1:=by
  refine C.cancel hc ?_;have:c*(u*(M+c*L3))=u*(c*(M+c*L3)):=zci;rw[this,←a1,←l1];have:u*(M*(c+sl))=M*(u*(c+sl)):=zci;rw[this,hu];clear hu hv h l1 l3 r1 r3 a1 a2 n1 n2;exact zc5
 have b2:v*(N+c*R3)=c*R1:=by
  refine C.cancel hc ?_;have:c*(v*(N+c*R3))=v*(c*(N+c*R3)):=zcj;rw[this,←a2,←r1];have:v*(N*(c+sr))=N*(v*(c+sr)):=zcj;rw[this,hv];clear hu hv h l1 l3 r1 r3 a1 a2 n1 n2 b1;exact zc5
 refine C.cancel (C.mul_ne n1 n2) ?_;have e1:(M+c*L3)*(N+c*R3)*u=u*(M+c*L3)*(N+c*R3):=(by clear hu hv h l1 l3 r1 r3 a1 a2 n1 n2 b1 b2;grind -lia-linarith);have e2:(M+c*L3)*(N+c*R3)*v=v*(N+c*R3)*(M+c*L3):=(by clear hu hv h l1 l3 r1 r3 a1 a2 n1 n2 b1 b2 e1;grind -lia-linarith);rw[e1,e2,b1,b2];have e3:c*L1*(N+c*R3)=c*(L1*(N+c*R3)):=(by clear hu hv h l1 l3 r1 r3 a1 a2 n1 n2 b1 b2 e1 e2;grind -lia-linarith);rw[e3,h];clear hu hv h l1 l3 r1 r3 a1 a2 n1 n2 b1 b2 e1 e2 e3;exact zc5
theorem Cu {c M sl L3:Fin p}:c-sl=c+ -sl∧(M*sl=c*(c*L3)→M*(-sl)=c*(c*(-L3))):=by
 refine⟨by grind -lia-linarith,fun h=>by grind -lia-linarith⟩
theorem add_assoc (C:Cv p) {P Q R:Pt p} (hP:On C P) (hQ:On C Q) (hR:On C R):add C (add C P Q) R=add C P (add C Q R):=by
 rw[add_comm C P (add C Q R)];have h1:=on_add C hP hQ;have h2:=on_add C hQ hR;have hM:=C.mul_ne (C.dp hP hQ) (C.dm hP hQ);have hN:=C.mul_ne (C.dp hQ hR) (C.dm hQ hR);obtain⟨l1,l2,l3⟩:=fr C.c _ _ _ _ _ R.x R.y (add_x C hP hQ) (add_y C hP hQ);obtain⟨r1,r2,r3⟩:=fr C.c _ _ _ _ _ P.x P.y (add_x C hQ hR) (add_y C hQ hR);refine Pt.ext ?_ ?_
 ·exact P0 C C.c_ne hM hN (C.dp h1 hR) (C.dp h2 hP) (add_x C h1 hR) (add_x C h2 hP) l1 l3 r1 r3 (UP C.c P.x P.y Q.x Q.y R.x R.y hP hQ hR)
 ·have d1:=C.dm h1 hR;have d2:=C.dm h2 hP;have f1:=add_y C h1 hR;have f2:=add_y C h2 hP;rw[(Cu (M:=0) (L3:=0)).1]at d1 d2 f1 f2;exact P0 C C.c_ne hM hN d1 d2 f1 f2 l2 (Cu.2 l3) r2 (Cu.2 r3) (UQ C.c P.x P.y Q.x Q.y R.x R.y hP hQ hR)
def O (p:Nat) [NeZero p]:Pt p:=⟨0,1⟩
def neg (P:Pt p):Pt p:=⟨-P.x,P.y⟩
theorem on_O (C:Cv p):On C (O p):=by simp only[On,O];grind -lia-linarith
theorem on_neg (C:Cv p) {P:Pt p} (h:On C P):On C (neg P):=by simp only[On,neg]at*;grind -lia-linarith
theorem add_O (C:Cv p) {P:Pt p} (h:On C P):add C P (O p)=P:=by
 have h1:=C.c_ne;refine Pt.ext ?_ ?_
 ·refine C.cancel h1 ?_;have:=add_x C h (on_O C);simp only[O]at*;exact zc5
 ·refine C.cancel h1 ?_;have:=add_y C h (on_O C);simp only[O]at*;exact zc5
theorem add_neg (C:Cv p) {P:Pt p} (h:On C P):add C P (neg P)=O p:=by
 have hn:=on_neg C h;refine Pt.ext ?_ ?_
 ·refine C.cancel (C.dp h hn) ?_;have:=add_x C h hn;simp only[O,neg]at*;exact zc5
 ·refine C.cancel (C.dm h hn) ?_;have:=add_y C h hn;simp only[O,neg,On]at*;exact zc5
def mul (C:Cv p) (P:Pt p):Nat→Pt p
 |0=>O p
 |n+1=>add C (mul C P n) P
theorem on_mul (C:Cv p) {P:Pt p} (h:On C P):∀n,On C (mul C P n)
 |0=>on_O C
 |n+1=>on_add C (on_mul C h n) h
theorem mul_one (C:Cv p) {P:Pt p} (h:On C P):mul C P 1=P:=by
 show add C (O p) P=P
 rw[add_comm,add_O C h]
theorem mul_add (C:Cv p) {P:Pt p} (h:On C P) (m:Nat):∀n,mul C P (m+n)=add C (mul C P m) (mul C P n)
 |0=>(add_O C (on_mul C h m)).symm
 |n+1=>by
  show add C (mul C P (m+n)) P=add C (mul C P m) (add C (mul C P n) P)
  rw[mul_add C h m n,add_assoc C (on_mul C h m) (on_mul C h n) h]
theorem mul_mul (C:Cv p) {P:Pt p} (h:On C P) (m:Nat):∀n,mul C (mul C P m) n=mul C P (m*n)
 |0=>rfl
 |n+1=>by
  show add C (mul C (mul C P m) n) (mul C P m)=_
  rw[mul_mul C h m n,←mul_add C h,Nat.mul_succ]
def Rep (a b y:Fin p):Prop:=(a≠0∨b≠0)∧a*(1-y)=b*(1+y)
theorem Rep.par (C:Cv p) {a b y:Fin p} (h:Rep a b y):∃l,l≠0∧a=l*(1+y)∧b=l*(1-y):=by
 obtain⟨h1,h2⟩:=h;have h3:=C.two;have e1:a=C.h*(a+b)*(1+y):=(by clear h1;grind -lia-linarith);have e2:b=C.h*(a+b)*(1-y):=(by clear h1 e1;grind -lia-linarith);refine⟨C.h*(a+b),fun e=>?_,e1,e2⟩;rw[e]at e1 e2;rcases h1 with h1|h1
 ·exact h1 (by clear e2;grind -lia-linarith)
 ·exact h1 (by clear e1;grind -lia-linarith)
theorem rep_double (C:Cv p) {a b:Fin p} {P:Pt p} (hP:On C P) (h:Rep a b P.y):
 Rep ((a+b)*(a+b)*((a-b)*(a-b))) (((a+b)*(a+b)-(a-b)*(a-b))*((a+b)*(a+b)+121665*((a+b)*(a+b)-(a-b)*(a-b)))) (add C P P).y:=by
 obtain⟨l,hl,rfl,rfl⟩:=h.par C;have h0:=add_y C hP hP;have h2:=C.two_ne;have hd:=C.dm hP hP;have hc:=C.c_ne;have hn:=C.nz;have hk:=C.ladder;obtain⟨x,y⟩:=P;generalize (add C ⟨x,y⟩ ⟨x,y⟩).y=Y at*;simp only[On]at*;have e1:(l*(1+y)+l*(1-y))*(l*(1+y)+l*(1-y))*((l*(1+y)-l*(1-y))*(l*(1+y)-l*(1-y)))=16*(l*l*(l*l))*(y*y):=(by clear hP h0 hd hk;grind -lia-linarith);have e2:((l*(1+y)+l*(1-y))*(l*(1+y)+l*(1-y))-(l*(1+y)-l*(1-y))*(l*(1+y)-l*(1-y)))*((l*(1+y)+l*(1-y))*(l*(1+y)+l*(1-y))+121665*((l*(1+y)+l*(1-y))*(l*(1+y)+l*(1-y))-(l*(1+y)-l*(1-y))*(l*(1+y)-l*(1-y))))=
  16*(l*l*(l*l))*((1-y*y)*(1+121665*(1-y*y))):=by clear hP h0 hd hk e1;exact zc5
 rw[e1,e2];clear e1 e2;have LE:(16:Fin p)*(l*l*(l*l))≠0:=by
  have:(16:Fin p)=2*2*(2*2):=zcg;rw[this];exact C.mul_ne (C.mul_ne (C.mul_ne h2 h2) (C.mul_ne h2 h2)) (C.mul_ne (C.mul_ne hl hl) (C.mul_ne hl hl))
 refine⟨?_,?_⟩
 ·by_cases hy:y=0
  ·right;subst hy;have:16*(l*l*(l*l))*((1-0*0)*(1+121665*(1-0*0)))=16*(l*l*(l*l))*121666:=(by clear hP h0 hd hk;grind -lia-linarith);rw[this];exact C.mul_ne LE hn
  ·exact .inl (C.mul_ne LE (C.mul_ne hy hy))
 ·refine C.cancel hd ?_;have k1:(C.c-x*x*y*y)*(16*(l*l*(l*l))*(y*y)*(1-Y))=16*(l*l*(l*l))*((y*y)*((C.c-x*x*y*y)-C.c*(y*y+x*x))):=(by rw[←h0];clear hP h0 hd hk;grind -lia-linarith);have k2:(C.c-x*x*y*y)*(16*(l*l*(l*l))*((1-y*y)*(1+121665*(1-y*y)))*(1+Y))=16*(l*l*(l*l))*(((1-y*y)*(1+121665*(1-y*y)))*((C.c-x*x*y*y)+C.c*(y*y+x*x))):=(by rw[←h0];clear hP h0 hd hk k1;grind -lia-linarith);rw[k1,k2];congr 1;clear k1 k2 h0 hd LE hl;refine C.cancel hc ?_;generalize C.c=c at*;exact zc5
theorem Na (c x2 y2 x3 y3:Fin p) (e2:x2*x2*y2*y2=c*(y2*y2-x2*x2-1)) (e3:x3*x3*y3*y3=c*(y3*y3-x3*x3-1)):
 c*((y2+y3)*(y2+y3)*((c-x2*x3*y2*y3)-c*(y2*y3+x2*x3))*((c+x2*x3*y2*y3)-c*(y2*y3-x2*x3)))=c*((y3-y2)*(y3-y2)*((c-x2*x3*y2*y3)+c*(y2*y3+x2*x3))*((c+x2*x3*y2*y3)+c*(y2*y3-x2*x3))):=by
 exact zc5
theorem rep_diff (C:Cv p) {a b c d x y1:Fin p} {P Q:Pt p} (hP:On C P) (hQ:On C Q) (h1:Rep a b P.y) (h2:Rep c d Q.y) (hx:x≠0) (qU:x*(1-y1)=1+y1) (Dx:(add C P (neg Q)).y=y1):
 Rep ((((c-d)*(a+b))+((c+d)*(a-b)))*(((c-d)*(a+b))+((c+d)*(a-b)))) (x*((((c-d)*(a+b))-((c+d)*(a-b)))*(((c-d)*(a+b))-((c+d)*(a-b))))) (add C P Q).y:=by
 obtain⟨l,hl,rfl,rfl⟩:=h1.par C;obtain⟨m,hm,rfl,rfl⟩:=h2.par C;clear h1 h2;have h0:=add_y C hP hQ;have h3:=add_y C hP (on_neg C hQ);have Ju:=C.dm hP hQ;have hdp:=C.dp hP hQ;rw[Dx]at h3;have h2:=C.two_ne;have hc:=C.c_ne;have Pe:=C.one;obtain⟨x2,y2⟩:=P;obtain⟨x3,y3⟩:=Q;generalize (add C ⟨x2,y2⟩ ⟨x3,y3⟩).y=Y at*;simp only[On,neg]at*;clear Dx;generalize C.c=k at*;have hp:=Na k x2 y2 x3 y3 hP hQ;have As:y1*(k+x2*x3*y2*y3)=k*(y2*y3-x2*x3):=(by clear hP hQ h0 hp qU;grind -lia-linarith);clear h3;have e1:(m*(1+y3)-m*(1-y3))*(l*(1+y2)+l*(1-y2))+(m*(1+y3)+m*(1-y3))*(l*(1+y2)-l*(1-y2))=2*2*(l*m)*(y2+y3):=(by clear hP hQ h0 hp qU As;grind -lia-linarith);have e2:(m*(1+y3)-m*(1-y3))*(l*(1+y2)+l*(1-y2))-(m*(1+y3)+m*(1-y3))*(l*(1+y2)-l*(1-y2))=2*2*(l*m)*(y3-y2):=(by clear hP hQ h0 hp qU As e1;grind -lia-linarith);rw[e1,e2];clear e1 e2
 have h4:(2:Fin p)*2*(l*m)≠0:=C.mul_ne (C.mul_ne h2 h2) (C.mul_ne hl hm);generalize (2:Fin p)*2*(l*m)=n at*;refine⟨?_,?_⟩
 ·by_cases hs:y2+y3=0
  ·by_cases ht:y3-y2=0
   ·exfalso;have hy3:y3=0:=by
     refine C.cancel h2 ?_;exact zfP
    have Z8:y2=0:=by
     exact zfP
    subst hy3 Z8;have q2:x2*x2= -1:=by
     refine C.cancel hc ?_;clear hQ h0 hp qU As;exact zc5
    have q3:x3*x3= -1:=by
     refine C.cancel hc ?_;clear hP h0 hp qU As;exact zc5
    have q1:y1= -(x2*x3):=by
     refine C.cancel hc ?_;clear hP hQ h0 hp qU;exact zc5
    have q4:(y1-1)*(y1+1)=0:=by
     exact zfP
    rcases C.zero_div q4 with q|q
    ·refine h2 ?_;clear hP hQ h0 hp As q1 q2 q3 q4;exact zc5
    ·refine C.mul_ne hx h2 ?_;clear hP hQ h0 hp As q1 q2 q3 q4;exact zc5
   ·right;exact C.mul_ne hx (C.mul_ne (C.mul_ne h4 ht) (C.mul_ne h4 ht))
  ·exact .inl (C.mul_ne (C.mul_ne h4 hs) (C.mul_ne h4 hs))
 ·
  have hy:1-y1≠0:=by
   intro e;refine h2 ?_;clear hP hQ h0 hp As;exact zc5
  have hp':=C.cancel hc hp;clear hp hP hQ;refine C.cancel (C.mul_ne hy (C.mul_ne Ju hdp)) ?_;have k1:(1-y1)*((k-x2*x3*y2*y3)*(k+x2*x3*y2*y3))*(n*(y2+y3)*(n*(y2+y3))*(1-Y))=n*n*((y2+y3)*(y2+y3)*((k-x2*x3*y2*y3)-k*(y2*y3+x2*x3))*((k+x2*x3*y2*y3)-k*(y2*y3-x2*x3))):=by
   rw[←h0,←As];clear h0 As hp' qU;exact zc5
  have k2:(1-y1)*((k-x2*x3*y2*y3)*(k+x2*x3*y2*y3))*(x*(n*(y3-y2)*(n*(y3-y2)))*(1+Y))=n*n*((y3-y2)*(y3-y2)*((k-x2*x3*y2*y3)+k*(y2*y3+x2*x3))*((k+x2*x3*y2*y3)+k*(y2*y3-x2*x3))):=by
   rw[←h0,←As];have:(1-y1)*((k-x2*x3*y2*y3)*(k+x2*x3*y2*y3))*(x*(n*(y3-y2)*(n*(y3-y2)))*(1+Y))=(x*(1-y1))*((k-x2*x3*y2*y3)*(k+x2*x3*y2*y3))*((n*(y3-y2)*(n*(y3-y2)))*(1+Y)):=by
    clear h0 As hp' qU k1;exact zc5
   rw[this,qU];clear h0 As hp' qU k1 this;exact zc5
  rw[k1,k2,hp']
def U (C:Cv p) (P:Pt p):Fin p:=(1+P.y)*C.iv (1-P.y)
theorem rep_U (C:Cv p) {a b:Fin p} {P:Pt p} (h:Rep a b P.y):a*C.iv b=U C P:=by
 obtain⟨l,hl,rfl,rfl⟩:=h.par C;unfold U
 by_cases h1:1-P.y=0
 ·have e:l*(1-P.y)=0:=(by rw[h1];clear h1;grind -lia-linarith);rw[e,h1,C.iv0];clear h1 e;exact zc5
 ·have q1:=C.iv_mul _ h1;have q2:=C.iv_mul _ (C.mul_ne hl h1);refine C.cancel (C.mul_ne hl h1) ?_;generalize C.iv (l*(1-P.y))=i1 at*;generalize C.iv (1-P.y)=i2 at*;have k1:l*(1-P.y)*(l*(1+P.y)*i1)=l*(1-P.y)*i1*(l*(1+P.y)):=(by clear q1 q2 h;grind -lia-linarith);have k2:l*(1-P.y)*((1+P.y)*i2)=(1-P.y)*i2*(l*(1+P.y)):=(by clear q1 q2 h k1;grind -lia-linarith);rw[k1,k2,q1,q2]
theorem U_flat (C:Cv p) {P:Pt p} (hP:On C P) (h:U C P=0):P.x=0∧P.y*P.y=1:=by
 have hy:P.y*P.y=1:=by
  rcases C.zero_div h with e|e
  ·have:P.y= -1:=(by clear h;grind -lia-linarith);rw[this];clear h e;exact zc5
  ·have e2:1-P.y=0:=by
    refine Classical.byContradiction fun hn=>?_;have:=C.iv_mul _ hn;rw[e]at this;refine C.one ?_;clear h e hn;exact zc5
   clear h e;exact zc5
 refine⟨?_,hy⟩;have hk:=C.ladder;have h1:=C.one;simp only[On]at hP;have h2:P.x*P.x*(121665*(1+C.c))=0:=by
  clear h h1;exact zc5
 have h3:(121665:Fin p)*(1+C.c)= -1:=by
  clear h h1 h2 hP hy;exact zc5
 rw[h3]at h2;refine C.sq_ne ?_;clear h h1 hP hy hk h3;exact zc5
theorem YD (C:Cv p) {P:Pt p} (h:P.y*P.y=1):U C P=0:=by
 unfold U;have h0:(1+P.y)*(1-P.y)=0:=zcg;rcases C.zero_div h0 with e|e
 ·rw[e];clear h h0 e;exact zc5
 ·rw[e,C.iv0];clear h h0 e;exact zc5
theorem Ha (C:Cv p) {P:Pt p} (hP:On C P) (h:P.x=0∧P.y*P.y=1):∀n,(mul C P n).x=0∧(mul C P n).y*(mul C P n).y=1
 |0=>⟨rfl,by show(1:Fin p)*1=1;grind -lia-linarith⟩
 |n+1=>by
  obtain⟨i1,i2⟩:=Ha C hP h n;have hx:=add_x C (on_mul C hP n) hP;have hy:=add_y C (on_mul C hP n) hP;have hc:=C.c_ne;show(add C (mul C P n) P).x=0∧(add C (mul C P n) P).y*(add C (mul C P n) P).y=1
  generalize add C (mul C P n) P=R at*;generalize mul C P n=T at*;obtain⟨h1,h2⟩:=h;rw[i1,h1]at hx hy;refine⟨C.cancel hc ?_,?_⟩
  ·clear hy i2 h2;exact zc5
  ·have:R.y=T.y*P.y:=by
    refine C.cancel hc ?_;clear hx i2 h2;exact zc5
   rw[this];clear hx hy this;exact zc5
theorem U_nil (C:Cv p) {P:Pt p} (hP:On C P) (h:U C P=0) (n:Nat):U C (mul C P n)=0:=YD C (Ha C hP (U_flat C hP h) n).2
end
end Ed
theorem Ov:29203323570479832313932222820853031755424015489030106335172286495629888845891^((pN-1)/2)%pN=pN-1:=Nt.pow_mod_of 256 zDc zDk
instance:NeZero pN:=⟨by decide⟩
def fi (n:Nat):Fin pN:=Fin.ofNat pN n
theorem ix (n:Nat):(fi n).val=n%pN:=rfl
theorem Fs (a b:Nat):fi ((a+b)%pN)=fi a+fi b:=by
 apply Fin.ext;rw[Fin.val_add,ix,ix,ix,Nat.mod_mod,Nat.add_mod]
theorem mV (a b:Nat):fi (a*b%pN)=fi a*fi b:=by
 apply Fin.ext;rw[Fin.val_mul,ix,ix,ix,Nat.mod_mod,Nat.mul_mod]
theorem qH {a b:Nat} (hb:b<pN):fi ((a+pN-b)%pN)=fi a-fi b:=by
 apply Fin.ext;rw[Fin.val_sub,ix,ix,ix,Nat.mod_mod,zA4 hb,Nat.add_mod_mod];congr 1;omega
theorem Jk {a b:Nat} (ha:a<pN) (hb:b<pN) (h:fi a=fi b):a=b:=by
 have:=congrArg Fin.val h;rwa[ix,ix,zA4 ha,zA4 hb]at this
def UB (a:Fin pN):Fin pN:=fi (a.val^(pN-2))
theorem Mb:UB 0=0:=by
 unfold UB;have:((0:Fin pN).val)=0:=rfl;rw[this,Nat.zero_pow zDc];rfl
theorem iv_mul {a:Fin pN} (h:a≠0):a*UB a=1:=by
 have h0:a.val%pN≠0:=by
  rw[zA4 a.isLt];intro e;exact h (Fin.ext e)
 have h1:=sj h0;apply Fin.ext;rw[Fin.val_mul];unfold UB;rw[ix,Nat.mul_mod_mod,←Nat.pow_succ'];have:pN-2+1=pN-1:=zDc;rw[show Nat.succ (pN-2)=pN-1 from this,h1];rfl
def cN:Fin pN:=fi 29203323570479832313932222820853031755424015489030106335172286495629888845891
theorem aca (x:Fin pN):x*x≠cN:=by
 intro h;have hv:=congrArg Fin.val h;rw[Fin.val_mul]at hv;have hc:cN.val=29203323570479832313932222820853031755424015489030106335172286495629888845891:=zDk;rw[hc]at hv;have hx:x.val%pN≠0:=by
  intro e;rw[Nat.mul_mod,e,Nat.mul_zero,Nat.zero_mod]at hv;exact absurd hv zDc
 have h1:=sj hx;have h2:=Ov;rw[←hv,←Nat.pow_mod,←Nat.pow_two,←Nat.pow_mul,show 2*((pN-1)/2)=pN-1 by decide,h1]at h2;exact absurd h2 zDc
def bW:Ed.Cv pN where
 c:=cN
 i:=fi 19681161376707505956807079304988542015446066515923890162744021073123829784752
 h:=fi 28948022309329048855892746252171976963317496166410141009864396001978282409975
 iv:=UB
 iv_mul:=fun _ h=>iv_mul h
 iv0:=Mb
 two:=by decide+kernel
 one:=by decide+kernel
 ii:=by decide+kernel
 nsq:=aca
 ladder:=by decide+kernel
 nz:=by decide+kernel
theorem Iz {x:Nat} {v:St} (hv:v.low) (uB:fi x≠0) {y1:Fin pN} (qU:fi x*(1-y1)=1+y1) {P Q:Ed.Pt pN} (hP:Ed.On bW P) (hQ:Ed.On bW Q) (h1:Ed.Rep (fi v.a) (fi v.b) P.y) (h2:Ed.Rep (fi v.c) (fi v.d) Q.y)
 (Dx:(Ed.add bW P (Ed.neg Q)).y=y1):Ed.Rep (fi (je x v).a) (fi (je x v).b) (Ed.add bW P P).y∧Ed.Rep (fi (je x v).c) (fi (je x v).d) (Ed.add bW P Q).y:=by
 have hm:=fun n:Nat=>zA1 n aX;refine⟨?_,?_⟩
 ·have:=Ed.rep_double bW hP h1;simp only[je,mV,Fs,qH (hm _),qH hv.2.1];exact this
 ·have:=Ed.rep_diff bW hP hQ h1 h2 uB qU Dx;simp only[je,mV,Fs,qH (hm _),qH hv.2.1,qH hv.2.2.2];exact this
theorem vJ {P:Ed.Pt pN} (hP:Ed.On bW P) (k:Nat):Ed.On bW (Ed.mul bW P k):=Ed.on_mul bW hP k
theorem PV {P:Ed.Pt pN} (hP:Ed.On bW P) (k:Nat):(Ed.add bW (Ed.mul bW P (k+1)) (Ed.neg (Ed.mul bW P k))).y=P.y∧(Ed.add bW (Ed.mul bW P k) (Ed.neg (Ed.mul bW P (k+1)))).y=P.y:=by
 have hk:=vJ hP k;have hn:=Ed.on_neg bW hk;refine⟨?_,?_⟩
 ·show(Ed.add bW (Ed.add bW (Ed.mul bW P k) P) (Ed.neg (Ed.mul bW P k))).y=P.y
  rw[Ed.add_comm bW (Ed.mul bW P k) P,Ed.add_assoc bW hP hk hn,Ed.add_neg bW hk,Ed.add_O bW hP]
 ·have hs:=Ed.on_add bW hk hP;have zt:=Ed.on_neg bW hs;have hT:=Ed.on_add bW hk zt;have hO:=Ed.on_O bW;have hPn:=Ed.on_neg bW hP
  
  have e1:Ed.add bW (Ed.add bW (Ed.mul bW P k) (Ed.neg (Ed.add bW (Ed.mul bW P k) P))) (Ed.add bW (Ed.mul bW P k) P)=Ed.mul bW P k:=by
   rw[Ed.add_assoc bW hk zt hs,Ed.add_comm bW (Ed.neg _),Ed.add_neg bW hs,Ed.add_O bW hk]
  show(Ed.add bW (Ed.mul bW P k) (Ed.neg (Ed.add bW (Ed.mul bW P k) P))).y=P.y
  generalize Ed.add bW (Ed.mul bW P k) (Ed.neg (Ed.add bW (Ed.mul bW P k) P))=T at*;have e2:Ed.add bW T P=Ed.O pN:=by
   have e3:Ed.add bW (Ed.neg (Ed.mul bW P k)) (Ed.add bW T (Ed.add bW (Ed.mul bW P k) P))=Ed.add bW (Ed.neg (Ed.mul bW P k)) (Ed.mul bW P k):=congrArg (fun X=>Ed.add bW (Ed.neg (Ed.mul bW P k)) X) e1;rw[Ed.add_comm bW _ (Ed.mul bW P k),Ed.add_neg bW hk,Ed.add_comm bW (Ed.mul bW P k) P,←Ed.add_assoc bW hT hP hk,Ed.add_comm bW _ (Ed.mul bW P k),←Ed.add_assoc bW hn hk (Ed.on_add bW hT hP),Ed.add_comm bW _ (Ed.mul bW P k),Ed.add_neg bW hk,Ed.add_comm bW (Ed.O pN),Ed.add_O bW (Ed.on_add bW hT hP)]at e3;exact e3
  have e4:T=Ed.neg P:=by
   have e3:Ed.add bW (Ed.add bW T P) (Ed.neg P)=Ed.add bW (Ed.O pN) (Ed.neg P):=congrArg (fun X=>Ed.add bW X (Ed.neg P)) e2;rwa[Ed.add_assoc bW hT hP hPn,Ed.add_neg bW hP,Ed.add_O bW hT,Ed.add_comm bW (Ed.O pN),Ed.add_O bW hPn]at e3
  rw[e4];rfl
theorem Me {P:Ed.Pt pN} (hP:Ed.On bW P) {x:Nat} (hx:x<pN) (uB:fi x≠0) (qU:fi x*(1-P.y)=1+P.y) {n:Nat} (hn:n<2^255):∀m,m≤255→
 Ed.Rep (fi (kL x n m).a) (fi (kL x n m).b) (Ed.mul bW P (n/2^(255-m))).y∧Ed.Rep (fi (kL x n m).c) (fi (kL x n m).d) (Ed.mul bW P (n/2^(255-m)+1)).y
 |0,_=>by
  rw[show n/2^(255-0)=0 from zA32 hn];refine⟨⟨.inl ?_,?_⟩,⟨.inr ?_,?_⟩⟩
  ·show fi 1≠0
   decide+kernel
  ·show fi 1*(1-1)=fi 0*(1+1)
   decide+kernel
  ·show fi 1≠0
   decide+kernel
  ·rw[show(0+1)=1 from rfl,Ed.mul_one bW hP];show fi x*(1-P.y)=fi 1*(1+P.y)
   rw[qU];have:fi 1=1:=rfl;rw[this,Fin.one_mul]
 |m+1,hm=>by
  obtain⟨i1,i2⟩:=Me hP hx uB qU hn m zOm;have hl:=FP hx n m;obtain⟨k,hk⟩:=zX (n/2^(255-m));obtain⟨t,ht⟩:=zX (n/2^(254-m)%2);have QL:n/2^(255-(m+1))=2*k+t:=by
   have e:255-m=(254-m)+1:=zOm;rw[show 255-(m+1)=254-m by omega,←hk,←ht,e,zA24,←zA22];omega
  rw[QL];rw[hk]at i1 i2;show Ed.Rep (fi ((je x ((kL x n m).swp (n/2^(254-m)%2))).swp (n/2^(254-m)%2)).a) (fi ((je x ((kL x n m).swp (n/2^(254-m)%2))).swp (n/2^(254-m)%2)).b) _∧Ed.Rep (fi ((je x ((kL x n m).swp (n/2^(254-m)%2))).swp (n/2^(254-m)%2)).c) (fi ((je x ((kL x n m).swp (n/2^(254-m)%2))).swp (n/2^(254-m)%2)).d) _
  rw[ht];have ZZ:t=0∨t=1:=zOm;have ok:=vJ hP k;have ok1:=vJ hP (k+1);rcases ZZ with rfl|rfl
  ·have e0:∀v:St,v.swp 0=v:=fun v=>rfl;rw[e0,e0];obtain⟨r1,r2⟩:=Iz hl uB qU ok ok1 i1 i2 (PV hP k).2;rw[←Ed.mul_add bW hP]at r1 r2;rw[show 2*k+0=k+k by omega,show k+k+1=k+(k+1) by omega];exact⟨r1,r2⟩
  ·have e1:∀v:St,v.swp 1=⟨v.c,v.d,v.a,v.b⟩:=fun v=>rfl;rw[e1 (kL x n m),e1];obtain⟨r1,r2⟩:=Iz (v:=⟨(kL x n m).c,(kL x n m).d,(kL x n m).a,(kL x n m).b⟩) ⟨hl.2.2.1,hl.2.2.2,hl.1,hl.2.1⟩ uB qU ok1 ok i2 i1 (PV hP k).1;rw[←Ed.mul_add bW hP]at r1 r2;rw[show 2*k+1=k+1+k by omega,show k+1+k+1=k+1+(k+1) by omega];exact⟨r2,r1⟩
theorem M6 (k:Nat):dD k<2^255:=by
 exact zeQ
theorem Je (k:Nat):dD k/2^254%2=1:=by
 exact zeQ
theorem OW {q:Nat}:(q+pN-q)%pN=0:=by rw[Nat.add_sub_cancel_left,Nat.mod_self]
theorem L9 (x:Nat) {v:St} (hb:v.b=0):(je x v).b=0:=by
 simp only[je];rw[hb];have e:(v.a+pN-0)%pN=(v.a+0)%pN:=(by rw[Nat.sub_zero,Nat.add_mod_right];rfl);rw[e,OW,Nat.zero_mul,Nat.zero_mod]
theorem Sc (v:St):(je 0 v).d=0:=by simp only[je];rw[Nat.zero_mul,Nat.zero_mod]
theorem aen:(je 0 ⟨0,1,1,0⟩).b=0:=by decide+kernel
theorem sw0 (v:St):v.swp 0=v:=rfl
theorem sw1 (v:St):v.swp 1=⟨v.c,v.d,v.a,v.b⟩:=rfl
theorem Vt (n:Nat):kL 0 n 1=(je 0 (St.swp (n/2^254%2) ⟨1,0,0,1⟩)).swp (n/2^254%2):=rfl
theorem Ry (x n m:Nat):kL x n (m+1)=(je x ((kL x n m).swp (n/2^(254-m)%2))).swp (n/2^(254-m)%2):=rfl
theorem Mo {n:Nat} (h:n/2^254%2=1):∀m,(kL 0 n (m+1)).b=0∧(kL 0 n (m+1)).d=0
 |0=>by
  rw[Vt,h,sw1,sw1];exact⟨Sc ⟨0,1,1,0⟩,aen⟩
 |m+1=>by
  obtain⟨h1,h2⟩:=Mo h m;rw[Ry];have ZZ:n/2^(254-(m+1))%2=0∨n/2^(254-(m+1))%2=1:=zOm;rcases ZZ with e|e
  ·rw[e,sw0,sw0];exact⟨L9 0 h1,Sc _⟩
  ·rw[e,sw1 (kL 0 n (m+1)),sw1];exact⟨Sc _,L9 0 (v:=⟨(kL 0 n (m+1)).c,(kL 0 n (m+1)).d,(kL 0 n (m+1)).a,(kL 0 n (m+1)).b⟩) h2⟩
theorem VD {k u:Nat} (hu:u%2^255%pN=0):bD k u=0:=by
 refine RF ?_;rw[hu];exact(Mo (Je k) 254).1
theorem Yq {P:Ed.Pt pN} (hP:Ed.On bW P) (h:Ed.U bW P=0) (n:Nat):Ed.U bW (Ed.mul bW P n)=0:=
 Ed.U_nil bW hP h n
theorem RE {P:Ed.Pt pN} (hP:Ed.On bW P) (k:Nat) {u:Nat} (hu:u<pN) (h:fi u=Ed.U bW P):fi (bD k u)=Ed.U bW (Ed.mul bW P (dD k)):=by
 have hu2:u%2^255%pN=u:=by
  have:pN<2^255:=zDc;have e:u%2^255=u:=zA4 (zA25 hu this);rw[e,zA4 hu]
 by_cases h0:u=0
 ·subst h0;rw[VD hu2,Yq hP (by rw[←h];rfl)];rfl
 ·have uB:fi u≠0:=fun e=>h0 (Jk hu aX (by rw[e];rfl));have hy:1-P.y≠0:=by
   intro e;refine uB ?_;rw[h,Ed.U,e];show _*UB 0=0
   rw[Mb,Fin.mul_zero]
  have qU:fi u*(1-P.y)=1+P.y:=by
   have:=bW.iv_mul _ hy;rw[h,Ed.U,Fin.mul_assoc,Fin.mul_comm (bW.iv _),this,Fin.mul_one]
  have hr:=(Me hP hu uB qU (M6 k) 255 (zA0 _)).1;rw[show dD k/2^(255-255)=dD k from Nat.div_one _]at hr;rw[←Ed.rep_U bW hr,bD,hu2,mV];congr 1;show fi (_%pN)=UB _
  exact zfH
def gN:Ed.Pt pN:=⟨fi 42783823269122696939284341094755422415180979639778424813682678720006717057747,fi 46316835694926478169428394003475163141307993866256225615783033603165251855960⟩
theorem Hd:Ed.On bW gN:=by
 show _=_
 decide+kernel
theorem g_U:fi 9=Ed.U bW gN:=by
 have h:(1:Fin pN)-gN.y≠0:=zDk;have h1:fi 9*(1-gN.y)=1+gN.y:=zDk;have h2:=bW.iv_mul _ h;rw[Ed.U,←h1,Fin.mul_assoc,h2,Fin.mul_one]
theorem Cj (k u:Nat):bD k u<pN:=zA1 _ aX
theorem RG (a:Nat):fi (bD a 9)=Ed.U bW (Ed.mul bW gN (dD a)):=RE Hd a zDc g_U
theorem Ck (a b:Nat):fi (bD a (bD b 9))=Ed.U bW (Ed.mul bW gN (dD b*dD a)):=by
 rw[RE (vJ Hd (dD b)) a (Cj _ _) (RG b),Ed.mul_mul bW Hd]
theorem NT (a b:Nat):bD a (bD b 9)=bD b (bD a 9):=
 Jk (Cj _ _) (Cj _ _) (by rw[Ck,Ck,Nat.mul_comm])
namespace Nt
theorem FY:Prime 531581:=iX 730 zDc zDc zDk
theorem DO:Prime 1224481:=iX 1107 zDc zDc zDk
theorem Sp:Prime 1257559732178653:=Ex (q:=531581) (R:=2365697292) (q':=1224481) (R':=1027014492) FY DO zDk zDk zDk zDk zDk zDk zDk zDk zDk zDk zDk
theorem Sq:Prime 4434155615661930479:=Ai (q:=1257559732178653) (R:=3526) Sp zDk zDk zDk zDk zDk zDk zDk
theorem Sr:Prime 172054593956031949258510691:=Ai (q:=4434155615661930479) (R:=38802110) Sq zDk zDk zDk zDk zDk zDk zDk
theorem Ss:Prime 19757330305831588566944191468367130476339:=Ai (q:=172054593956031949258510691) (R:=114831751082918) Sr zDk zDk zDk zDk zDk zDk zDk
theorem Su:Prime 276602624281642239937218680557139826668747:=Ai (q:=19757330305831588566944191468367130476339) (R:=14) Ss zDk zDk zDk zDk zDk zDk zDk
theorem prime_q:Prime 7237005577332262213973186563042994240857116359379907606001950938285454250989:=Ai (q:=276602624281642239937218680557139826668747) (R:=26163907866482859529727157400808004) Su zDk zDk zDk zDk zDk zDk zDk
end Nt
end Go.Proofs.YtgfkgolafkdjfaaGreatDoor
