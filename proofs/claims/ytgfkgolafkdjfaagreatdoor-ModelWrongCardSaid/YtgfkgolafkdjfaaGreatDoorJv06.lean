/- ModelWrong: part 6 of its proof: lemmas and contracts, each with its conditions in its own statement; the last part holds the law itself. -/
import Derived.Lib.Hide
import Derived.Test.YtgfkgolafkdjfaaGreatDoorJv05
import Derived.ProofKit
import Derived.OpenShut
import Derived.Deep.Matrix

set_option maxHeartbeats 4000000
set_option maxRecDepth 100000

namespace Go.Proofs.YtgfkgolafkdjfaaGreatDoor
open Go.RowKit
namespace Nt
def Prime (p:Nat):Prop:=2≤p∧∀d,d∣p→d=1∨d=p
theorem Prime.coprime {p a:Nat} (hp:Prime p) (h:¬p∣a):Nat.Coprime p a:=by
 rcases hp.2 (Nat.gcd p a) (Nat.gcd_dvd_left p a)with h1|h1
 ·exact h1
 ·exact absurd (h1▸Nat.gcd_dvd_right p a) h
theorem Prime.dvd_mul {p a b:Nat} (hp:Prime p) (h:p∣a*b):p∣a∨p∣b:=by
 by_cases ha:p∣a
 ·exact .inl ha
 ·exact .inr ((hp.coprime ha).dvd_of_dvd_mul_left h)
theorem pQ:∀n:Nat,2≤n→∃r,Prime r∧r∣n:=by
 intro n
 induction n using Nat.strongRecOn with
 |_ n ih=>
  intro hn
  by_cases hp:Prime n
  ·exact⟨n,hp,Nat.dvd_refl n⟩
  ·have:∃d,d∣n∧d≠1∧d≠n:=by
    apply Classical.byContradiction;intro hc;apply hp;refine⟨hn,fun d hd=>?_⟩;apply Classical.byContradiction;intro h2;exact hc ⟨d,hd,fun h=>h2 (.inl h),fun h=>h2 (.inr h)⟩
   obtain⟨d,hd,h1,h2⟩:=this;have DL:=Nat.le_of_dvd zOm hd;have h0:d≠0:=by
    rintro rfl;have:=Nat.eq_zero_of_zero_dvd hd;omega
   obtain⟨r,hr,hrd⟩:=ih d zOm zOm;exact⟨r,hr,Nat.dvd_trans hrd hd⟩
def ch:Nat→Nat→Nat
 |_,0=>1
 |0,_+1=>0
 |n+1,k+1=>ch n k+ch n (k+1)
theorem wi (n:Nat):ch n 0=1:=by cases n<;>rfl
theorem tC (n k:Nat):ch (n+1) (k+1)=ch n k+ch n (k+1):=rfl
theorem Bo:∀(n k:Nat),n<k→ch n k=0
 |0,0,h=>absurd h zOm
 |0,k+1,_=>rfl
 |n+1,0,h=>absurd h zOm
 |n+1,k+1,h=>by rw[tC,Bo n k zOm,Bo n (k+1) zOm]
theorem Fg:∀(n k:Nat),(k+1)*ch (n+1) (k+1)=(n+1)*ch n k
 |0,0=>rfl
 |0,k+1=>by
  have:ch (0+1) (k+1+1)=0:=Bo 1 (k+2) zOm;have h2:ch 0 (k+1)=0:=rfl;rw[this,h2];simp
 |n+1,0=>by
  have h:=Fg n 0;rw[tC (n+1) 0,wi];rw[wi]at h;omega
 |n+1,k+1=>by
  have h1:=Fg n k;have h2:=Fg n (k+1);rw[tC (n+1) (k+1),Nat.mul_add];have e1:(k+1+1)*ch (n+1) (k+1)=(k+1)*ch (n+1) (k+1)+ch (n+1) (k+1):=by
   rw[Nat.add_mul (k+1) 1,Nat.one_mul]
  rw[e1,h1,h2];have e2:(n+1+1)*ch (n+1) (k+1)=(n+1)*ch (n+1) (k+1)+ch (n+1) (k+1):=by
   rw[Nat.add_mul (n+1) 1,Nat.one_mul]
  rw[e2,tC n k,Nat.mul_add];omega
def r9 (n a:Nat):Nat→Nat
 |0=>0
 |m+1=>r9 n a m+ch n m*a^m
theorem D2 (n a:Nat):∀m,r9 (n+1) a (m+1)=r9 n a (m+1)+a*r9 n a m
 |0=>by simp[r9,wi]
 |m+1=>by
  show r9 (n+1) a (m+1)+ch (n+1) (m+1)*a^(m+1)=(r9 n a (m+1)+ch n (m+1)*a^(m+1))+a*(r9 n a m+ch n m*a^m)
  rw[D2 n a m,tC,Nat.add_mul,Nat.mul_add];have:a*(ch n m*a^m)=ch n m*a^(m+1):=by
   rw[zA24];ac_rfl
  rw[this];omega
theorem H9 (a:Nat):∀n,(a+1)^n=r9 n a (n+1)
 |0=>by simp[r9,wi]
 |n+1=>by
  rw[zA24,H9 a n,D2];have:r9 n a (n+1+1)=r9 n a (n+1):=by
   show r9 n a (n+1)+ch n (n+1)*a^(n+1)=_
   rw[Bo n (n+1) zOm];simp
  rw[this,Nat.mul_add,Nat.mul_comm,Nat.mul_one];rw[Nat.add_comm]
theorem Prime.ch_dvd {p k:Nat} (hp:Prime p) (h0:0<k) (hk:k<p):p∣ch p k:=by
 obtain⟨p',rfl⟩:∃p',p=p'+1:=⟨p-1,by omega⟩;obtain⟨k',rfl⟩:∃k',k=k'+1:=⟨k-1,by omega⟩;have h:=Fg p' k';have hd:p'+1∣(k'+1)*ch (p'+1) (k'+1):=(by rw[h];exact Nat.dvd_mul_right _ _);have hn:¬p'+1∣k'+1:=fun hd=>by have:=Nat.le_of_dvd zOm hd;omega
 exact(hp.coprime hn).dvd_of_dvd_mul_left hd
theorem GQ {p:Nat} (hp:Prime p) (a:Nat):∀m,m<p→r9 p a (m+1)%p=1%p
 |0,_=>by simp[r9,wi]
 |m+1,h=>by
  show(r9 p a (m+1)+ch p (m+1)*a^(m+1))%p=_
  obtain⟨c,hc⟩:=hp.ch_dvd (by omega:0<m+1) h;rw[hc,zA26,zA27];exact GQ hp a m zOm
theorem G9 {p:Nat} (hp:Prime p) (a:Nat):(a+1)^p%p=(a^p+1)%p:=by
 rw[H9];show(r9 p a p+ch p p*a^p)%p=_
 have h1:ch p p=1:=by
  clear hp a
  induction p with
  |zero=>rfl
  |succ p ih=>rw[tC,ih,Bo p (p+1) zOm]
 have h2:=GQ hp a (p-1) (by have:=hp.1;omega);rw[show p-1+1=p from by have:=hp.1;omega]at h2;rw[h1,Nat.one_mul,Nat.add_mod,h2,←Nat.add_mod,Nat.add_comm]
theorem sj {p:Nat} (hp:Prime p):∀a:Nat,a^p%p=a%p
 |0=>by rw[Nat.zero_pow (by have:=hp.1;omega)]
 |a+1=>by rw[G9 hp,Nat.add_mod,sj hp a,←Nat.add_mod]
theorem fermat {p:Nat} (hp:Prime p) {a:Nat} (h:¬p∣a):a^(p-1)%p=1:=by
 have h2:=hp.1;have Hv:0<a:=Nat.pos_of_ne_zero (fun h0=>h (h0▸Nat.dvd_zero p));have h1:1≤a^(p-1):=Nat.pow_pos Hv;have hd:p∣a*(a^(p-1)-1):=by
  have e:a*(a^(p-1)-1)=a^p-a:=by
   rw[Nat.mul_sub,Nat.mul_one];congr 1;rw[Nat.mul_comm,←zA24];congr 1;omega
  rw[e];have DL:a≤a^p:=by
   have:=Nat.pow_le_pow_right Hv (show 1≤p by omega);exact zfv
  exact Nat.dvd_of_mod_eq_zero (Nat.sub_mod_eq_zero_of_mod_eq (sj hp a))
 have xM:p∣a^(p-1)-1:=(hp.coprime h).dvd_of_dvd_mul_left hd;obtain⟨c,hc⟩:=xM;rw[show a^(p-1)=1+p*c from by omega,zA27,zA4 zOm]
theorem Ia {r a m k:Nat} (hr:2≤r) (h:a^m%r=1):a^(m*k)%r=1:=by
 rw[Nat.pow_mul,Nat.pow_mod,h,Nat.one_pow,zA4 zOm]
theorem VW {r a:Nat} (hr:2≤r):∀m n:Nat,a^m%r=1→a^n%r=1→a^Nat.gcd m n%r=1:=by
 intro m n
 induction m,n using Nat.gcd.induction with
 |H0 n=>intro _ h;rwa[Nat.gcd_zero_left]
 |H1 m n hm ih=>
  intro h1 h2;rw[Nat.gcd_rec];refine ih ?_ h1;have e:a^n=a^(m*(n/m))*a^(n%m):=(by rw[←Nat.pow_add,Nat.div_add_mod]);rw[e,Nat.mul_mod,Ia hr h1,Nat.one_mul,Nat.mod_mod]at h2;exact h2
theorem aaD {n q R a r:Nat} (hF:n-1=q*R) (hq:Prime q) (h1:a^(n-1)%n=1)
 (hg:Nat.gcd (a^R%n+(n-1)) n=1) (hn:2≤n) (hr:Prime r) (hd:r∣n):q∣r-1:=by
 apply Classical.byContradiction;intro hc;have r2:=hr.1;have hco:=hq.coprime hc;obtain⟨s,rfl⟩:=hd;have QV:∀x,x%(r*s)=1→x%r=1:=by
  intro x hx;have:=Nat.mod_mul_right_mod x r s;rw[hx]at this;rw[←this,zA4 zOm]
 have hbq:(a^R)^q%r=1:=by
  rw[←Nat.pow_mul,Nat.mul_comm R q,←hF];exact QV _ h1
 have IU:¬r∣a^R:=by
  intro h;have hz:(a^R)^q%r=0:=Nat.mod_eq_zero_of_dvd (Nat.dvd_trans h (by
   have:=hq.1;obtain⟨q',rfl⟩:∃q',q=q'+1:=⟨q-1,by omega⟩;rw[zA24];exact Nat.dvd_mul_left _ _))
  omega
 have Nl:(a^R)^(r-1)%r=1:=fermat hr IU;have hb:=VW r2 q (r-1) hbq Nl;rw[hco,Nat.pow_one]at hb;have hmm:a^R%(r*s)%r=1:=(by rw[Nat.mod_mul_right_mod];exact hb);have hdv:r∣a^R%(r*s)+(r*s-1):=by
  have DL:1≤a^R%(r*s):=by
   rcases Nat.eq_zero_or_pos (a^R%(r*s))with h|h
   ·rw[h]at hmm;simp at hmm
   ·exact h
  have e:a^R%(r*s)+(r*s-1)=(a^R%(r*s)-1)+r*s:=zOm;rw[e];refine(Nat.dvd_add_iff_left (Nat.dvd_mul_right r s)).1 ?_;exact Nat.dvd_of_mod_eq_zero (Nat.sub_mod_eq_zero_of_mod_eq (by rw[hmm];exact(zA4 zOm).symm))
 have:r∣1:=by
  rw[←hg];exact Nat.dvd_gcd hdv (Nat.dvd_mul_right r s)
 have:=Nat.le_of_dvd zOm this;omega
theorem ow {n F:Nat} (hn:2≤n) (hF:n<(F+1)*(F+1)) (h:∀r,Prime r→r∣n→F<r):Prime n:=by
 refine⟨hn,fun d hd=>?_⟩;apply Classical.byContradiction;intro hc;obtain⟨s,rfl⟩:=hd;have d0:d≠0:=(by rintro rfl;simp at hn);have s0:s≠0:=(by rintro rfl;simp at hn);have tH:d≠1:=fun h=>hc (.inl h);have kQ:s≠1:=fun h=>hc (.inr (by rw[h,Nat.mul_one]));obtain⟨r,hr,hrd⟩:=pQ d zOm;obtain⟨t,ht,Re⟩:=pQ s zOm;have a1:=h r hr (Nat.dvd_trans hrd (Nat.dvd_mul_right d s));have a2:=h t ht (Nat.dvd_trans Re (Nat.dvd_mul_left s d));have b1:=Nat.le_of_dvd zOm hrd;have b2:=Nat.le_of_dvd zOm Re;have:(F+1)*(F+1)≤d*s:=Nat.mul_le_mul zOm zOm;omega
def pm (n:Nat):Nat→Nat→Nat→Nat→Nat
 |0,_,_,acc=>acc
 |fuel+1,b,e,acc=>pm n fuel (b*b%n) (e/2) (if e%2=1 then acc*b%n else acc)
theorem Yh (n:Nat):∀fuel b e acc,e<2^fuel→pm n fuel b e acc%n=acc*b^e%n
 |0,b,e,acc,h=>by
  have:e=0:=zar;subst this;simp[pm]
 |fuel+1,b,e,acc,h=>by
  rw[pm,Yh n fuel _ _ _ (by rw[zA24]at h;omega)];have hb:(b*b%n)^(e/2)%n=b^(2*(e/2))%n:=by
   rw[←Nat.pow_mod,Nat.pow_mul,Nat.pow_two]
  rw[Nat.mul_mod,hb,←Nat.mul_mod];split
  ·rename_i h1;have e1:e=2*(e/2)+1:=zOm;rw[Nat.mul_mod,Nat.mod_mod,←Nat.mul_mod]
   conv=>rhs;rw[e1,zA24]
   congr 1;ac_rfl
  ·rename_i h1;have e1:e=2*(e/2):=zOm
   conv=>rhs;rw[e1]
theorem pow_mod_of {n b e x:Nat} (fuel:Nat) (hf:e<2^fuel) (h:pm n fuel b e 1%n=x):b^e%n=x:=by
 rw[←h,Yh n fuel b e 1 hf,Nat.one_mul]
theorem Ai {n q R:Nat} (hq:Prime q) (hF:n-1=q*R) (hn:2≤n) (hb:n<2^256) (YJ:pm n 256 2 (n-1) 1%n=1)
 (hb2:R<2^256) (XP:Nat.gcd (pm n 256 2 R 1%n+(n-1)) n=1) (hs:n<(q+1)*(q+1)):Prime n:=by
 have h1:2^(n-1)%n=1:=pow_mod_of 256 zOm YJ;have hg:Nat.gcd (2^R%n+(n-1)) n=1:=(by rw[pow_mod_of 256 hb2 rfl];exact XP);refine ow hn hs fun r hr hd=>?_;have h:=aaD hF hq h1 hg hn hr hd;have:=hr.1;have:=Nat.le_of_dvd zOm h;omega
theorem Ex {n q R q' R':Nat} (hq:Prime q) (hq':Prime q') (rW:q≠q') (hF:n-1=q*R) (hF':n-1=q'*R') (hn:2≤n) (hb:n<2^256) (YJ:pm n 256 2 (n-1) 1%n=1)
 (hb2:R<2^256) (XP:Nat.gcd (pm n 256 2 R 1%n+(n-1)) n=1) (nj:R'<2^256) (afQ:Nat.gcd (pm n 256 2 R' 1%n+(n-1)) n=1) (hs:n<(q*q'+1)*(q*q'+1)):Prime n:=by
 have h1:2^(n-1)%n=1:=pow_mod_of 256 zOm YJ;have hg:Nat.gcd (2^R%n+(n-1)) n=1:=(by rw[pow_mod_of 256 hb2 rfl];exact XP);have j9:Nat.gcd (2^R'%n+(n-1)) n=1:=(by rw[pow_mod_of 256 nj rfl];exact afQ);refine ow hn hs fun r hr hd=>?_;have h:=aaD hF hq h1 hg hn hr hd;have h':=aaD hF' hq' h1 j9 hn hr hd;have og:=hr.1;have hco:Nat.Coprime q q':=hq.coprime fun hd=>by
  rcases hq'.2 q hd with h|h
  ·have:=hq.1;omega
  ·exact rW h
 have:=Nat.le_of_dvd zOm (hco.mul_dvd_of_dvd_of_dvd h h');omega
def Mp (n:Nat):Nat→Nat→Bool
 |0,_=>true
 |fuel+1,d=>n%d != 0&&Mp n fuel (d+1)
theorem Cx {n:Nat}:∀fuel d,Mp n fuel d=true→∀k,d≤k→k<d+fuel→n%k≠0
 |0,d,_,k,h1,h2=>by omega
 |fuel+1,d,h,k,h1,h2=>by
  simp only[Mp,Bool.and_eq_true,bne_iff_ne]at h
  by_cases hk:k=d
  ·rw[hk];exact h.1
  ·exact Cx fuel (d+1) h.2 k zOm zOm
theorem iX {n:Nat} (F:Nat) (hn:2≤n) (hF:n<(F+1)*(F+1)) (h:Mp n (F-1) 2=true):Prime n:=by
 refine ow hn hF fun r hr hd=>?_;apply Classical.byContradiction;intro hc;have:=hr.1;exact Cx _ _ h r zOm zOm (Nat.mod_eq_zero_of_dvd hd)
theorem Oz:Prime 991:=iX 31 zDc zDc zDk
theorem Ox:Prime 103:=iX 10 zDc zDc zDk
theorem Oy:Prime 127:=iX 11 zDc zDc zDk
theorem Ki:Prime 4153:=iX 64 zDc zDc zDk
theorem FX:Prime 430751:=iX 656 zDc zDc zDk
theorem FZ:Prime 569003:=iX 754 zDc zDc zDk
theorem DP:Prime 8574133:=Ex (q:=991) (R:=8652) (q':=103) (R':=83244) Oz Ox zDk zDk zDk zDk zDk zDk zDk zDk zDk zDk zDk
theorem rg:Prime 1919519569386763:=Ex (q:=8574133) (R:=223873314) (q':=127) (R':=15114327318006) DP Oy zDk zDk zDk zDk zDk zDk zDk zDk zDk zDk zDk
theorem zD:Prime 2773320623:=Ai (q:=569003) (R:=4874) FZ zDk zDk zDk zDk zDk zDk zDk
theorem xf:Prime 72106336199:=Ai (q:=2773320623) (R:=26) zD zDk zDk zDk zDk zDk zDk zDk
theorem VX:Prime 75445702479781427272750846543864801:=Ex (q:=1919519569386763) (R:=39304471641247389600) (q':=72106336199) (R':=1046311689884858398375200) rg xf zDk zDk zDk zDk zDk zDk zDk zDk zDk zDk zDk
theorem VY:Prime 31757755568855353:=Ex (q:=430751) (R:=73726481352) (q':=4153) (R':=7646943310584) FX Ki zDk zDk zDk zDk zDk zDk zDk zDk zDk zDk zDk
theorem VZ:Prime 74058212732561358302231226437062788676166966415465897661863160754340907:=Ex (q:=75445702479781427272750846543864801) (R:=981609426360740691344999861639072106) (q':=31757755568855353) (R':=2331972502653487852620185443007392165117953542933313402) VX VY zDk zDk zDk zDk zDk zDk zDk zDk zDk zDk zDk
theorem prime_p:Prime 57896044618658097711785492504343953926634992332820282019728792003956564819949:=Ai (q:=74058212732561358302231226437062788676166966415465897661863160754340907) (R:=781764) VZ zDk zDk zDk zDk zDk zDk zDk
end Nt
namespace Nt
theorem sq_cases {p:Nat} (hp:Prime p) {x y:Nat} (hx:x<p) (hy:y<p) (h:x*x%p=y*y%p):x=y∨x+y=p:=by
 have key:∀ {x y:Nat},x<p→y<p→y≤x→x*x%p=y*y%p→x=y∨x+y=p:=by
  intro x y hx hy DL h;have h1:p∣(x-y)*(x+y):=by
   have e:(x-y)*(x+y)=x*x-y*y:=by
    obtain⟨d,rfl⟩:∃d,x=y+d:=⟨x-y,by omega⟩;have:(y+d)*(y+d)=y*y+d*(y+d+y):=(by simp only[Nat.add_mul,Nat.mul_add,Nat.mul_comm d y];omega);rw[this,Nat.add_sub_cancel_left,Nat.add_sub_cancel_left]
   rw[e];exact Nat.dvd_of_mod_eq_zero (Nat.sub_mod_eq_zero_of_mod_eq h)
  rcases hp.dvd_mul h1 with h2|h2
  ·left;have:=Nat.eq_zero_of_dvd_of_lt h2 zOm;omega
  ·obtain⟨c,hc⟩:=h2;rcases c with _|_|c
   ·left;omega
   ·right;omega
   ·exfalso;exact zfB
 rcases Nat.le_total y x with DL|DL
 ·exact key hx hy DL h
 ·rcases key hy hx DL h.symm with h1|h1
  ·exact .inl h1.symm
  ·exact .inr zOm
section
variable {p e h i:Nat}
def rtx (p e i a:Nat):Nat:=let x:=a^e%p;if x*x%p=a then x else x*i%p
def rtok (p e i a:Nat):Bool:=rtx p e i a*rtx p e i a%p==a
def rtv (p e i a:Nat):Nat:=if rtok p e i a then(if rtx p e i a%2=1 then p-rtx p e i a else rtx p e i a)else 0
theorem rtx_lt (hp:0<p) (a:Nat):rtx p e i a<p:=by
 unfold rtx;dsimp only;split<;>exact zA1 _ hp
theorem BH (hp:Prime p) (hh:2*h=p-1) {a:Nat} (ha:a%p≠0):a^h%p=1∨a^h%p=p-1:=by
 have h2:2≤p:=hp.1;have hf:a^(p-1)%p=1:=fermat hp (fun hd=>ha (Nat.mod_eq_zero_of_dvd hd));have:=sq_cases hp (x:=a^h%p) (y:=1) (zA1 _ zOm) zOm (by
  rw[←Nat.mul_mod,←Nat.pow_add,←Nat.two_mul,hh,hf,zA4 zOm])
 rcases this with h1|h1
 ·exact .inl h1
 ·exact .inr zOm
theorem tJ {p s a:Nat} (hs:s+a=p):(s*(p-1))%p=a%p:=by
 have e:s*(p-1)+p=a+p*s:=by
  rcases p with _|p
  ·have:s=0:=zOm;subst this;omega
  ·have e1:s*(p+1-1)=p*s:=(by rw[Nat.add_sub_cancel,Nat.mul_comm]);have e2:(p+1)*s=p*s+s:=(by rw[Nat.add_mul,Nat.one_mul]);omega
 have:=congrArg (· %p) e;exact zfv
theorem Ws (he:4*e=h+2) (a:Nat):(a^e%p)*(a^e%p)%p*((a^e%p)*(a^e%p)%p)%p=(a^h%p)*(a*a)%p:=by
 have e1:a^e%p*(a^e%p)%p=a^(e+e)%p:=(by rw[←Nat.mul_mod,←Nat.pow_add]);have e2:a^(e+e)%p*(a^(e+e)%p)%p=a^(e+e+(e+e))%p:=(by rw[←Nat.mul_mod,←Nat.pow_add]);rw[e1,e2,show e+e+(e+e)=h+2 by omega,Nat.mod_mul_mod,Nat.pow_add,show a^2=a*a from Nat.pow_two a]
theorem Th (hp:Prime p) (Ej:p%2=1) (hh:2*h=p-1) (he:4*e=h+2) (hi:i*i%p=p-1) {a:Nat} (ha:a<p) (h0:a≠0):rtok p e i a=true↔a^h%p=1:=by
 have h2:2≤p:=hp.1;have Hv:0<p:=zOm;have h4:=Ws (p:=p) he a;have xP:rtok p e i a=true↔rtx p e i a*rtx p e i a%p=a:=(by unfold rtok;exact beq_iff_eq);obtain⟨s,hs⟩:=zX ((a^e%p)*(a^e%p)%p);have dI:s<p:=(by rw[←hs];exact zA1 _ Hv);have hxx:s≠a→rtx p e i a*rtx p e i a%p=s*(p-1)%p:=by
  intro rW;unfold rtx
  dsimp only
  rw[hs,if_neg rW,←Nat.mul_mod,show a^e%p*i*(a^e%p*i)=(a^e%p*(a^e%p))*(i*i)from Nat.mul_mul_mul_comm _ _ _ _,Nat.mul_mod,hs,hi]
 have ad3:s=a→rtx p e i a*rtx p e i a%p=a:=by
  intro Jv;unfold rtx
  dsimp only
  rw[hs,if_pos Jv,hs,Jv]
 rw[hs]at h4;rw[xP];constructor
 ·intro ee;rcases BH hp hh (a:=a) (by rw[zA4 ha];exact h0)with h1|h1
  ·exact h1
  exfalso
  
  have h5:s*s%p=a*a%p:=by
   by_cases L8:s=a
   ·rw[L8]
   ·rw[hxx L8]at ee;have h6:s+a=p:=by
     have h7:(s*(p-1)+s)%p=0:=by
      rw[show s*(p-1)+s=p*s by rw[←Nat.mul_succ,show(p-1).succ=p by omega,Nat.mul_comm]];exact Nat.mul_mod_right _ _
     rw[Nat.add_mod,ee,zA4 dI]at h7;have h8:p∣a+s:=Nat.dvd_of_mod_eq_zero h7;obtain⟨c,hc⟩:=h8;rcases c with _|_|c
     ·omega
     ·omega
     ·exact zfB
    have h7:s=p-a:=zOm;have e1:s*s%p=(s*(p-1))*(s*(p-1))%p:=by
     rw[show s*(p-1)*(s*(p-1))=(s*s)*((p-1)*(p-1))from Nat.mul_mul_mul_comm _ _ _ _];have e2:(p-1)*(p-1)%p=1:=by
      have:=tJ (p:=p) (s:=p-1) (a:=1) zOm;rw[this];exact zA4 zOm
     rw[Nat.mul_mod (s*s),e2,Nat.mul_one,Nat.mod_mod]
    rw[e1,Nat.mul_mod,tJ h6,←Nat.mul_mod]
  rw[h1,h5]at h4
  
  have h6:(a*a+(p-1)*(a*a))%p=0:=by
   rw[show a*a+(p-1)*(a*a)=p*(a*a) by rw[show a*a+(p-1)*(a*a)=(1+(p-1))*(a*a) by rw[Nat.add_mul,Nat.one_mul],show 1+(p-1)=p by omega]];exact Nat.mul_mod_right _ _
  rw[Nat.add_mod,←h4,←Nat.add_mod]at h6;have h7:p∣2*(a*a):=(by rw[Nat.two_mul];exact Nat.dvd_of_mod_eq_zero h6);rcases hp.dvd_mul h7 with h8|h8
  ·have:=Nat.le_of_dvd zOm h8;omega
  ·rcases hp.dvd_mul h8 with h9|h9<;>exact h0 (Nat.eq_zero_of_dvd_of_lt h9 ha)
 ·intro fQ;rw[fQ,Nat.one_mul]at h4;rcases sq_cases hp dI ha h4 with h5|h5
  ·exact ad3 h5
  ·by_cases L8:s=a
   ·exact ad3 L8
   ·rw[hxx L8,tJ h5,zA4 ha]
theorem OS (he:0<e):rtok p e i 0=true:=by
 simp[rtok,rtx,Nat.zero_pow he]
theorem rtv_sq {a:Nat} (ee:rtok p e i a=true) (hp:0<p):rtv p e i a*rtv p e i a%p=a:=by
 have h1:rtx p e i a*rtx p e i a%p=a:=(by unfold rtok at ee;exact beq_iff_eq.1 ee);unfold rtv;rw[if_pos ee];split
 ·have hx:=rtx_lt (e:=e) (i:=i) hp a;obtain⟨x,hxe⟩:=zX (rtx p e i a);rw[hxe]at h1 hx⊢;rw[←h1];have h5:(p-x)*(p-x)%p=x*(p-1)*(x*(p-1))%p:=by
   rw[Nat.mul_mod (x*(p-1)),tJ (a:=p-x) zOm,←Nat.mul_mod]
  rw[h5,show x*(p-1)*(x*(p-1))=(x*x)*((p-1)*(p-1))from Nat.mul_mul_mul_comm _ _ _ _];have e2:(p-1)*(p-1)%p=1%p:=tJ zOm;rw[Nat.mul_mod (x*x),e2,←Nat.mul_mod,Nat.mul_one]
 ·exact h1
theorem rtv_even (Ej:p%2=1) (a:Nat):rtv p e i a%2=0:=by
 have hx:=rtx_lt (e:=e) (i:=i) (p:=p) zOm a;unfold rtv;split
 ·split<;>omega
 ·rfl
theorem rtv_lt (hp:0<p) (a:Nat):rtv p e i a<p:=by
 have hx:=rtx_lt (e:=e) (i:=i) (p:=p) hp a;unfold rtv;split
 ·split<;>omega
 ·exact hp
theorem Qf (a b:Nat):(a*b%p)^h%p=(a^h%p)*(b^h%p)%p:=by
 rw[←Nat.pow_mod,Nat.mul_pow,Nat.mul_mod]
theorem rtok_sq (hp:Prime p) (Ej:p%2=1) (hh:2*h=p-1) (he:4*e=h+2) (hi:i*i%p=p-1) {a:Nat} (ha:a<p):rtok p e i (a*a%p)=true:=by
 have h2:2≤p:=hp.1
 by_cases h0:a=0
 ·subst h0;rw[Nat.zero_mul,Nat.zero_mod];exact OS zOm
 ·rw[Th hp Ej hh he hi (zA1 _ zOm)]
  ·rw[Qf];rcases BH hp hh (a:=a) (by rw[zA4 ha];exact h0)with h1|h1
   ·rw[h1];exact zA4 zOm
   ·rw[h1,tJ (a:=1) zOm];exact zA4 zOm
  ·intro hz;rcases hp.dvd_mul (Nat.dvd_of_mod_eq_zero hz)with h9|h9<;>exact h0 (Nat.eq_zero_of_dvd_of_lt h9 ha)
end
end Nt
def eN:Nat:=7237005577332262213973186563042994240829374041602535252466099000494570602494
def hN:Nat:=28948022309329048855892746252171976963317496166410141009864396001978282409974
def iN:Nat:=19681161376707505956807079304988542015446066515923890162744021073123829784752
theorem Y7:2*hN=pN-1:=by decide
theorem U1:4*eN=hN+2:=by decide
theorem ad6:iN*iN%pN=pN-1:=by decide
theorem Kd:pN%2=1:=by decide
theorem xa:Nt.Prime pN:=Nt.prime_p
theorem aaa:(aw 4 eN).toArray=#[.int .u64 18446744073709551614,.int .u64 18446744073709551615,.int .u64 18446744073709551615,.int .u64 1152921504606846975]:=by kernel_rfl
theorem aab:(aw 4 iN).toArray=#[.int .u64 14190309331451158704,.int .u64 3405592160176694392,.int .u64 3120150775007532967,.int .u64 3135389899092516619]:=by kernel_rfl
theorem AK (m n:Nat) (hm:m<18446744073709551616^4) (hn:n<18446744073709551616^4) (w:World):
 (Op.equalIn 10000 240 (.agg (aw 4 m).toArray) (.agg (aw 4 n).toArray)).run Tryz.prog w=.ok (decide (m=n)) w:=by
 have h:=Ao (P:=Tryz.prog) (t:=240) (e:=225) (k:=.u64) (n:=4) Tryz.underlying240 Tryz.underlying225 zKr zKr ((bF 18446744073709551616 4 m).map Int.ofNat) ((bF 18446744073709551616 4 n).map Int.ofNat) zaH zaH w;have e:∀k,((bF 18446744073709551616 4 k).map Int.ofNat).map (Value.int .u64)=aw 4 k:=(by intro k;simp only[aw,List.map_map];rfl);rw[e,e]at h;have e2:((bF 18446744073709551616 4 m).map Int.ofNat=(bF 18446744073709551616 4 n).map Int.ofNat)=(m=n):=by
  exact zeM
 rw[h];simp only[e2]
theorem It (a:Nat):Nt.rtok pN eN iN a=decide (Nt.rtx pN eN iN a*Nt.rtx pN eN iN a%pN=a):=by
 unfold Nt.rtok;rw[Bool.eq_iff_iff];simp
theorem KO (a:Nat) (ha:a<pN) (w:World):
 Calls Tryz.prog 199 #[.agg (aw 4 a).toArray] w fun e w'=>
  e=.returned (.tuple #[.agg (aw 4 (Nt.rtv pN eN iN a)).toArray,.bool (Nt.rtok pN eN iN a)])∧Below w.heap.size w w':=by
 have zp:pN<18446744073709551616^4:=zDc;have Ni:a<18446744073709551616^4:=zA25 ha zp;obtain⟨x,hx⟩:=zX (a^eN%pN);obtain⟨s,hs⟩:=zX (x*x%pN);obtain⟨X,hX⟩:=zX (Nt.rtx pN eN iN a);obtain⟨q,hq⟩:=zX (X*X%pN);have ee:=It a;rw[hX,hq]at ee;have hv:Nt.rtv pN eN iN a=if Nt.rtok pN eN iN a then(if X%2=1 then pN-X else X)else 0:=(by unfold Nt.rtv;rw[hX])
 have vR:x<18446744073709551616^4:=hx▸Cy _;have dI:s<18446744073709551616^4:=hs▸Cy _;have hXp:X<pN:=hX▸Nt.rtx_lt aX a;have hXl:X<18446744073709551616^4:=zA25 hXp zp;have hql:q<18446744073709551616^4:=hq▸Cy _;have c0:=fun w=>Ey a eN Ni zDc w;rw[hx]at c0;have c1:=fun w=>fJ x x vR vR w;rw[hs]at c1;have c2:=fun w=>fJ X X hXl hXl w;rw[hq]at c2;have c3:=fun w=>ol X 0 zDc w;rw[Nat.pow_zero,Nat.div_one]at c3;have c4:X%2=1→∀w,_:=fun sU w=>tI 0 X zDc hXp w;have q1:=AK s a dI Ni;have q2:=AK q a hql Ni;have l0:(aw 4 0).toArray=#[.int .u64 0,.int .u64 0,.int .u64 0,.int .u64 0]:=mo 0 zDc;have hm:X%2=1→(0+pN-X)%pN=pN-X:=fun h=>by rw[Nat.zero_add];exact zA4 zOm
 have hXs:s=a→X=x:=by
  intro h;rw[←hX];unfold Nt.rtx;dsimp only;rw[hx,hs,if_pos h]
 have hXn:s≠a→x*iN%pN=X:=by
  intro h;rw[←hX];unfold Nt.rtx;dsimp only;rw[hx,hs,if_neg h]
 have c5:=fun w=>fJ x iN vR zDc w;replace c0:=zH c0;replace c1:=zH c1;replace c2:=zH c2;replace c3:=zH c3;replace c4:=zH c4;replace q1:=zH q1;replace q2:=zH q2;replace hm:=zH hm;replace l0:=zH l0;replace ee:=zH ee;replace hv:=zH hv;clear hX hx hs hq;generalize Nt.rtv pN eN iN a=R at hv⊢;generalize Nt.rtok pN eN iN a=B at hv ee⊢;go_enter Tryz.func199,Tryz.ntmps199;go_upto_region 1 with fail
 refine be (fun W aB k1 k2 kb=>?_);have k2:Arr W (w.heap.size+1) (aw 4 0):=k2;go_upto_region 3 with(first|refine aR ?_|refine aU ?_)
 refine be (fun W9 ie k4 k5 fO=>?_);rw[←aaa,aB]at k4;rw[←aab,aB]at k5;have k4:Arr W9 (w.heap.size+2) (aw 4 eN):=k4;have k5:Arr W9 (w.heap.size+2+1) (aw 4 iN):=k5;obtain⟨k1,k2⟩:=fZ k1 k2 fO;have kb:=az kb fO;clear fO ie;go_wp2_with(first|refine aR ?_|refine aU ?_);refine zQ (c0.out _) fun mU dG=>?_;obtain⟨k1,k2,k4,k5⟩:=kJ k1 k2 k4 k5 dG;have kb:=az kb dG;clear dG;go_upto_region 4 with(first|refine aR ?_|refine aU ?_)
 obtain⟨QG,gI,iM,jq⟩:=zJ4 k1 k2 k4 k5;refine aK (fun i8 k6 aA=>?_);obtain⟨k1,k2,k4,k5⟩:=kJ k1 k2 k4 k5 aA;have kb:=az kb aA;clear aA;generalize (mU).heap.size=t9 at k6 QG gI iM jq⊢;refine cH 9999 5 fun bB=>?_;refine dz ?_ 2 11 zaI [0,1,3] (fun w' hB=>by obtain⟨e1,e2⟩:=fZ k6 k1 hB;exact zRd) ?_;refine eg 2 15 bB c1.out fun pJ b9=>?_;refine dz ?_ 0 31 zaJ [4] (fun w' hB=>by have e1:=q1.out w';exact zRd) ?_;refine ap zKr ?_;obtain⟨k1,k2,k4,k5,k6⟩:=uk k1 k2 k4 k5 k6 b9;have kb:=az kb b9;clear b9
 by_cases L8:s=a
 ·have No:decide (s=a)=true:=decide_eq_true L8;have hXs:=hXs L8;rw[No];replace L8:=zH L8;clear No hXn;subst hXs;go_upto_region 6 with fail
  refine cH 9999 5 fun di=>?_;refine dz ?_ 2 11 zaK [0,1,3] (fun w' hB=>by obtain⟨e1,e2⟩:=fZ k6 k1 hB;exact zRd) ?_;refine eg 2 15 di c2.out fun qD dV=>?_;refine dz ?_ 0 31 zaL [4] (fun w' hB=>by have e1:=q2.out w';exact zRd) ?_;refine ap zKr ?_;obtain⟨k1,k2,k6⟩:=dZ k1 k2 k6 dV;have kb:=az kb dV;clear dV
  by_cases AA:q=a
  ·have Qu:decide (q=a)=true:=decide_eq_true AA;rw[Qu];replace AA:=zH AA;clear Qu;go_wp2_with(first|(refine aR ?_));refine zQ (c3.out _) fun uG iz=>?_;obtain⟨k1,k2,k6⟩:=dZ k1 k2 k6 iz;have kb:=az kb iz;clear iz
   by_cases sU:X%2=1
   ·have c4:=c4.out sU;have hm:=hm.out sU;rw[hm,l0.out]at c4;rw[sU];replace c4:=zH c4;have B8:=zH sU;clear hm sU;go_wp2_with(first|(refine aR ?_));refine zQ (c4.out _) fun rY nW=>?_;obtain⟨k1,k2,k6⟩:=dZ k1 k2 k6 nW;have kb:=az kb nW;clear nW;go_upto_region 10 with(first|(refine aU ?_))
    refine ci k6 (fun xF k6 ad ak=>?_);exact zdn
   ·exact zdo
  ·exact zdm
 ·have No:decide (s=a)=false:=decide_eq_false L8;have hXn:=hXn L8;rw[No];rw[hXn]at c5;replace L8:=zH L8;replace c5:=zH c5;clear No hXn;go_wp2_with(first|(refine aR ?_));refine zQ (c5.out _) fun kN ja=>?_;obtain⟨k1,k2,k6⟩:=dZ k1 k2 k6 ja;have kb:=az kb ja;clear ja;go_upto_region 6 with(first|(refine aU ?_))
  refine ci k6 (fun xE k6 ad ak=>?_);obtain⟨k1,k2⟩:=rR ad k1 k2;have kb:=ak _ _ zOm kb;clear ad ak;refine cH 9999 5 fun kT=>?_;refine dz ?_ 2 11 (by exact kT) [0,1,3] (fun w' hB=>by obtain⟨e1,e2⟩:=fZ k6 k1 hB;exact zRd) ?_;refine eg 2 15 kT c2.out fun rD iU=>?_;refine dz ?_ 0 31 zaN [4] (fun w' hB=>by have e1:=q2.out w';exact zRd) ?_;refine ap zKr ?_;obtain⟨k1,k2,k6⟩:=dZ k1 k2 k6 iU;have kb:=az kb iU;clear iU
  by_cases AA:q=a
  ·have Qu:decide (q=a)=true:=decide_eq_true AA;rw[Qu];replace AA:=zH AA;clear Qu;go_wp2_with(first|(refine aR ?_));refine zQ (c3.out _) fun rE Qg=>?_;obtain⟨k1,k2,k6⟩:=dZ k1 k2 k6 Qg;have kb:=az kb Qg;clear Qg
   by_cases sU:X%2=1
   ·have c4:=c4.out sU;have hm:=hm.out sU;rw[hm,l0.out]at c4;rw[sU];replace c4:=zH c4;have B8:=zH sU;clear hm sU;go_wp2_with(first|(refine aR ?_));refine zQ (c4.out _) fun uj nk=>?_;obtain⟨k1,k2,k6⟩:=dZ k1 k2 k6 nk;have kb:=az kb nk;clear nk;go_upto_region 10 with(first|(refine aU ?_))
    refine ci k6 (fun K6 k6 ad ak=>?_);exact zdn
   ·exact zdo
  ·exact zdm
open Go.RowKit Go.ChangeShapes Go.WideShapes
theorem aeS {n:Int} (h:(Lit.int .u8 n).wf=true):0≤n∧n≤255:=by
 have:=bounds_u8 h;omega
section
variable {H:Type} {enc:TypeId×Value→H} {P:Program} {w:World}
end
theorem GT (v:Nat) (hv:v<256):(ay v).toArray=#[.int .u8 (v:Int),.int .u8 0,.int .u8 0,.int .u8 0,.int .u8 0,.int .u8 0,.int .u8 0,.int .u8 0,.int .u8 0,.int .u8 0,.int .u8 0,.int .u8 0,.int .u8 0,.int .u8 0,.int .u8 0,.int .u8 0,.int .u8 0,.int .u8 0,.int .u8 0,.int .u8 0,.int .u8 0,.int .u8 0,.int .u8 0,.int .u8 0,.int .u8 0,.int .u8 0,.int .u8 0,.int .u8 0,.int .u8 0,.int .u8 0,.int .u8 0,.int .u8 0]:=by
 have e:∀i,0<i→v/256^i%256=0:=by
  intro i hi;obtain⟨j,rfl⟩:∃j,i=j+1:=⟨i-1,by omega⟩;rw[zA24,Nat.mul_comm,←zA22,zA32 hv,Nat.zero_div]
 simp only[ay,bF,show List.range 32=0::(List.range' 1 31)from by decide,List.map_cons,List.map_map,Nat.pow_zero,Nat.div_one,zA4 hv];rw[show List.map ((fun(x:Nat)=>Value.int IntKind.u8 (x:Int))∘fun i=>v/256^i%256) (List.range' 1 31)=List.map (fun _=>Value.int .u8 0) (List.range' 1 31)from List.map_congr_left (fun i hi=>by
  simp only[List.mem_range'_1]at hi;simp only[Function.comp_apply,e i zOm];rfl)]
 rfl
theorem PI:(ay 0).toArray=#[.int .u8 0,.int .u8 0,.int .u8 0,.int .u8 0,.int .u8 0,.int .u8 0,.int .u8 0,.int .u8 0,.int .u8 0,.int .u8 0,.int .u8 0,.int .u8 0,.int .u8 0,.int .u8 0,.int .u8 0,.int .u8 0,.int .u8 0,.int .u8 0,.int .u8 0,.int .u8 0,.int .u8 0,.int .u8 0,.int .u8 0,.int .u8 0,.int .u8 0,.int .u8 0,.int .u8 0,.int .u8 0,.int .u8 0,.int .u8 0,.int .u8 0,.int .u8 0]:=GT 0 zDc
theorem YC {m n:Nat} {b:Bool} (hb:decide (m=n)=b) (hm:m<256^32) (hn:n<256^32) (w:World):
 (Op.equalIn 10000 27 (.agg (ay m).toArray) (.agg (ay n).toArray)).run Tryz.prog w=.ok b w:=by rw[wu m n hm hn w,hb]
theorem Fr {m:Nat} {b:Bool} (hb:decide (m=0)=b) (hm:m<256^32) (w:World):
 (Op.equalIn 10000 27 (.agg (ay m).toArray) (.agg #[.int .u8 0,.int .u8 0,.int .u8 0,.int .u8 0,.int .u8 0,.int .u8 0,.int .u8 0,.int .u8 0,.int .u8 0,.int .u8 0,.int .u8 0,.int .u8 0,.int .u8 0,.int .u8 0,.int .u8 0,.int .u8 0,.int .u8 0,.int .u8 0,.int .u8 0,.int .u8 0,.int .u8 0,.int .u8 0,.int .u8 0,.int .u8 0,.int .u8 0,.int .u8 0,.int .u8 0,.int .u8 0,.int .u8 0,.int .u8 0,.int .u8 0,.int .u8 0])).run Tryz.prog w=.ok b w:=by
 have:=wu m 0 hm zDc w;rw[PI,hb]at this;exact this
end Go.Proofs.YtgfkgolafkdjfaaGreatDoor
