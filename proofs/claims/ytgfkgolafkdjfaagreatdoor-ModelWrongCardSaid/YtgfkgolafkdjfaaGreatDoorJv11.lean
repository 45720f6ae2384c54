/- ModelWrong: part 11 of its proof: lemmas and contracts, each with its conditions in its own statement; the last part holds the law itself. -/
import Derived.Test.YtgfkgolafkdjfaaGreatDoorJv10
import Derived.Laws.Bits64
import Derived.Laws.Cover3

set_option maxHeartbeats 4000000
set_option maxRecDepth 100000
namespace Go.Proofs.YtgfkgolafkdjfaaGreatDoor
open Go.RowKit
def mD:Nat:=1361129467683753853853498429727072845819
theorem Ms:0<mD:=by decide
theorem AT:(2:Nat)^130=mD+5:=by decide
def bR (n:Nat):Nat:=n%2^130+5*(n/2^130)
theorem j7 (n:Nat):bR n%mD=n%mD:=by
 conv=>rhs;rw[←Nat.mod_add_div n (2^130),AT]
 unfold bR;rw[AT,Nat.add_mul,←Nat.add_assoc,Nat.add_right_comm,zA27]
theorem pT (n:Nat):bR n≤n:=by unfold bR;omega
theorem Bx {n:Nat} (h:n<2^130):bR n=n:=by unfold bR;omega
theorem Ee {n K:Nat} (h:n<2^130*K):bR n<2^130+5*K:=by
 unfold bR;have:=(Nat.div_lt_iff_lt_mul (show 0<2^130 by decide)).2 (by rw[Nat.mul_comm];exact h);omega
theorem qI {n:Nat} (h:n<2^130*2^100):bR (bR n)<2^130:=by
 have h1:=Ee h;have h2:bR n<2^130*2:=zOm;unfold bR at*;omega
theorem Bw {n:Nat} (h:n<2^256):bR n<2^131:=by
 have:=Ee (K:=2^126) (n:=n) zOm;omega
def wg (bs:List UInt8):Nat:=val 256 (bs.map fun(x:UInt8)=>x.toNat)+256^bs.length
def kE (r:Nat) (L:List UInt8):Nat→Nat
 |0=>0
 |k+1=>(kE r L k+wg ((L.drop (16*k)).take 16))*r%mD
def Aj (r s:Nat) (L:List UInt8):Nat:=(kE r L ((L.length+15)/16)+s)%2^128
theorem rf (r:Nat) (L M:List UInt8):∀k,16*k≤L.length→kE r (L++M) k=kE r L k
 |0,_=>rfl
 |k+1,h=>by
  rw[kE,kE,rf r L M k zOm,List.drop_append_of_le_length zOm,List.take_append_of_le_length za2]
theorem So (r:Nat) (L:List UInt8):∀k,kE r L k<mD
 |0=>Ms
 |_+1=>zA1 _ Ms
theorem K5 (bs:List UInt8):val 256 (bs.map fun(x:UInt8)=>x.toNat)<256^bs.length:=by
 have:=zI 256 zDc (bs.map fun(x:UInt8)=>x.toNat) za5;exact zfv
theorem Fd {bs:List UInt8} (h:bs.length≤16):wg bs<2^129:=by
 have h1:=K5 bs;have h2:256^bs.length≤256^16:=Nat.pow_le_pow_right zDc h;unfold wg;omega
def PolySt (r:Nat) (L:List UInt8) (h:Nat):Prop:=h%mD=kE r L (L.length/16)∧h<2^131
def kj (L:List UInt8):List UInt8:=L.drop (16*(L.length/16))
theorem CS (L:List UInt8):(kj L).length=L.length%16:=by unfold kj;rw[List.length_drop];omega
theorem PolySt.nil (r:Nat):PolySt r [] 0:=⟨rfl,by decide⟩
theorem Ik (L:List UInt8) (x:UInt8) (h:L.length%16≠15):kj (L++[x])=kj L++[x]:=by
 unfold kj;rw[zA5,List.length_singleton,show(L.length+1)/16=L.length/16 by omega,List.drop_append_of_le_length zOm]
theorem PolySt.snoc {r h:Nat} {L:List UInt8} (hs:PolySt r L h) (x:UInt8) (qJ:L.length%16≠15):PolySt r (L++[x]) h:=by
 unfold PolySt at*;rw[zA5,List.length_singleton,show(L.length+1)/16=L.length/16 by omega,rf r L [x] _ zOm];exact hs
theorem Ij (L:List UInt8) (x:UInt8) (h:L.length%16=15):kj (L++[x])=[]:=by
 unfold kj;apply List.drop_of_length_le;rw[zA5,List.length_singleton];omega
theorem Dg {r h k b:Nat} (hk:h%mD=k):bR ((h+b)*r)%mD=(k+b)*r%mD:=by
 rw[j7,←hk,Nat.mul_mod (h%mD+b),Nat.add_mod (h%mD),Nat.mod_mod,←Nat.add_mod,←Nat.mul_mod]
theorem Gx {r h b:Nat} (hh:h<2^131) (hb:b<2^129) (hr:r<2^124):(h+b)*r<2^256:=by
 have h1:h+b<2^132:=zOm;have:=Nat.mul_lt_mul'' h1 hr;rwa[←Nat.pow_add]at this
theorem PolySt.full {r h:Nat} {L:List UInt8} (hs:PolySt r L h) (hr:r<2^124) (x:UInt8) (qJ:L.length%16=15):PolySt r (L++[x]) (bR ((h+wg (kj L++[x]))*r)):=by
 obtain⟨h1,h2⟩:=hs;have hl:(kj L++[x]).length≤16:=(by rw[zA5,CS,List.length_singleton];omega);refine⟨?_,Bw (Gx h2 (Fd hl) hr)⟩;rw[Dg h1,zA5,List.length_singleton,show(L.length+1)/16=L.length/16+1 by omega,kE,rf r L [x] _ zOm,List.drop_append_of_le_length zOm];rw[zA8 (by rw[zA5,List.length_drop,List.length_singleton];omega)];rfl
def Eo (r h:Nat) (L:List UInt8):Nat:=if L.length%16=0 then h else bR ((h+wg (kj L))*r)
theorem PolySt.last {r h:Nat} {L:List UInt8} (hs:PolySt r L h) (hr:r<2^124):Eo r h L%mD=kE r L ((L.length+15)/16)∧Eo r h L<2^131:=by
 obtain⟨h1,h2⟩:=hs;unfold Eo;split
 ·rename_i h0;rw[show(L.length+15)/16=L.length/16 by omega];exact⟨h1,h2⟩
 ·rename_i h0;have hl:(kj L).length≤16:=(by rw[CS];omega);refine⟨?_,Bw (Gx h2 (Fd hl) hr)⟩;rw[Dg h1,show(L.length+15)/16=L.length/16+1 by omega,kE];rw[zA8 za2];rfl
theorem U3 {h k:Nat} (h1:h%mD=k) (h2:h<2^131):∃w,bR (bR (bR h))=w∧w<2^130∧(if w<mD then w else w-mD)=k:=by
 refine⟨_,rfl,?_,?_⟩
 ·have:=qI (n:=bR h) (zA9 (pT h) (zA25 h2 zDc));exact this
 ·have h3:=qI (n:=bR h) (zA9 (pT h) (zA25 h2 zDc));have h4:bR (bR (bR h))%mD=k:=(by rw[j7,j7,j7,h1]);generalize bR (bR (bR h))=w at*;have:=AT;split
  ·rw[←h4,zA4 ‹_›]
  ·rw[←h4,Nat.mod_eq_sub_mod zOm,zA4 zOm]
def lD (K:Nat):Nat:=K%2^128 &&&0x0ffffffc0ffffffc0ffffffc0fffffff
theorem CH (K:Nat):lD K<2^124:=by
 unfold lD;exact zA9 Nat.and_le_right zDc
theorem HC (n a b c d:Nat) (ha:a<2^n) (hc:c<2^n):(a+2^n*b) &&&(c+2^n*d)=(a &&&c)+2^n*(b &&&d):=by
 have hac:a &&&c<2^n:=zA9 Nat.and_le_left ha;apply Nat.eq_of_testBit_eq;intro j;rw[Nat.testBit_and,Nat.add_comm a,Nat.add_comm c,Nat.add_comm (a &&&c),Nat.testBit_two_pow_mul_add _ ha,Nat.testBit_two_pow_mul_add _ hc,Nat.testBit_two_pow_mul_add _ hac];split
 ·rw[Nat.testBit_and]
 ·rw[Nat.testBit_and]
theorem H8 (K:Nat):lD K=(K%2^64 &&&0x0ffffffc0fffffff)+2^64*(K/2^64%2^64 &&&0x0ffffffc0ffffffc):=by
 unfold lD;rw[←HC 64 _ _ _ _ (zA1 _ zDc) zDc];congr 1;omega
theorem ML:∀(xs ms:List Nat),(∀x∈xs,x<256)→(∀x∈ms,x<256)→xs.length=ms.length→val 256 xs &&&val 256 ms=val 256 (List.zipWith (· &&& ·) xs ms)
 | [],[],_,_,_=>by simp[val]
 |x::xs,m::ms,hx,hm,hl=>by
  rw[List.zipWith_cons_cons,val,val,val,←ML xs ms (fun y hy=>hx y (by simp[hy])) (fun y hy=>hm y (by simp[hy])) (by simpa using hl)];exact HC 8 x (val 256 xs) m (val 256 ms) (hx x zac) (hm m zac)
def Cm:List Nat:=[255,255,255,15,252,255,255,15,252,255,255,15,252,255,255,15]
theorem H6 (K:Nat):lD K=val 256 (List.zipWith (· &&& ·) (bF 256 16 K) Cm):=by
 rw[←ML _ _ (fun x hx=>nD 256 16 K zDc x hx) zDc (by rw[bj];rfl),ir];rfl
theorem MV {x y:Nat} (h:x<256):x &&&y<256:=zA9 Nat.and_le_left h
theorem aba (K:Nat):∀x∈List.zipWith (· &&& ·) (bF 256 16 K) Cm,x<256:=by
 intro x hx;obtain⟨i,hi⟩:=List.mem_iff_getElem?.1 hx;rw[List.getElem?_zipWith]at hi;cases hd:(bF 256 16 K)[i]? with
 |none=>rw[hd]at hi;simp at hi
 |some d=>
  cases hm:Cm[i]? with
  |none=>rw[hd,hm]at hi;simp at hi
  |some m=>
   rw[hd,hm]at hi;simp only[Option.some.injEq]at hi;rw[←hi];exact MV (nD 256 16 K zDc d (List.mem_of_getElem? hd))
theorem H7 (K i:Nat) (hi:i<16):lD K/256^i%256=K/256^i%256 &&&Cm.getD i 0:=by
 have h1:=jQ 256 zDc _ (aba K);rw[←H6]at h1;have hl:(List.zipWith (· &&& ·) (bF 256 16 K) Cm).length=16:=(by rw[List.length_zipWith,bj];rfl);rw[hl]at h1;have h2:=eG 256 16 (lD K) i hi;rw[h1,List.getElem?_zipWith,eG _ _ _ _ hi,dE (xs:=Cm) (by exact hi)]at h2;simpa using h2.symm
def MA (ys:List Nat) (j i:Nat):Nat:=if j≤i then ys.getD (i-j) 0 else 320*ys.getD (i+17-j) 0
def cS (xs ys:List Nat) (i:Nat):Nat→Nat
 |0=>0
 |j+1=>cS xs ys i j+xs.getD j 0*MA ys j i
def mw (xs ys:List Nat):List Nat:=(List.range 17).map fun i=>cS xs ys i 17
theorem zJ (b c:Nat):∀xs:List Nat,val b (xs.map (c* ·))=c*val b xs
 | []=>by simp[val]
 |x::xs=>by rw[List.map_cons,val,val,zJ b c xs,Nat.mul_add,Nat.mul_left_comm]
theorem IH (b:Nat) (f g:Nat→Nat):∀is:List Nat,val b (is.map fun i=>f i+g i)=val b (is.map f)+val b (is.map g)
 | []=>by simp[val]
 |i::is=>by rw[List.map_cons,List.map_cons,List.map_cons,val,val,val,IH b f g is,Nat.mul_add];omega
theorem Uf (b c:Nat) (f:Nat→Nat) (is:List Nat):val b (is.map fun i=>c*f i)=c*val b (is.map f):=by
 rw[←zJ,List.map_map];rfl
theorem SO {ys:List Nat} (hy:ys.length=17) {j:Nat} (hj:j<17):(List.range 17).map (MA ys j)=(ys.drop (17-j)).map (320* ·)++ys.take (17-j):=by
 apply List.ext_getElem?;intro i
 by_cases hi:i<17
 ·rw[List.getElem?_map,List.getElem?_range hi];simp only[Option.map_some,MA]
  by_cases rS:j≤i
  ·rw[if_pos rS,zA2 zab,List.length_map,List.length_drop,List.getElem?_take,if_pos zOm,show i-(ys.length-(17-j))=i-j by omega];exact(dE zOm).symm
  ·rw[if_neg rS,zA12 zab,List.getElem?_map,List.getElem?_drop,show 17-j+i=i+17-j by omega,dE (xs:=ys) (i:=i+17-j) zOm];rfl
 ·rw[zA13 zab,zA13 zab]
theorem We {ys:List Nat} (hy:ys.length=17) {j:Nat} (hj:j<17):val 256 ((List.range 17).map (MA ys j))%mD=256^j*val 256 ys%mD:=by
 rw[SO hy hj,kl,zJ,List.length_map,List.length_drop,hy,tU 256 ys (17-j) zOm,show 17-(17-j)=j by omega,Nat.mul_add,←zA26,←Nat.pow_add,show j+(17-j)=17 by omega];rw[show(256:Nat)^17=320+mD*64 by decide,Nat.add_mul,zA26,←Nat.add_assoc,zA27,Nat.add_comm]
theorem PM {xs ys:List Nat} (hx:xs.length=17) (hy:ys.length=17):∀j,j≤17→val 256 ((List.range 17).map fun i=>cS xs ys i j)%mD=val 256 (xs.take j)*val 256 ys%mD
 |0,_=>by
  rw[List.take_zero,val,Nat.zero_mul];have:(List.range 17).map (fun i=>cS xs ys i 0)=List.replicate 17 0:=(by rfl);rw[this,qC]
 |j+1,h=>by
  have ih:=PM hx hy j zOm;have hr:=We hy (show j<17 by omega);have e:(List.range 17).map (fun i=>cS xs ys i (j+1))=(List.range 17).map (fun i=>cS xs ys i j+xs.getD j 0*MA ys j i):=List.map_congr_left (fun i _=>rfl);rw[e];clear e;have ht:(ys.length=17):=hy;generalize List.range 17=is at*;rw[IH,Uf,jg zOm,Nat.add_mod,ih,Nat.mul_mod (xs.getD j 0),hr,←Nat.mul_mod,←Nat.add_mod,Nat.add_mul];congr 2;rw[zA26,Nat.mul_left_comm]
theorem K0 {xs ys:List Nat} (hx:xs.length=17) (hy:ys.length=17):val 256 (mw xs ys)%mD=val 256 xs*val 256 ys%mD:=by
 have:=PM hx hy 17 zOm;rwa[zA8 (by omega:xs.length≤17)]at this
theorem aaG {ys:List Nat} (hy:Le 255 ys) (j i:Nat):MA ys j i≤81600:=by
 unfold MA;have h1:=hy (i-j);have h2:=hy (i+17-j);split<;>omega
theorem PL {xs ys:List Nat} (hx:Le 600 xs) (hy:Le 255 ys) (i:Nat):∀j,cS xs ys i j≤j*48960000
 |0=>by simp[cS]
 |j+1=>by
  have h1:=PL hx hy i j;have h2:xs.getD j 0*MA ys j i≤600*81600:=Nat.mul_le_mul (hx j) (aaG hy j i);rw[cS];omega
theorem vO (xs ys:List Nat):(mw xs ys).length=17:=by simp[mw]
theorem EO {xs ys:List Nat} (hx:Le 600 xs) (hy:Le 255 ys):Le 1000000000 (mw xs ys):=by
 intro m;rw[zA10]
 by_cases h:m<17
 ·rw[mw,List.getElem?_map,List.getElem?_range h];have:=PL hx hy m 17;simp;omega
 ·rw[zA13 (by rw[vO];omega)];simp
theorem MM {B:Nat}:∀ {xs:List Nat},Le B xs→val 256 xs*255+B≤B*256^xs.length
 | [],_=>by simp[val]
 |x::xs,h=>by
  have h0:=h 0;have ih:=MM (B:=B) (xs:=xs) (fun m=>by have:=h (m+1);simpa using this);simp at h0;rw[val,List.length_cons,zA24,←zA26];generalize B*256^xs.length=Z at*;generalize val 256 xs=v at*;clear h;rw[Nat.add_mul,zA26];omega
theorem Ue {B:Nat} {xs:List Nat} (h:Le B xs):val 256 xs≤B*256^xs.length:=by
 have:=MM h;omega
theorem RC:(aw 4 mD).toArray=#[.int .u64 18446744073709551611,.int .u64 18446744073709551615,.int .u64 3,.int .u64 0]:=by kernel_rfl
theorem CJ (w:World):CB 237 #[] w (.agg (aw 4 mD).toArray):=by
 go_enter Tryz.func237,Tryz.ntmps237;go_wp2_with fail;refine bodyPost_ret (v:=.agg (aw 4 mD).toArray) (by rw[RC];simp[results,Tryz.results237,go_sem]) rfl ⟨rfl,?_⟩;exact((ae _ _))
theorem wQ {x0 x1 x2 x3:Nat} (h0:x0<18446744073709551616) (h1:x1<18446744073709551616) (h2:x2<18446744073709551616) (h3:x3<18446744073709551616):
 aw 4 (x0+18446744073709551616*x1+18446744073709551616^2*x2+18446744073709551616^3*x3)=[.int .u64 (x0:Int),.int .u64 (x1:Int),.int .u64 (x2:Int),.int .u64 (x3:Int)]:=by
 have e0:(x0+18446744073709551616*x1+18446744073709551616^2*x2+18446744073709551616^3*x3)/18446744073709551616^0%18446744073709551616=x0:=zOm;have e1:(x0+18446744073709551616*x1+18446744073709551616^2*x2+18446744073709551616^3*x3)/18446744073709551616^1%18446744073709551616=x1:=zOm;have e2:(x0+18446744073709551616*x1+18446744073709551616^2*x2+18446744073709551616^3*x3)/18446744073709551616^2%18446744073709551616=x2:=zOm;have e3:(x0+18446744073709551616*x1+18446744073709551616^2*x2+18446744073709551616^3*x3)/18446744073709551616^3%18446744073709551616=x3:=zOm;unfold aw bF;rw[show List.range 4=[0,1,2,3]from rfl];simp only[List.map_cons,List.map_nil,e0,e1,e2,e3]
theorem RB {n:Nat} (h:n<18446744073709551616^4):∃x0 x1 x2 x3:Nat,x0<18446744073709551616∧x1<18446744073709551616∧x2<18446744073709551616∧x3<18446744073709551616∧
 n=x0+18446744073709551616*x1+18446744073709551616^2*x2+18446744073709551616^3*x3:=
 ⟨n%18446744073709551616,n/18446744073709551616%18446744073709551616,n/18446744073709551616^2%18446744073709551616,n/18446744073709551616^3,by omega,by omega,by omega,by omega,by omega⟩
theorem MW (x:Nat) (hx:x<18446744073709551616):bits .and .u64 (x:Int) 3=((x%4:Nat):Int):=by
 have h:=bits_and_u64_nat x 3 hx zOm;have e:x &&&3=x%4:=Nat.and_two_pow_sub_one_eq_mod x 2;rw[e]at h;exact h
theorem Sg (x y:Nat) (hx:x<4611686018427387904) (hy:y<4):bits .or .u64 (x:Int) ((4611686018427387904*y:Nat):Int)=((x+4611686018427387904*y:Nat):Int):=by
 rw[u64_or_nat _ _ zOm zOm];congr 1;have:=Nat.two_pow_add_eq_or_of_lt (i:=62) (b:=x) hx y;rw[Nat.or_comm,Nat.add_comm];exact this.symm
theorem tL (n:Nat) (hn:n<18446744073709551616^4) (w:World):
 CB 236 #[.agg (aw 4 n).toArray] w (.agg (aw 4 (bR n)).toArray):=by
 obtain⟨x0,x1,x2,x3,h0,h1,h2,h3,rfl⟩:=RB hn;have e1:=wQ h0 h1 h2 h3;obtain⟨n,rW⟩:=zX (x0+18446744073709551616*x1+18446744073709551616^2*x2+18446744073709551616^3*x3);have JK:n%2^130=x0+18446744073709551616*x1+18446744073709551616^2*(x2%4)+18446744073709551616^3*0:=zOm;have Zr:n/2^130=(x2/4+4611686018427387904*(x3%4))+18446744073709551616*(x3/4):=zOm;obtain⟨a,ha⟩:=zX (x2/4+4611686018427387904*(x3%4));obtain⟨b,hb⟩:=zX (x3/4);have BG:a<18446744073709551616:=zOm;have fP:b<18446744073709551616:=zOm;have m1:=fun w=>HW a 5 BG zDc w;have m2:=fun w=>HW b 5 fP zDc w;have m3:=fun w=>Be (b*5%18446744073709551616) (a*5/18446744073709551616) w;obtain⟨y0,J0⟩:=zX (a*5%18446744073709551616);obtain⟨c,hc⟩:=zX (a*5/18446744073709551616);obtain⟨d0,DK⟩:=zX (b*5%18446744073709551616);obtain⟨d1,tH⟩:=zX (b*5/18446744073709551616);rw[J0,hc]at m1;rw[DK,tH]at m2;rw[DK,hc]at m3
 obtain⟨y1,Dx⟩:=zX ((d0+c)%18446744073709551616);obtain⟨z,hz⟩:=zX ((d0+c)/18446744073709551616);rw[Dx,hz]at m3;have hdz:d1+z<18446744073709551616:=zOm;have e2:=wQ h0 h1 (show x2%4<18446744073709551616 by omega) (show 0<18446744073709551616 by decide);rw[←JK]at e2;have XN:5*(n/2^130)=y0+18446744073709551616*y1+18446744073709551616^2*(d1+z)+18446744073709551616^3*0:=by
  rw[Zr,ha,hb];omega
 have e3:=wQ (show y0<18446744073709551616 by omega) (show y1<18446744073709551616 by omega) hdz (show 0<18446744073709551616 by decide);rw[←XN]at e3;have a1:=fun w=>ke (n%2^130) (5*(n/2^130)) w;rw[show n%2^130+5*(n/2^130)=bR n from rfl,e3]at a1;have b1:=MW x2 h2;have b2:bits .or .u64 ((x2:Int)/4) (IntKind.u64.wrap ((x3:Int)*4611686018427387904))=(a:Int):=by
  have h5:IntKind.u64.wrap ((x3:Int)*4611686018427387904)=((4611686018427387904*(x3%4):Nat):Int):=(by rw[IntKind.wrap_u64];omega);rw[h5,show(x2:Int)/4=((x2/4:Nat):Int) by omega,Sg _ _ zOm zOm,ha]
 have b3:(x3:Int)/4=(b:Int):=zOm;have b4:IntKind.u64.wrap ((d1:Int)+(z:Int))=(d1:Int)+(z:Int):=(by rw[IntKind.wrap_u64];omega);have b5:((d1+z:Nat):Int)=(d1:Int)+(z:Int):=zOm;rw[b5]at a1;rw[rW]at e1⊢;have c0:(aw 4 n)[0]? =some (.int .u64 (x0:Int)):=(by rw[e1];rfl);have c1:(aw 4 n)[1]? =some (.int .u64 (x1:Int)):=(by rw[e1];rfl);have c2:(aw 4 n)[2]? =some (.int .u64 (x2:Int)):=(by rw[e1];rfl);have c3:(aw 4 n)[3]? =some (.int .u64 (x3:Int)):=(by rw[e1];rfl);clear hn rW JK Zr ha hb BG fP J0 hc DK tH Dx hz hdz XN e3 b5 e1;replace m1:=zH m1;replace m2:=zH m2;replace m3:=zH m3;replace c0:=zH c0;replace c1:=zH c1;replace c2:=zH c2;replace c3:=zH c3;replace b2:=zH b2;replace b3:=zH b3;replace b4:=zH b4;replace b1:=zH b1;obtain⟨L,hL⟩:=zX (n%2^130);obtain⟨R,hR⟩:=zX (bR n);rw[hR]at a1⊢;rw[hL]at a1 e2;clear hL hR;replace a1:=zH a1;replace e2:=zH e2;go_enter Tryz.func236,Tryz.ntmps236
 go_upto_region 1 with fail
 refine be (fun W aB k1 k2 kb=>?_);have k2:Arr W (w.heap.size+1) (aw 4 0):=k2;clear aB;have d0':=k1.cell c0.out;have d1':=k1.cell c1.out;have d2':=k1.cell c2.out;have b1':=b1.out;go_upto_region 2 with fail
 refine aH (fun w3 ZW k3 nj=>?_);have k3:Arr w3 W.heap.size (aw 4 L):=(by rw[e2.out];exact k3);have lt1:=k1.lt;have lt2:=k2.lt;obtain⟨k1,k2⟩:=fZ k1 k2 nj;have kb:=az kb nj;generalize W.heap.size=g3 at k3 lt1 lt2⊢;clear ZW nj d0' d1' d2' b1';have d2':=k1.cell c2.out;have d3':=k1.cell c3.out;have b2':=b2.out;have b3':=b3.out;go_wp2_with fail;refine(m1.out _).mono ?_;rintro e w4 ⟨rfl,rfl⟩;go_wp2_with fail;refine(m2.out _).mono ?_;rintro e w5 ⟨rfl,rfl⟩;clear d2' d3' b2' b3';have b4':=b4.out;go_wp2_with(first|(simp only[m3.out])|(refine aR ?_));refine zQ (a1.out _) fun mU dG=>?_;have k2:=k2.below dG;have kb:=az kb dG;clear dG;clear b4';go_upto_region 6 with(first|refine aR ?_|refine aU ?_)
 have sF:=k2.lt;refine aK (fun i8 k9 aA=>?_);have k2:=k2.below aA;have kb:=az kb aA;clear aA;generalize (mU).heap.size=Ar at k9 sF⊢;go_wp2_with(first|refine aR ?_|refine aU ?_);exact bodyPost_ret (aj Tryz.results236 _ _ _ rfl zKr _ zaE zLn) rfl ⟨rfl,ah kb zOm _⟩
theorem FU (K:Nat) (hK:K<256^32) (w:World):
 CB 233 #[.agg (ay K).toArray] w (.agg (aw 4 (lD K)).toArray):=by
 have c1:=fun w=>ku K hK w;have g0:=bQ 4 K 0 zDc;have g1:=bQ 4 K 1 zDc;rw[Nat.pow_zero,Nat.div_one]at g0;rw[Nat.pow_one]at g1;have hR:=H8 K;obtain⟨x,hx⟩:=zX (K%18446744073709551616);obtain⟨y,hy⟩:=zX (K/18446744073709551616%18446744073709551616);rw[hx]at g0;rw[hy]at g1;rw[show K%2^64=x from hx,show K/2^64%2^64=y from hy]at hR;have vR:x<18446744073709551616:=hx▸zA1 _ zDc;have IX:y<18446744073709551616:=hy▸zA1 _ zDc;have b1:=bits_and_u64_nat x 1152921487695413247 vR zDc;have b2:=bits_and_u64_nat y 1152921487695413244 IX zDc;obtain⟨u,hu⟩:=zX (x &&&1152921487695413247);obtain⟨v,hv⟩:=zX (y &&&1152921487695413244);rw[hu,hv]at hR;rw[hu]at b1;rw[hv]at b2;have hul:u<18446744073709551616:=(by rw[←hu];exact zA9 Nat.and_le_left vR);have DN:v<18446744073709551616:=(by rw[←hv];exact zA9 Nat.and_le_left IX)
 have e1:=wQ hul DN (show 0<18446744073709551616 by decide) (show 0<18446744073709551616 by decide);have e2:u+18446744073709551616*v+18446744073709551616^2*0+18446744073709551616^3*0=lD K:=(by rw[hR];omega);rw[e2]at e1;obtain⟨R,hR⟩:=zX (lD K);rw[hR]at e1⊢;clear hR hx hy hu hv e2 hK;replace c1:=zH c1;replace g0:=zH g0;replace g1:=zH g1;replace b1:=zH b1;replace b2:=zH b2;replace e1:=zH e1;go_enter Tryz.func233,Tryz.ntmps233;go_upto_region 1 with fail
 refine be (fun W aB k1 k2 kb=>?_);have k2:Arr W (w.heap.size+1) (aw 4 0):=k2;clear aB;go_wp2_with(refine aR ?_);refine zQ (c1.out _) fun jF dc=>?_;obtain⟨k1,k2⟩:=fZ k1 k2 dc;have kb:=az kb dc;clear dc;go_upto_region 2 with(first|refine aR ?_|refine aU ?_)
 have jp:=k2.lt;refine aK (fun pJ k3 aA=>?_);have k2:=k2.below aA;have kb:=az kb aA;clear aA;generalize (jF).heap.size=sm at k3 jp⊢;have d0:=k3.cell g0.out;have d1:=k3.cell g1.out;have b1':bits BinOp.and IntKind.u64 (x:Int) 1152921487695413247=(u:Int):=b1.out;have b2':bits BinOp.and IntKind.u64 (y:Int) 1152921487695413244=(v:Int):=b2.out;have el:[Value.int .u64 (u:Int),.int .u64 (v:Int),.int .u64 0,.int .u64 0]=aw 4 R:=e1.out.symm;go_wp2_with(refine aQ rfl _ _ _ rfl _ (aw 4 R) rfl (by rw[←el];rfl) _ k2 zao (by rw[aF,aF]) (lw _ _) ?_);exact bodyPost_ret (aj Tryz.results233 _ _ _ rfl zKr _ zaE zLn) rfl ⟨rfl,ah kb zOm _⟩
def rX (h r:Nat) (bs:List UInt8) (n:Nat):List Value:=aw 4 h++(aw 4 r++(aJ bs++[.int .i64 (n:Int)]))
theorem WT {h r n:Nat} {bs:List UInt8} (hb:bs.length=16):(rX h r bs n).length=25:=by simp[rX,aF,ai,hb]
theorem TL {h r n j:Nat} {bs:List UInt8} (hj:j<(aw 4 h).length):(rX h r bs n)[0+j]? =(aw 4 h)[j]? :=by
 rw[rX,Nat.zero_add,zA12 hj]
theorem aeE {h r n j:Nat} {bs:List UInt8} (hj:j<(aw 4 r).length):(rX h r bs n)[4+j]? =(aw 4 r)[j]? :=by
 rw[rX,zA2 zal,aF,show 4+j-4=j by omega,zA12 hj]
theorem Yl {h r n j:Nat} {bs:List UInt8} (hj:j<bs.length):(rX h r bs n)[8+j]? =(aJ bs)[j]? :=by
 rw[rX,zA2 zal,aF,zA2 zal,aF,show 8+j-4-4=j by omega,zA12 zaU]
theorem EM {h r n:Nat} {bs:List UInt8} (hb:bs.length=16):(rX h r bs n)[24]? =some (.int .i64 (n:Int)):=by
 rw[rX,zA2 zal,aF,zA2 zal,aF,zA2 zaV,ai,hb];rfl
theorem EN {h r n m:Nat} {bs:List UInt8} (hb:bs.length=16):(rX h r bs n).set 24 (.int .i64 (m:Int))=rX h r bs m:=by
 rw[rX,rX,List.set_append_right _ _ zal,aF,List.set_append_right _ _ zal,aF,List.set_append_right _ _ zaV,ai,hb];rfl
theorem O3 {h r n j:Nat} {bs:List UInt8} {x:UInt8} (hj:j<bs.length):(rX h r bs n).set (8+j) (.int .u8 (x.toNat:Int))=rX h r (bs.set j x) n:=by
 rw[rX,rX,List.set_append_right _ _ zal,aF,List.set_append_right _ _ zal,aF,show 8+j-4-4=j by omega,List.set_append_left _ _ zaU];congr 3;exact zfy
theorem O2 {h r n k:Nat} {bs:List UInt8}:gJ 0 (aw 4 k) (rX h r bs n)=rX k r bs n:=by
 rw[gJ,List.take_zero,List.nil_append,aF,Nat.zero_add,rX,List.drop_append_of_le_length zal,List.drop_of_length_le zal];rfl
theorem PG {bs:List UInt8} (h:bs.length≤31):ay (wg bs)=(aJ bs++List.replicate (32-bs.length) (Value.int .u8 0)).set bs.length (.int .u8 1):=by
 have e:wg bs=val 256 (bs.map (fun(x:UInt8)=>x.toNat)++1::List.replicate (31-bs.length) 0):=by
  rw[kl,val,qC,List.length_map,Nat.mul_zero,Nat.add_zero,Nat.mul_one];rfl
 have hl:(bs.map (fun(x:UInt8)=>x.toNat)++1::List.replicate (31-bs.length) 0).length=32:=zab;have hd:=jQ 256 zDc (bs.map (fun(x:UInt8)=>x.toNat)++1::List.replicate (31-bs.length) 0) (by
  intro x hx;rcases List.mem_append.1 hx with hx|hx
  ·simp only[List.mem_map]at hx;obtain⟨y,-,rfl⟩:=hx;exact y.toNat_lt
  ·rcases List.mem_cons.1 hx with rfl|hx
   ·decide
   ·rw[List.mem_replicate]at hx;omega)
 rw[hl,←e]at hd;rw[ay,hd,show 32-bs.length=(31-bs.length)+1 by omega,List.replicate_succ,List.set_append_right _ _ (by rw[ai];exact zA0 _),ai,Nat.sub_self,List.set_cons_zero,List.map_append,List.map_cons,List.map_map];congr 1;rw[List.map_replicate];rfl
theorem EB (g h r n:Nat) (bs:List UInt8) (w:World) (k0:Arr w g (rX h r bs n)) (hb:bs.length=16) (hn:n≤16) (hh:h<2^131) (hr:r<2^124):
 Calls Tryz.prog 235 #[.pointer (some ⟨g,0,none⟩)] w fun e w'=>e=.returned (.tuple #[])∧Arr w' g (rX (bR ((h+wg (bs.take n))*r)) r bs 0)∧w.grownBy w' (some g):=by
 have lt0:=k0.lt;have BW:=WT (h:=h) (r:=r) (n:=n) hb;obtain⟨b,kK⟩:=zX (wg (bs.take n));have ue:(bs.take n).length=n:=za6;have fP:=Fd (bs:=bs.take n) zOm;have tG:=PG (bs:=bs.take n) zOm;rw[ue]at tG;rw[kK]at tG fP⊢;have b32:b<256^32:=zA25 fP zDc;have hrl:r<18446744073709551616^4:=zA25 hr zDc;have FK:=Gx hh fP hr;have c1:=fun w=>ku b b32 w;have c2:=fun w=>ke h b w;have c3:=fun w=>Cg (h+b) r hrl w;have hs4:h+b<18446744073709551616^4:=zOm;rw[zA4 hs4]at c3;obtain⟨s,hs⟩:=zX (h+b);rw[hs]at c2 c3 FK hs4⊢;obtain⟨p,hp⟩:=zX (s*r);rw[hp]at c3 FK⊢;have zp:p<18446744073709551616^4:=zA3 FK zDc;have c4:=fun w=>tL p zp w;obtain⟨f,hf⟩:=zX (bR p);rw[hf]at c4⊢;obtain⟨cc,np⟩:=zX (jH 18446744073709551616 4 h b);rw[np]at c2;have Q1:∀w',Arr w' g (rX h r bs n)→w'.rangeAt g 0 (aw 4 h):=fun w' hk=>hk.range (fun j hj=>TL hj)
 have Q4:∀w',Arr w' g (rX h r bs n)→w'.rangeAt g 4 (aw 4 r):=fun w' hk=>hk.range (fun j hj=>aeE hj);have dI:∀w',Arr w' g (rX h r bs n)→Sl w' (.slice (some ⟨g,8,none⟩) n 16) (aJ (bs.take n)):=fun w' hk=>Sl.of_part hk (by rw[ai,ue]) hn zDc (fun j hj=>by
  rw[ai,ue]at hj;rw[Yl zOm,eY _ _ zOm,eY _ _ (by rw[ue];exact hj)];simp)
 have qR:=EM (h:=h) (r:=r) (n:=n) hb;have fQ:=dr (bs.take n);have QP:∀w' k,Arr w' k (aw 8 p)→w'.rangeAt k 0 (aw 4 p):=fun w' k hk=>hk.range (fun j hj=>by rw[aF]at hj;rw[Nat.zero_add,bQ _ _ _ zOm,bQ _ _ _ hj]);have mM:(Tryz.prog.info? 5).map (·.size)=some 1:=zKr;have ZQ:=O2 (h:=h) (r:=r) (n:=n) (k:=f) (bs:=bs);have Ra:=EN (h:=f) (r:=r) (n:=n) (m:=0) hb;have uU:=EM (h:=f) (r:=r) (n:=n) hb;have DM:(ay 0).take 0++(aJ (bs.take n)).take 32++(ay 0).drop (0+((aJ (bs.take n)).take 32).length)=aJ (bs.take n)++List.replicate (32-n) (Value.int .u8 0):=by
  rw[List.take_zero,List.nil_append,zA8 (by rw[ai,ue];omega),ai,ue,Nat.zero_add];congr 1;rw[show ay 0=List.replicate 32 (Value.int .u8 0)from rfl,List.drop_replicate]
 have QJ:(aJ (bs.take n)++List.replicate (32-n) (Value.int .u8 0))[n]? =some (.int .u8 0):=by
  rw[zA2 (by rw[ai,ue];exact zA0 _),ai,ue,Nat.sub_self,List.getElem?_replicate,if_pos zOm]
 clear kK fP b32 hrl FK hs4 hs hp zp hf np hh hr;replace BW:=zH BW;replace ue:=zH ue;replace tG:=zH tG;replace c1:=zH c1;replace c2:=zH c2;replace c3:=zH c3;replace c4:=zH c4;replace Q1:=zH Q1;replace Q4:=zH Q4;replace dI:=zH dI;replace qR:=zH qR;replace fQ:=zH fQ;replace QP:=zH QP;replace mM:=zH mM;replace ZQ:=zH ZQ;replace Ra:=zH Ra;replace uU:=zH uU;replace DM:=zH DM;replace QJ:=zH QJ;replace hb:=zH hb;go_enter Tryz.func235,Tryz.ntmps235;go_upto_region 1 with fail
 refine aH (fun W aB k2 kb=>?_);have k2:Arr W w.heap.size (ay 0):=k2;have k0:=k0.below kb;have ne0:g≠w.heap.size:=zOm;clear aB;have n16:(n:Int)≤16:=zOm;refine cH 9 10 fun aP=>?_;refine eZ ?_ 1 511 zaD [0,1,2,3,4,5,6,7,8] (fun w' hB=>by have e1:=(k0.below hB).cell qR.out;exact zRd) ?_;obtain⟨k0,k2⟩:=fZ k0 k2 aP;have kb:=az kb aP;refine bf 1023 rfl zDk (fun K hK=>?_);refine gf rfl _ _ 24 24 rfl 5 Tryz.underlying24 mM.out _ 0 32 32 rfl _ k2 (by rw[aZ];decide) _ rfl _ (dI.out _ k0) fQ.out ?_;refine hK (fun _=>True) 9999 _ _ ?_;clear hK K;try simp only[Act.put]
 try simp only[zSa,zSz,zSs]
 refine ap zKr ?_;rw[DM.out];generalize goInt ((List.take 32 (aJ (List.take n bs))).length:Int)=gi
 first|refine aV k2 (fun i8 k2 ad ak=>?_)|refine eu k2 (fun i8 k2 ad ak=>?_)
 have k0:=ad _ _ zOm k0;have kb:=ak _ _ zOm kb;clear ad ak;have bo:=k2.cell QJ.out;have bT:=k2.frozen n;have Ad:=k0.cell qR.out;go_upto_region 3 with fail
 clear bo bT Ad;refine ck k2 (fun jF k2 ad ak=>?_);have k0:=ad _ _ zOm k0;have kb:=ak _ _ zOm kb;clear ad ak;rw[←tG.out]at k2;refine cH 11 13 fun b9=>?_;refine dz ?_ 8 31 zaJ [0,1,2,3,4] (fun w' hB=>by have JS:=Q1.out w' (k0.below hB);have e2:=k2.below hB;exact zRm) ?_;refine bG 2 2047 [(5,27),(6,28),(7,21),(8,29),(9,30),(10,3)] [(false,[]),(false,[(5,27)]),(true,[(6,28)]),(true,[(7,21)]),(true,[(7,21)]),(false,[])] [(5,Ph.is (.agg (aw 4 b).toArray)),(6,Ph.is (.tuple #[.agg (aw 4 s).toArray,.int .u64 (cc:Int)])),(7,Ph.is (.tuple #[.agg (aw 4 s).toArray,.int .u64 (cc:Int)])),(8,Ph.is (.agg (aw 4 s).toArray)),(9,Ph.is (.int .u64 (cc:Int))),(10,Ph.arr (jF).heap.size (aw 4 0))] zKr zKr zaA ?_ ?_
 ·refine⟨⟨_,rfl,?_⟩,⟨_,rfl,?_⟩,⟨_,rfl,?_⟩,⟨_,rfl,?_⟩,⟨_,rfl,?_⟩,⟨_,rfl,?_⟩,trivial⟩
  ·exact oT c1.out
  ·exact DB c2.out
  ·exact zde
  ·exact zcZ
  ·exact zcZ
  ·exact zcV
 intro vs ag0 zT aco hP hD;obtain⟨q5,q6,q7,q8,q9,q10,-⟩:=hP;simp only[aG,Act.put,zSa,zSz,zSs];rw[show vs 5=_ from q5,show vs 6=_ from q6,show vs 7=_ from q7,show vs 8=_ from q8,show vs 9=_ from q9];clear q5 q6 q7 q8 q9;obtain⟨g10,e10,qT,nU⟩:=q10;rw[e10];clear e10 hD vs;have lt0_3:=zA3 k0.lt qT;have lt2_3:=zA3 k2.lt qT;obtain⟨k0,k2⟩:=fZ k0 k2 zT;have kb:=az kb zT;refine kO 4095 ?_;refine dz ?_ 0 8191 zaC [12] (fun _ _=>zRd) ?_;refine ap zKr ?_;refine aV nU (fun m9 nU ad ak=>?_);have k0:=ad _ _ zOm k0;have kb:=ak _ _ zOm kb;clear ad ak;have k3:=nU;clear nU;generalize g10=g3 at*;clear k2;go_upto_region 4 with fail
 have adI:=kb.size;refine cH 7 8 fun dV=>?_;refine dz ?_ 3 31 zaL [0,1,2,3,4] (fun w' hB=>by have JS:=Q4.out w' (k0.below hB);have e2:=k3.below hB;exact zRm) ?_;refine bG 1 127 [(5,36),(6,5)] [(false,[]),(false,[])] [(5,Ph.is (.agg (aw 8 p).toArray)),(6,Ph.arr (m9).heap.size (aw 8 0))] zKr zKr zaA ?_ ?_
 ·refine⟨⟨_,rfl,?_⟩,⟨_,rfl,?_⟩,trivial⟩
  ·exact oT c3.out
  ·exact zcV
 intro vs aeO zU P5 hP hD;obtain⟨q5,q6,-⟩:=hP;simp only[aG,Act.put,zSa,zSz,zSs];rw[show vs 5=_ from q5];clear q5;obtain⟨g6,e6,lV,uq⟩:=q6;rw[e6];clear e6 hD vs;have lt0_4:=zA3 k0.lt lV;have k0:=k0.below zU;have kb:=az kb zU;refine kO 255 ?_;refine ap zKr ?_;refine aV uq (fun uG uq ad ak=>?_);have k0:=ad _ _ zOm k0;have kb:=ak _ _ zOm kb;clear ad ak;have k5:=uq;clear uq k3;generalize g6=g5 at*;have hr5:=QP.out _ _ k5;have DJ:∀w,(Instr.arrayAt 240 (.slice (some ⟨g5,0,none⟩) 4 8)).run Tryz.prog w=.ok (.pointer (some ⟨g5,0,none⟩)) w:=fun w=>run_arrayAt w 240 225 4 _ 4 8 Tryz.underlying240 zDc;go_upto_region 5 with fail
 go_wp2_with(refine aE rfl _ _ rfl _ _ rfl zKr _ hr5 zLn ?_);clear hr5 DJ;refine zQ (c4.out _) fun rY nW=>?_;have k0:=k0.below nW;have kb:=az kb nW;clear nW;go_upto_region 6 with(refine uK rfl _ _ _ rfl _ _ (aw 4 f) rfl rfl _ k0 zao (by rw[BW.out,aF];decide) (lw _ _) (fun w7 k7 ad ak Eh=>?_))
 have kg:=aN (bO kb) Eh;rw[ZQ.out]at k7;clear ad ak Eh k0 kb;have bo:=k7.cell uU.out;have bT:=k7.frozen 24;go_wp2_with fail;go_end0;refine⟨rfl,?_,aN kg (bY _ _ _ _)⟩;have:=k7.set 24 (.int .i64 ((0:Nat):Int));rw[Ra.out]at this;exact this
theorem OA (g h r n:Nat) (bs:List UInt8) (x:UInt8) (w:World) (k0:Arr w g (rX h r bs n)) (hb:bs.length=16) (hn:n<16) (hh:h<2^131) (hr:r<2^124):
 Calls Tryz.prog 234 #[.pointer (some ⟨g,0,none⟩),.int .u8 (x.toNat:Int)] w fun e w'=>
  e=.returned (.tuple #[])∧Arr w' g (if n=15 then rX (bR ((h+wg (bs.set n x))*r)) r (bs.set n x) 0 else rX h r (bs.set n x) (n+1))∧w.grownBy w' (some g):=by
 have qR:=EM (h:=h) (r:=r) (n:=n) hb;have qQ:=Yl (h:=h) (r:=r) (n:=n) (bs:=bs) (j:=n) zOm;rw[eY bs n zOm]at qQ;have aL:=O3 (h:=h) (r:=r) (n:=n) (bs:=bs) (j:=n) (x:=x) zOm;have hb2:(bs.set n x).length=16:=(by rw[zA23];exact hb);obtain⟨cs,nq⟩:=zX (bs.set n x);rw[nq]at aL hb2⊢;have uU:=EM (h:=h) (r:=r) (n:=n) hb2;have sW:=EN (h:=h) (r:=r) (n:=n) (m:=n+1) hb2;have BL:=EM (h:=h) (r:=r) (n:=n+1) hb2;have c1:=fun w (e:n=15) k=>EB g h r (n+1) cs w k hb2 zOm hh hr;obtain⟨Y,hY⟩:=zX ((if n=15 then rX (bR ((h+wg cs)*r)) r cs 0 else rX h r cs (n+1)));rw[hY];replace hY:=zH hY;have ht:n=15→cs.take (n+1)=cs:=fun e=>zA8 zOm;have fP:(bs[n]'zOm).toNat<256:=(bs[n]'zOm).toNat_lt;generalize (bs[n]'zOm).toNat=y at qQ fP;have n16:(n:Int)<16:=zOm;clear hb nq hh hr;replace qR:=zH qR;replace qQ:=zH qQ;replace aL:=zH aL;replace hb2:=zH hb2;replace uU:=zH uU;replace sW:=zH sW;replace BL:=zH BL;replace c1:=zH c1
 replace ht:=zH ht;go_enter Tryz.func234,Tryz.ntmps234;go_upto_region 0 with fail
 refine cH 9 10 fun hU=>?_;refine eZ ?_ 1 511 zaF [0,1,2,3,4,5,6,7,8] (fun w' hB=>by have e1:=(k0.below hB).cell qR.out;exact zRd) ?_;have k0':=k0.below hU;have bo:=k0'.cell qQ.out;have bT:=k0'.frozen (8+n);refine bf 1023 rfl zDk (fun K hK=>?_);go_simp;refine hK (fun _=>True) 9999 _ _ ?_;clear hK K;try simp only[Act.put]
 try simp only[zSa,zSz,zSs]
 refine ap zKr ?_;clear bo bT k0';have kg:=fX (bY w g (8+n) (.int .u8 (x.toNat:Int)));have k1:Arr (w.setCell ⟨g,8+n,none⟩ (.int .u8 (x.toNat:Int))).drew g (rX h r cs n):=by
  have:=k0.set (8+n) (.int .u8 (x.toNat:Int));rw[aL.out]at this;exact this
 generalize (w.setCell ⟨g,8+n,none⟩ (.int .u8 (x.toNat:Int))).drew=w2 at*;have bo:=k1.cell uU.out;have bT:=k1.frozen 24;go_upto_region 2 with fail
 clear bo bT;have kg:=aN kg (bY w2 g 24 (.int .i64 ((n:Int)+1)));have k2:Arr (w2.setCell ⟨g,24,none⟩ (.int .i64 ((n:Int)+1))) g (rX h r cs (n+1)):=by
  have:=k1.set 24 (.int .i64 ((n+1:Nat):Int));rw[sW.out]at this;exact this
 generalize w2.setCell ⟨g,24,none⟩ (.int .i64 ((n:Int)+1))=w3 at*;have bo:=k2.cell BL.out
 by_cases qJ:n=15
 ·have c2:=c1.out w3 qJ k2;rw[ht.out qJ]at c2;replace c2:=zH c2;clear c1;subst qJ;go_wp2_with fail;refine c2.out.mono ?_;rintro e w4 ⟨rfl,k3,kZ⟩;have kg:=aN kg kZ;clear kZ;go_wp2_with fail;go_end0;exact⟨rfl,by have:=hY.out;simp only[if_true]at this;rw[←this];exact k3,kg⟩
 ·have rW:((n+1:Nat):Int)≠16:=zOm;go_wp2_with fail;go_end0;exact ze2
end Go.Proofs.YtgfkgolafkdjfaaGreatDoor
