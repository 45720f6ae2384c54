/- ModelWrong: part 34 of its proof: lemmas and contracts, each with its conditions in its own statement; the last part holds the law itself. -/
import Derived.Test.YtgfkgolafkdjfaaGreatDoorJv33

set_option maxHeartbeats 4000000
set_option maxRecDepth 100000
namespace Go.Proofs.YtgfkgolafkdjfaaGreatDoor
open Go.RowKit
def El (n:Int) (xs:List Int):Prop:=xs.length=16∧Bd 262144 xs∧(-(65536^16*4)≤cz xs∧cz xs<65536^16*4)∧cz xs%pN=n%pN
def UI (xs ys:List Int):List Int:=dQ (cz xs+cz ys)
def WU (xs ys:List Int):List Int:=dQ (cz xs-cz ys)
def wV (xs ys:List Int):List Int:=dQ (fv (AE xs ys))
theorem El.mkrep {V n K:Int} (h0: -(65536^16*K)≤V) (h1:V<65536^16*K) (hK:K≤1024) (hn:V%pN=n%pN):El n (dQ V):=by
 refine⟨rk V,fun x hx=>?_,?_,by rw[jf,Fu,hn]⟩
 ·have:=Kq h0 h1 x hx;exact zex
 ·rw[jf];have:=LA h0 h1;exact zex
theorem El.add {a b:Int} {xs ys:List Int} (hx:El a xs) (hy:El b ys):El (a+b) (UI xs ys):=by
 refine El.mkrep (K:=8) ?_ ?_ zDc (by rw[Int.add_emod,hx.2.2.2,hy.2.2.2,←Int.add_emod])
 ·exact zff
 ·exact zff
theorem El.sub {a b:Int} {xs ys:List Int} (hx:El a xs) (hy:El b ys):El (a-b) (WU xs ys):=by
 refine El.mkrep (K:=8) ?_ ?_ zDc (by rw[Int.sub_emod,hx.2.2.2,hy.2.2.2,←Int.sub_emod])
 ·exact zff
 ·exact zff
theorem El.mul {a b:Int} {xs ys:List Int} (hx:El a xs) (hy:El b ys):El (a*b) (wV xs ys):=by
 have ho:=(Bd.outer (C:=262144) zDc hx.2.1 hy.2.1 16).mono (B:=17592186044416) zDc;have BY:=H2 zDc ho 16;have X6:=A8 zDc _ BY;rw[jE,show cz (ky (ji xs ys 16) 16)=AE xs ys from rfl]at X6;have hf:=LA (K:=2251799813685248) (V:=AE xs ys) zOm zOm;refine El.mkrep (K:=2) ?_ ?_ zDc ?_
 ·omega
 ·omega
 ·rw[Fu,Sa hx.1 hy.1,Int.mul_emod,hx.2.2.2,hy.2.2.2,←Int.mul_emod]
theorem El.of {n:Nat} (hn:n<256^32):El n (dQ n):=by
 have h2:((256^32:Nat):Int)=65536^16:=zDc;exact El.mkrep (K:=1) zOm zOm zDc rfl
theorem El.cong {m n:Int} {xs:List Int} (h:El m xs) (e:m%pN=n%pN):El n xs:=⟨h.1,h.2.1,h.2.2.1,by rw[h.2.2.2,e]⟩
theorem El.len {n:Int} {xs:List Int} (h:El n xs):(el xs).length=16:=by rw[eI,h.1]
theorem V5 {a b:Int} {xs ys:List Int} (hx:El a xs) (hy:El b ys) (w:World):
 CB 112 #[.agg (el xs).toArray,.agg (el ys).toArray] w (.agg (el (UI xs ys)).toArray):=
 SF xs ys hx.1 hy.1 (hx.2.1.mono zDc) (hy.2.1.mono zDc) w
theorem Wq {a b:Int} {xs ys:List Int} (hx:El a xs) (hy:El b ys) (w:World):
 CB 113 #[.agg (el xs).toArray,.agg (el ys).toArray] w (.agg (el (WU xs ys)).toArray):=
 Td xs ys hx.1 hy.1 (hx.2.1.mono zDc) (hy.2.1.mono zDc) w
theorem A0 {a b:Int} {xs ys:List Int} (hx:El a xs) (hy:El b ys) (w:World):
 CB 105 #[.agg (el xs).toArray,.agg (el ys).toArray] w (.agg (el (wV xs ys)).toArray):=
 SN xs ys hx.1 hy.1 hx.2.1 hy.2.1 w
theorem rm {n:Int} {xs:List Int} {r:Nat} (hx:El n xs) (hr:n%pN=r) (w:World):
 CB 104 #[.agg (el xs).toArray] w (.agg (ay r).toArray):=by
 have:=S6 xs hx.1 (hx.2.1.mono zDc) w;rw[hx.2.2.2,hr,Int.toNat_natCast]at this;exact this
theorem TT (a b:Nat):((a:Int)-(b:Int))%pN=((a%pN+pN-b%pN)%pN:Nat):=by
 have hb:=zA1 b aX;rw[Int.natCast_emod,Int.ofNat_sub zOm,Int.natCast_add,Int.natCast_emod,Int.natCast_emod];have h1:=Int.mul_ediv_add_emod (a:Int) pN;have h2:=Int.mul_ediv_add_emod (b:Int) pN;have e:(a:Int)-b=((a:Int)%pN+pN-(b:Int)%pN)+pN*((a:Int)/pN-(b:Int)/pN-1):=by
  rw[Int.mul_sub,Int.mul_sub,Int.mul_one];omega
 rw[e,Int.add_mul_emod_self_left]
theorem SE {a r:Nat} (hr:Hid (a%pN=r)) (ha:a<256^32) (w:World):
 CB 154 #[.agg (ay a).toArray] w (.agg (ay r).toArray):=by
 have c0:=zH (fun w=>Gf a ha w);have c1:=zH (fun w=>rm (r:=r) (El.of ha) (by rw[←hr.out,Int.natCast_emod]) w);clear hr;go_enter Tryz.func154,Tryz.ntmps154;go_upto_region 1 with fail
 refine be (fun W aB k1 k2 kb=>?_);have k2:Arr W (w.heap.size+1) (ay 0):=k2;go_wp2_with(first|refine aR ?_|refine aU ?_);refine zQ (c0.out _) fun mU dG=>?_;have k2:=k2.below dG;have kb:=az kb dG;clear dG;go_wp2_with(first|refine aR ?_|refine aU ?_);refine zQ (c1.out _) fun i8 dA=>?_;have k2:=k2.below dA;have kb:=az kb dA;clear dA;go_wp2_with(first|refine aR ?_|refine aU ?_);exact bodyPost_ret (aj Tryz.results154 _ _ _ rfl zKr _ zaE zLn) rfl ⟨rfl,ah kb zOm _⟩
theorem nM (x:Nat) (hx:x<256):bits .and .u8 (x:Int) 1=((x%2:Nat):Int):=by
 have h1:(BitVec.ofInt 8 (x:Int)).toNat=x:=by
  exact zeS
 have h2:(BitVec.ofInt 8 1).toNat=1:=rfl;show IntKind.u8.wrap ((BitVec.ofInt 8 (x:Int) &&&BitVec.ofInt 8 1).toNat:Int)=_
 rw[BitVec.toNat_and,h1,h2,Nat.and_one_is_mod];exact ze4
def oR (xs:List Int) (e:Nat):Nat→List Int
 |0=>1::List.replicate 15 0
 |m+1=>if e/2^(255-m)%2=1 then wV (wV (oR xs e m) (oR xs e m)) xs else wV (oR xs e m) (oR xs e m)
theorem El.one:El 1 (1::List.replicate 15 0):=by
 refine⟨by simp,?_,by decide,by decide⟩;intro x hx;rcases List.mem_cons.1 hx with rfl|h
 ·decide
 ·rw[List.mem_replicate]at h;omega
theorem El.pow {a:Int} {xs:List Int} (hx:El a xs) (e:Nat) (he:e<2^256):∀m,m≤256→El (a^(e/2^(256-m))) (oR xs e m)
 |0,_=>by rw[zA32 he,Int.pow_zero];exact El.one
 |m+1,h=>by
  have ih:=El.pow hx e he m zOm;have e1:e/2^(256-m)=e/2^(255-m)/2:=(by rw[show 256-m=(255-m)+1 by omega,zA24,zA22]);rw[show 256-(m+1)=255-m by omega,oR];rw[e1]at ih;generalize e/2^(255-m)=u at*;have e2:∀k:Nat,a^k*a^k=a^(2*k):=fun k=>by rw[←Int.pow_add,Nat.two_mul]
  split
  ·have h1:=(ih.mul ih).mul hx;rw[e2,←Int.pow_succ,show(2*(u/2)).succ=u by omega]at h1;exact h1
  ·have h1:=ih.mul ih;rw[e2,show 2*(u/2)=u by omega]at h1;exact h1
theorem Ou (xs:List Int) (e m t:Nat) (hm:m≤255) (ht:e/2^m%2=t):oR xs e (256-m)=if t=1 then wV (wV (oR xs e (255-m)) (oR xs e (255-m))) xs else wV (oR xs e (255-m)) (oR xs e (255-m)):=by
 rw[show 256-m=(255-m)+1 by omega,oR,show 255-(255-m)=m by omega,ht]
theorem sc (n k:Nat):n/256^(k/8)%256/2^(k%8)%2=n/2^k%2:=by
 have hr:k%8<8:=zA1 _ zDc;have hk:k=8*(k/8)+k%8:=zOm;have e1:(256:Nat)^(k/8)=2^(8*(k/8)):=zae;have e2:(2:Nat)^k=256^(k/8)*2^(k%8):=(by rw[e1,←Nat.pow_add,←hk]);rw[e2,←zA22];generalize n/256^(k/8)=x;have h8:k%8=0∨k%8=1∨k%8=2∨k%8=3∨k%8=4∨k%8=5∨k%8=6∨k%8=7:=zOm;rcases h8 with h|h|h|h|h|h|h|h<;>rw[h]<;>omega
theorem Wm {a:Int} {xs:List Int} (hx:El a xs) (x:Nat) (adZ:x<256^32) (w:World):
 CB 159 #[.agg (el xs).toArray,.agg (ay x).toArray] w (.agg (el (oR xs x 256)).toArray):=by
 have hE:=El.pow hx x (zA3 adZ zDc);have c0:=zH (fun w=>CY 1 w);have LZ:=zH hx.len;obtain⟨R,hR⟩:∃R,∀n,n=256→oR xs x n=R:=⟨oR xs x 256,by rintro n rfl;rfl⟩;rw[hR 256 rfl];replace hE:=zH hE;replace hR:=zH hR;go_enter Tryz.func159,Tryz.ntmps159;go_upto_region 1 with fail
 refine bZ (fun W aB k1 k2 k3 kb=>?_);have k3:Arr W (w.heap.size+1+1) (el (List.replicate 16 0)):=k3;clear aB;go_upto_region 1 with(first|refine aR ?_|refine aU ?_)
 go_wp2_with(first|refine aR ?_|refine aU ?_);refine zQ (c0.out _) fun mU dG=>?_;obtain⟨k1,k2,k3⟩:=dZ k1 k2 k3 dG;have kb:=az kb dG;clear dG;go_upto_region 2 with(first|refine aR ?_|refine aU ?_)
 obtain⟨QC,fD,lj⟩:=GD k1 k2 k3;refine aK (fun i8 k5 aA=>?_);obtain⟨k1,k2,k3⟩:=dZ k1 k2 k3 aA;have kb:=az kb aA;clear aA;generalize (mU).heap.size=tZ at k5 QC fD lj⊢;have k5:Arr i8 tZ (el (oR xs x (256-256))):=k5;clear c0;go_wp2_with fail;go_loopw[6] (fun kv wr=>∃j:Nat,j≤256∧kv=.int .i64 ((j:Int)-1)∧Arr wr w.heap.size (el xs)∧Arr wr (w.heap.size+1) (ay x)∧Arr wr (w.heap.size+1+1) (el (List.replicate 16 0))∧Arr wr tZ (el (oR xs x (256-j)))∧Below w.heap.size w wr) (fun kv _=>(intOf kv+1).toNat)
 case atStart=>exact⟨256,zA0 _,rfl,k1,k2,k3,k5,kb⟩
 case round=>
  clear k1 k2 k3 k5 kb;obtain⟨j,hj,rfl,k1,k2,k3,k5,kb⟩:=hrel;rcases Nat.eq_zero_or_pos j with rfl|uz
  ·have e:((0:Nat):Int)-1= -1:=rfl;rw[e];rw[hR.out (256-0) rfl]at k5;have hlR:(el R).length=16:=by
    have:=(hE.out 256 (zA0 _)).len;rwa[hR.out 256 rfl]at this
   clear hE hR e;replace hlR:=zH hlR;go_wp2_with(first|(refine ab rfl _ _ rfl _ rfl zKr _ k5 zcx ?_)|(refine aQ rfl _ _ _ rfl _ _ rfl rfl _ k3 zcx (by rw[eI,hlR.out];rfl) (qG _) ?_));exact bodyPost_ret (aj Tryz.results159 _ _ _ rfl zKr _ (k3.setRow _) zcx) rfl ⟨rfl,ah kb zOm _⟩
  ·obtain⟨m,rfl⟩:∃m,j=m+1:=⟨j-1,by omega⟩;have e:((m+1:Nat):Int)-1=(m:Int):=zOm;rw[e];clear e;obtain⟨t,ht⟩:=zX (x/2^m%2);have AQ:t<2:=zOm;have fA:=Ou xs x m t zOm ht;have hEq:=hE.out (255-m) zOm;have hmr:256-(m+1)=255-m:=zOm;rw[hmr]at k5;obtain⟨Q,hQ⟩:=zX (oR xs x (255-m));rw[hQ]at fA hEq k5;have kK:=sc x m;rw[ht]at kK;obtain⟨b,hb⟩:=zX (x/256^(m/8)%256);have fP:b<256:=hb▸zA1 _ zDc;rw[hb]at kK;have gb:=bH x (m/8) zOm;rw[hb]at gb;have mJ:bits BinOp.and IntKind.u8 ((b:Int)/2^(m%8)) 1=(t:Int):=by
    exact zeY
   have c1:=zH (fun w=>A0 hEq hEq w);have c2:=zH (fun w=>A0 (hEq.mul hEq) hx w);have hlQ:=hEq.len;have JI:=(hEq.mul hEq).len;have QO:=((hEq.mul hEq).mul hx).len;have im0:(0:Int)≤(m:Int)/8:=zOm;have im1:(m:Int)/8<32:=zOm;have im3:((m:Int)/8).toNat=m/8:=zOm;have im6:(0:Int)≤(m:Int)%8:=zOm;have im8:(m:Int)%8<8:=zOm;have im7:((m:Int)%8).toNat=m%8:=zOm;have kQ:t=1→oR xs x (256-m)=wV (wV Q Q) xs:=fun h=>by rw[fA,if_pos h]
   have xO:t≠1→oR xs x (256-m)=wV Q Q:=fun h=>by rw[fA,if_neg h]
   generalize wV (wV Q Q) xs=Q3 at c2 QO kQ;generalize wV Q Q=Q2 at c1 c2 JI xO;replace fA:=zH fA;replace kQ:=zH kQ;replace xO:=zH xO;replace hQ:=zH hQ;replace hb:=zH hb;replace hlQ:=zH hlQ;replace JI:=zH JI;replace QO:=zH QO;clear kK hmr ht;go_wp2_with(refine ab rfl _ _ rfl _ rfl zKr _ k5 (by rw[hlQ.out];kernel_rfl) ?_);refine zQ (c1.out _) fun jF dc=>?_;obtain⟨k1,k2,k3,k5⟩:=kJ k1 k2 k3 k5 dc;have kb:=az kb dc;clear dc;go_upto_region 6 with(refine aQ rfl _ _ _ rfl _ _ rfl rfl _ k5 (by rw[JI.out];kernel_rfl) (by rw[hlQ.out,JI.out]) (qG _) ?_)
   refine ci k5 (fun pJ k5 ad ak=>?_);obtain⟨k1,k2,k3⟩:=Dz ad k1 k2 k3;have kb:=ak _ _ zOm kb;clear ad ak;have bo:=k2.cell gb;replace gb:=zH gb
   by_cases h1:t=1
   ·have agi:=zH (kQ.out h1);subst h1;go_wp2_with(first|(refine ab rfl _ _ rfl _ rfl zKr _ k5 (by rw[JI.out];kernel_rfl) ?_)|(refine ab rfl _ _ rfl _ rfl zKr _ k1 (by rw[LZ.out];kernel_rfl) ?_));refine zQ (c2.out _) fun m9 gH=>?_;obtain⟨k1,k2,k3,k5⟩:=kJ k1 k2 k3 k5 gH;have kb:=az kb gH;clear gH;go_wp2_with(refine aQ rfl _ _ _ rfl _ _ rfl rfl _ k5 (by rw[QO.out];kernel_rfl) (by rw[JI.out,QO.out]) (qG _) ?_);refine⟨⟨m,by omega,by go_num,k1.row_other zOm _,k2.row_other zOm _,k3.row_other zOm _,?_,ah kb zOm _⟩,by simp[intOf]⟩;rw[agi.out];exact k5.setRow _
   ·have agh:=zH (xO.out h1);obtain rfl:t=0:=zOm;go_wp2_with fail;refine⟨⟨m,by omega,by go_num,k1,k2,k3,?_,kb⟩,by simp[intOf]⟩;rw[agh.out];exact k5
theorem OJ (n:Nat) (hn:n≤255) (h1:1≤n) (w:World):
 CB 160 #[.int .i64 n] w (.agg (ay (2^255-n)).toArray):=by
 have s1:(ay (256^32-1)).set 31 (.int .u8 127)=ay (2^255-1):=eF (v:=127) zDc zDc zDc zDc;have s2:(ay (2^255-1)).set 0 (.int .u8 ((256-n:Nat):Int))=ay (2^255-n):=eF (v:=256-n) zDc zDc zOm (by
  have:(2^255-1)/256^0%256=255:=zDc;rw[this];omega)
 have e1:(256:Int)-(n:Int)=((256-n:Nat):Int):=zOm;have hl:256-n<256:=zOm;obtain⟨v,hv⟩:=zX (256-n);rw[hv]at e1 s2 hl;obtain⟨R,hR⟩:=zX (2^255-n);rw[hR]at s2⊢;replace e1:=zH e1;replace s1:=zH s1;replace s2:=zH s2;clear hR hv;go_enter Tryz.func160,Tryz.ntmps160;go_upto_region 1 with fail
 refine aH (fun W aB k1 kb=>?_);have k1:Arr W w.heap.size (ay 0):=k1;have lt1:=k1.lt;clear aB;go_upto_region 2 with fail
 refine aH (fun w9 ie k2 fO=>?_);have k1:=k1.below fO;have kb:=az kb fO;generalize W.heap.size=g at k2 lt1⊢;have k2:Arr w9 g (ay (256^0-1)):=k2;clear ie fO;go_wp2_with fail;go_loopw[4] (fun kv wr=>∃k:Nat,k≤32∧kv=.int .i64 k∧Arr wr w.heap.size (ay 0)∧Arr wr g (ay (256^k-1))∧Below w.heap.size w wr) (fun kv _=>32-(intOf kv).toNat)
 case atStart=>exact⟨0,zA28 _,rfl,k1,k2,kb⟩
 case round=>
  clear k1 k2 kb;obtain⟨k,hk,rfl,k1,k2,kb⟩:=hrel
  by_cases bK:k<32
  ·exact zdY
  obtain rfl:k=32:=zOm;have cZ:=k2.cell (bH _ 31 zDc);have oZ:=k2.frozen 31;go_upto_region 7 with fail
  refine ck k2 (fun w6 k2 ad ak=>?_);rw[s1.out]at k2;have k1:=ad _ _ zOm k1;have kb:=ak _ _ zOm kb;clear ad ak cZ oZ;have cZ:=k2.cell (bH _ 0 zDc);have oZ:=k2.frozen 0;go_upto_region 8 with fail
  rw[e1.out];refine ck k2 (fun w6 k2 ad ak=>?_);have k1:=ad _ _ zOm k1;have kb:=ak _ _ zOm kb;try rw[show((v:Int))%256=(v:Int) by omega]at k2
  rw[s2.out]at k2;clear ad ak cZ oZ;go_wp2_with(first|refine aR ?_|refine aU ?_);exact bodyPost_ret (aj Tryz.results160 _ _ _ rfl zKr _ zaE zLn) rfl ⟨rfl,ah kb zOm _⟩
theorem aaA:2^255-21=pN-2:=by decide
def wW (U V:Int):Int:=fv (AE (dQ U) (dQ V))
def ug (U:Int) (e:Nat):Nat→Int
 |0=>1
 |m+1=>if e/2^(255-m)%2=1 then wW (wW (ug U e m) (ug U e m)) U else wW (ug U e m) (ug U e m)
theorem AY:dQ 1=1::List.replicate 15 0:=by decide
theorem CI (U:Int) (e:Nat):∀m,oR (dQ U) e m=dQ (ug U e m)
 |0=>AY.symm
 |m+1=>by
  rw[oR,ug,CI U e m];split<;>rfl
def EU (n U:Int):Prop:=El n (dQ U)
theorem EU.add {a b U V:Int} (hx:EU a U) (hy:EU b V):EU (a+b) (fv U+fv V):=by
 have:=El.add hx hy;rw[UI,jf,jf]at this;exact this
theorem EU.sub {a b U V:Int} (hx:EU a U) (hy:EU b V):EU (a-b) (fv U-fv V):=by
 have:=El.sub hx hy;rw[WU,jf,jf]at this;exact this
theorem EU.mul {a b U V:Int} (hx:EU a U) (hy:EU b V):EU (a*b) (wW U V):=El.mul hx hy
theorem EU.of {n:Nat} (hn:n<256^32):EU n n:=El.of hn
theorem EU.pow {a U:Int} (hx:EU a U) {e:Nat} (he:e<256^32):EU (a^e) (ug U e 256):=by
 have:=El.pow hx e (zA3 he zDc) 256 (zA0 _);rw[CI,show 256-256=0 from rfl,Nat.pow_zero,Nat.div_one]at this;exact this
theorem ki {a b U V R:Int} (hx:EU a U) (hy:EU b V) (hR:Hid (fv U+fv V=R)) (w:World):
 CB 112 #[.agg (el (dQ U)).toArray,.agg (el (dQ V)).toArray] w (.agg (el (dQ R)).toArray):=by
 have:=V5 hx hy w;rw[UI,jf,jf,hR.out]at this;exact this
theorem lF {a b U V R:Int} (hx:EU a U) (hy:EU b V) (hR:Hid (fv U-fv V=R)) (w:World):
 CB 113 #[.agg (el (dQ U)).toArray,.agg (el (dQ V)).toArray] w (.agg (el (dQ R)).toArray):=by
 have:=Wq hx hy w;rw[WU,jf,jf,hR.out]at this;exact this
theorem dh {a b U V R:Int} (hx:EU a U) (hy:EU b V) (hR:Hid (wW U V=R)) (w:World):
 CB 105 #[.agg (el (dQ U)).toArray,.agg (el (dQ V)).toArray] w (.agg (el (dQ R)).toArray):=by
 rw[←hR.out];exact A0 hx hy w
theorem S9 {a U R:Int} {x:Nat} (hx:EU a U) (he:x<256^32) (hR:Hid (ug U x 256=R)) (w:World):
 CB 159 #[.agg (el (dQ U)).toArray,.agg (ay x).toArray] w (.agg (el (dQ R)).toArray):=by
 have:=Wm hx x he w;rw[CI,hR.out]at this;exact this
theorem Gh (w:World):
 CB 108 #[.int .i64 1] w (.agg (el (dQ 1)).toArray):=by
 rw[AY];exact CY 1 w
theorem Ks {a U R:Int} (hx:EU a U) (hR:Hid (ug U (pN-2) 256=R)) (w:World):
 CB 103 #[.agg (el (dQ U)).toArray] w (.agg (el (dQ R)).toArray):=by
 have c0:=fun w=>OJ 21 zDc zDc w;rw[aaA]at c0;have c1:=fun w=>S9 hx zDc hR w;obtain⟨E,hE⟩:=zX (pN-2);rw[hE]at c0 c1;replace c0:=zH c0;replace c1:=zH c1;clear hE hR;go_enter Tryz.func103,Tryz.ntmps103;go_upto_region 1 with fail
 refine be (fun W aB k1 k2 kb=>?_);have k2:Arr W (w.heap.size+1) (el (dQ 0)):=k2;clear aB;go_upto_region 1 with(first|refine aR ?_|refine aU ?_)
 refine cH 3 4 fun dV=>?_;refine dz ?_ 3 1 zaL [0] (fun w' hB=>by obtain⟨e0,e1⟩:=fZ k1 k2 hB;exact zRd) ?_;refine eg 1 3 dV c0.out fun uG iB=>?_;refine eg 2 7 iB c1.out fun rY kV=>?_;obtain⟨k1,k2⟩:=fZ k1 k2 kV;have kb:=az kb kV;refine kO 15 ?_;refine ap zKr ?_;refine aV k2 (fun xF k2 ad ak=>?_);have k1:=ad _ _ zOm k1;have kb:=ak _ _ zOm kb;clear ad ak;go_wp2_with(first|refine aR ?_|refine aU ?_);exact bodyPost_ret (aj Tryz.results103 _ _ _ rfl zKr _ zaE zLn) rfl ⟨rfl,kb⟩
theorem EU.cong {m n U:Int} (h:EU m U) (e:m%pN=n%pN):EU n U:=El.cong h e
theorem EU.addN {a b:Nat} {U V R:Int} (hx:EU a U) (hy:EU b V) (hR:Hid (fv U+fv V=R)):EU ((a+b)%pN:Nat) R:=by
 rw[←hR.out];exact(EU.add hx hy).cong (by rw[Int.natCast_emod,Int.natCast_add,Int.emod_emod])
theorem EU.subN {a b:Nat} (ha:a<pN) (hb:b<pN) {U V R:Int} (hx:EU a U) (hy:EU b V) (hR:Hid (fv U-fv V=R)):EU ((a+pN-b)%pN:Nat) R:=by
 rw[←hR.out];refine(EU.sub hx hy).cong ?_;have h:=TT a b;rw[zA4 ha,zA4 hb]at h;rw[h,Int.natCast_emod,Int.emod_emod]
theorem EU.mulN {a b:Nat} {U V R:Int} (hx:EU a U) (hy:EU b V) (hR:Hid (wW U V=R)):EU (a*b%pN:Nat) R:=by
 rw[←hR.out];exact(EU.mul hx hy).cong zcz
theorem EU.addX {a b:Nat} {U V:Int} (hx:EU a U) (hy:EU b V):∃R,Hid (fv U+fv V=R)∧EU ((a+b)%pN:Nat) R:=⟨_,zH rfl,EU.addN hx hy (zH rfl)⟩
theorem EU.subX {a b:Nat} (ha:a<pN) (hb:b<pN) {U V:Int} (hx:EU a U) (hy:EU b V):∃R,Hid (fv U-fv V=R)∧EU ((a+pN-b)%pN:Nat) R:=⟨_,zH rfl,EU.subN ha hb hx hy (zH rfl)⟩
theorem EU.mulX {a b:Nat} {U V:Int} (hx:EU a U) (hy:EU b V):∃R,Hid (wW U V=R)∧EU (a*b%pN:Nat) R:=⟨_,zH rfl,EU.mulN hx hy (zH rfl)⟩
theorem jD (n:Nat):n%pN<pN:=zA1 _ aX
theorem El.small {n:Nat} (hn:n<262144):El n ((n:Int)::List.replicate 15 0):=by
 refine⟨by simp,?_,?_,?_⟩
 ·intro x hx;rcases List.mem_cons.1 hx with rfl|h
  ·exact zex
  ·rw[List.mem_replicate]at h;omega
 all_goals
  have e:cz ((n:Int)::List.replicate 15 0)=n:=by
   rw[cz,show cz (List.replicate 15 0)=0 by decide];omega
  rw[e]
 omega
theorem C9 {b:Nat} {V:Int} (hy:EU b V):∃R,(∀w,CB 105 #[.agg (el ((121665:Int)::List.replicate 15 0)).toArray,.agg (el (dQ V)).toArray] w (.agg (el (dQ R)).toArray))∧EU (121665*b%pN:Nat) R:=by
 have h1:=El.small (n:=121665) zDc;refine⟨fv (AE ((121665:Int)::List.replicate 15 0) (dQ V)),fun w=>A0 h1 hy w,?_⟩;have h2:=El.mul h1 hy;exact El.cong h2 zcz
theorem CO (k:Nat) (hk:k<256^32) (w:World):
 CB 102 #[.agg (ay k).toArray] w (.agg (ay (dD k)).toArray):=by
 obtain⟨d0,DK⟩:=zX (k/256^0%256);have l0:d0<256:=DK▸zA1 _ zDc;have a0:=Lh d0 l0;have e0:k-k%8=k-d0+(d0-d0%8):=(by rw[←DK];omega);obtain⟨k1,QL⟩:=zX (k-k%8);have s0:(ay k).set 0 (.int .u8 ((d0-d0%8:Nat):Int))=ay k1:=eF zDc hk zOm (by rw[DK,←QL,e0];omega);have QM:k1<256^32:=zOm;obtain⟨d31,qS⟩:=zX (k1/256^31%256);have l31:d31<256:=qS▸zA1 _ zDc;have a1:=tw d31 l31;have a2:bits .or .u8 ((d31:Int)%128) 64=((d31%128%64+64:Nat):Int):=by
  exact zfl
 have hc:dD k=k1%2^254+2^254:=(by rw[dD,QL]);have s1:(ay k1).set 31 (.int .u8 ((d31%128%64+64:Nat):Int))=ay (dD k):=eF zDc QM zOm (by
  rw[qS,hc];have:k1/256^31=d31:=zOm;omega)
 rw[show(((d31%128%64+64:Nat):Int))=(d31:Int)%64+64 by omega]at s1 a2;generalize dD k=R at s1⊢;have g0:=bH k 0 zDc;have g1:=bH k1 31 zDc;rw[DK]at g0;rw[qS]at g1;replace s0:=zH s0;replace s1:=zH s1;replace g1:=zH g1;clear hk DK e0 QL QM qS hc;go_enter Tryz.func102,Tryz.ntmps102;go_upto_region 1 with fail
 refine be (fun W aB k1 k2 kb=>?_);have k2:Arr W (w.heap.size+1) (ay 0):=k2;have bo:=k1.cell g0;have bT:=k1.frozen 0;clear g0;go_upto_region 2 with fail
 refine ck k1 (fun mU k1 ad ak=>?_);have k2:=ad _ _ zOm k2;have kb:=ak _ _ zOm kb;clear ad ak;rw[s0.out]at k1;clear bo bT a0;have bo:=k1.cell g1.out;have bT:=k1.frozen 31;go_upto_region 3 with fail
 refine ck k1 (fun i8 k1 ad ak=>?_);have k2:=ad _ _ zOm k2;have kb:=ak _ _ zOm kb;clear ad ak;rw[s1.out]at k1;clear bo bT a1 a2;go_wp2_with(first|refine aR ?_|refine aU ?_);exact bodyPost_ret (aj Tryz.results102 _ _ _ rfl zKr _ zaE zLn) rfl ⟨rfl,ah kb zOm _⟩
theorem Ih (w:World):CB 190 #[] w (.agg (ay eN).toArray):=by
 have s1:(ay (256^32-1)).set 0 (.int .u8 254)=ay (256^32-2):=eF (v:=254) zDc zDc zDc zDc;have s2:(ay (256^32-2)).set 31 (.int .u8 15)=ay eN:=eF (v:=15) zDc zDc zDc zDc;replace s1:=zH s1;replace s2:=zH s2;go_enter Tryz.func190,Tryz.ntmps190;go_upto_region 1 with fail
 refine aH (fun W aB k1 kb=>?_);have k1:Arr W w.heap.size (ay 0):=k1;have lt1:=k1.lt;clear aB;go_upto_region 2 with fail
 refine aH (fun w9 ie k2 fO=>?_);have k1:=k1.below fO;have kb:=az kb fO;generalize W.heap.size=g at k2 lt1⊢;have k2:Arr w9 g (ay (256^0-1)):=k2;clear ie fO;go_wp2_with fail;go_loopw[2] (fun kv wr=>∃k:Nat,k≤32∧kv=.int .i64 k∧Arr wr w.heap.size (ay 0)∧Arr wr g (ay (256^k-1))∧Below w.heap.size w wr) (fun kv _=>32-(intOf kv).toNat)
 case atStart=>exact⟨0,zA28 _,rfl,k1,k2,kb⟩
 case round=>
  clear k1 k2 kb;obtain⟨k,hk,rfl,k1,k2,kb⟩:=hrel
  by_cases bK:k<32
  ·exact zdY
  obtain rfl:k=32:=zOm;have cZ:=k2.cell (bH _ 0 zDc);have oZ:=k2.frozen 0;go_upto_region 7 with fail
  refine ck k2 (fun mU k2 ad ak=>?_);have k1:=ad _ _ zOm k1;have kb:=ak _ _ zOm kb;clear ad ak;rw[s1.out]at k2;clear cZ oZ;have cZ:=k2.cell (bH _ 31 zDc);have oZ:=k2.frozen 31;go_upto_region 8 with fail
  refine ck k2 (fun i8 k2 ad ak=>?_);have k1:=ad _ _ zOm k1;have kb:=ak _ _ zOm kb;clear ad ak;rw[s2.out]at k2;clear cZ oZ;go_wp2_with(first|refine aR ?_|refine aU ?_);exact bodyPost_ret (aj Tryz.results190 _ _ _ rfl zKr _ zaE zLn) rfl ⟨rfl,ah kb zOm _⟩
theorem MB {a b:Nat} {U V:Int} (hx:EU a U) (hy:EU b V) (ha:a<pN) (hb:b<pN) (w:World):
 CB 191 #[.agg (el (dQ U)).toArray,.agg (el (dQ V)).toArray] w (.bool (decide (a=b))):=by
 have c1:=zH (fun w=>rm (r:=a) hx (by rw[←Int.natCast_emod,zA4 ha]) w);have c2:=zH (fun w=>rm (r:=b) hy (by rw[←Int.natCast_emod,zA4 hb]) w);have hp:pN<256^32:=zDc;have q:=zH (wu a b (zA25 ha hp) (zA25 hb hp));clear hx hy ha hb hp;go_enter Tryz.func191,Tryz.ntmps191;go_upto_region 1 with fail
 refine be (fun W aB k2 k3 kb=>?_);clear aB;go_upto_region 1 with(first|refine aR ?_|refine aU ?_)
 refine cH 9999 6 fun bB=>?_;refine dz ?_ 4 5 zaI [0,2] (fun w' hB=>by obtain⟨e0,e1⟩:=fZ k2 k3 hB;exact zRd) ?_;refine eg 1 7 bB c1.out fun pJ b9=>?_;refine eg 3 15 b9 c2.out fun m9 di=>?_;refine dz ?_ 0 63 zaK [4,5] (fun w' hB=>by have eqf1:=q.out w';exact zRd) ?_;refine ap zKr ?_;obtain⟨k2,k3⟩:=fZ k2 k3 di;have kb:=az kb di;clear di;exact zc4
def rtU (U:Int) (a:Nat):Int:=let X:=ug U eN 256;if a^eN%pN*(a^eN%pN)%pN=a then X else wW X iN
theorem Tf {a:Nat} {U:Int} (hx:EU a U):EU (Nt.rtx pN eN iN a) (rtU U a):=by
 have h1:EU (a^eN%pN:Nat) (ug U eN 256):=El.cong (EU.pow hx (e:=eN) zDc) zcA;unfold rtU Nt.rtx
 dsimp only
 split
 ·exact h1
 ·exact El.cong (EU.mul h1 (EU.of (n:=iN) zDc)) (by rw[Int.natCast_emod (_*_),Int.natCast_mul,Int.emod_emod])
theorem Wp {a:Nat} {U R:Int} {B:Bool} (hx:EU a U) (ha:a<pN) (hR:Hid (rtU U a=R)) (hB:Hid (Nt.rtok pN eN iN a=B)) (w:World) (kG:Arr w 6 (el (dQ iN))):
 CB 155 #[.agg (el (dQ U)).toArray] w (.tuple #[.agg (el (dQ R)).toArray,.bool B]):=by
 have hG1:=kG.lt;obtain⟨x0,uB⟩:=zX (a^eN%pN);obtain⟨X0,hX0⟩:=zX (ug U eN 256);have JZ:EU x0 X0:=(by rw[←uB,←hX0];exact El.cong (EU.pow hx (e:=eN) zDc) zcA);have lx0:x0<pN:=uB▸zA1 _ aX;have ee:=It a;rw[hB.out]at ee;have hRE:=Tf hx;rw[hR.out]at hRE;have Vi:=hR.out;unfold rtU at Vi
 dsimp only at Vi
 rw[hX0,uB]at Vi;obtain⟨s0,xO⟩:=zX (x0*x0%pN);rw[xO]at Vi;have mulE:∀ {a b:Nat} {U V R:Int},EU a U→EU b V→wW U V=R→EU (a*b%pN:Nat) R:=by
  intro a b U V R h1 h2 h3;rw[←h3];exact El.cong (EU.mul h1 h2) zcz
 obtain⟨M0,hM0⟩:=zX (wW X0 X0);have hME:=mulE JZ JZ hM0;rw[xO]at hME;have ls0:s0<pN:=xO▸zA1 _ aX;have c0:=zH (fun w=>Ih w);have c1:=zH (fun w=>S9 hx zDc (zH hX0) w);have c2:=zH (fun w=>dh JZ JZ (zH hM0) w);have c3:=zH (fun w=>MB hME hx ls0 ha w)
 by_cases hs:s0=a
 ·have hrt:Nt.rtx pN eN iN a=x0:=(by unfold Nt.rtx;dsimp only;rw[uB,xO,if_pos hs]);have hBt:B=true:=(by rw[ee,hrt,xO];exact decide_eq_true hs);rw[if_pos hs]at Vi;subst hBt;subst Vi;have No:decide (s0=a)=true:=decide_eq_true hs;replace No:=zH No;clear hs hrt ee hRE uB hX0 hM0 hME ls0 xO mulE lx0 JZ hx ha hR hB;go_enter Tryz.func155,Tryz.ntmps155;go_upto_region 1 with fail
  refine be (fun W aB k1 k2 kb=>?_);have kG:Arr W _ (el (dQ iN)):=kG.below kb;have k2:Arr W (w.heap.size+1) (el (dQ 0)):=k2;clear aB;go_upto_region 1 with(first|refine aR ?_|refine aU ?_)
  refine cH 4 5 fun dV=>?_;refine dz ?_ 4 1 zaL [0] (fun w' hB=>by obtain⟨e0,e1,e2⟩:=dZ k1 k2 kG hB;exact zRd) ?_;refine bG 1 15 [(1,6),(2,7),(3,4)] [(false,[]),(false,[(1,6)]),(false,[])] [(1,Ph.is (.agg (ay eN).toArray)),(2,Ph.is (.agg (el (dQ X0)).toArray)),(3,Ph.arr (W).heap.size (el (List.replicate 16 0)))] zKr zKr zaA ?_ ?_
  ·refine⟨⟨_,rfl,?_⟩,⟨_,rfl,?_⟩,⟨_,rfl,?_⟩,trivial⟩
   ·exact oT c0.out
   ·exact DB c1.out
   ·exact zcV
  intro vs abN BC YO hP hD;obtain⟨q1,q2,q3,-⟩:=hP;simp only[aG,Act.put,zSa,zSz,zSs];rw[show vs 1=_ from q1,show vs 2=_ from q2];clear q1 q2;obtain⟨g3,e3,kZ,U4⟩:=q3;rw[e3];clear e3 hD vs;have RH:=UD k1 k2 kG kZ;obtain⟨k1,k2,kG⟩:=dZ k1 k2 kG BC;have kb:=az kb BC;refine kO 31 ?_;refine ap zKr ?_;refine aV U4 (fun uG U4 ad ak=>?_);obtain⟨k1,k2,kG⟩:=Dz ad k1 k2 kG;have kb:=ak _ _ zOm kb;clear ad ak;have k4:=U4;clear U4;generalize g3=Fv at*;go_upto_region 2 with(first|refine aR ?_|refine aU ?_)
  refine cH 9999 5 fun kV=>?_;refine dz ?_ 2 11 (by exact kV) [0,1,3] (fun w' hB=>by obtain⟨e0,e1,e2,e3⟩:=kJ k1 k2 k4 kG hB;exact zRd) ?_;refine eg 2 15 kV c2.out fun xF hU=>?_;refine eg 4 31 hU c3.out fun kN eT=>?_;refine ap zKr ?_;obtain⟨k1,k2,k4,kG⟩:=kJ k1 k2 k4 kG eT;have kb:=az kb eT;clear eT;rw[No.out];go_wp2_with(first|refine aR ?_|refine aU ?_);exact bodyPost_ret (aT Tryz.results155 _ _ _ _ rfl Tryz.underlying135 rfl _ (k2.setRow _) (by rw[Fp];kernel_rfl) _ rfl) rfl ⟨rfl,ah kb zOm _⟩
 ·have hrt:Nt.rtx pN eN iN a=x0*iN%pN:=(by unfold Nt.rtx;dsimp only;rw[uB,xO,if_neg hs]);rw[if_neg hs]at Vi;rw[hrt]at ee hRE;obtain⟨x1,qU⟩:=zX (x0*iN%pN);rw[qU]at ee hRE;have iE:EU iN iN:=EU.of (n:=iN) zDc;obtain⟨M1,hM1⟩:=zX (wW R R);have hME1:=mulE hRE hRE hM1;have c4:=zH (fun w=>dh JZ iE (zH Vi) w);have c5:=zH (fun w=>dh hRE hRE (zH hM1) w);have c6:=fun w=>MB hME1 hx (zA1 _ aX) ha w;rw[←ee]at c6;replace c6:=zH c6;have No:decide (s0=a)=false:=decide_eq_false hs;replace No:=zH No;clear hs hrt ee hRE uB hX0 hM0 hME ls0 xO mulE lx0 JZ hx ha hR hB Vi qU iE hM1 hME1;go_enter Tryz.func155,Tryz.ntmps155;go_upto_region 1 with fail
  refine be (fun W aB k1 k2 kb=>?_);have kG:Arr W _ (el (dQ iN)):=kG.below kb;have k2:Arr W (w.heap.size+1) (el (dQ 0)):=k2;clear aB;go_upto_region 1 with(first|refine aR ?_|refine aU ?_)
  refine cH 4 5 fun gZ=>?_;refine dz ?_ 4 1 zaG [0] (fun w' hB=>by obtain⟨e0,e1,e2⟩:=dZ k1 k2 kG hB;exact zRd) ?_;refine bG 1 15 [(1,6),(2,7),(3,4)] [(false,[]),(false,[(1,6)]),(false,[])] [(1,Ph.is (.agg (ay eN).toArray)),(2,Ph.is (.agg (el (dQ X0)).toArray)),(3,Ph.arr (W).heap.size (el (List.replicate 16 0)))] zKr zKr zaA ?_ ?_
  ·refine⟨⟨_,rfl,?_⟩,⟨_,rfl,?_⟩,⟨_,rfl,?_⟩,trivial⟩
   ·exact oT c0.out
   ·exact DB c1.out
   ·exact zcV
  intro vs abO BD YP hP hD;obtain⟨q1,q2,q3,-⟩:=hP;simp only[aG,Act.put,zSa,zSz,zSs];rw[show vs 1=_ from q1,show vs 2=_ from q2];clear q1 q2;obtain⟨g3,e3,kZ,U4⟩:=q3;rw[e3];clear e3 hD vs;have RH:=UD k1 k2 kG kZ;obtain⟨k1,k2,kG⟩:=dZ k1 k2 kG BD;have kb:=az kb BD;refine kO 31 ?_;refine ap zKr ?_;refine aV U4 (fun tq U4 ad ak=>?_);obtain⟨k1,k2,kG⟩:=Dz ad k1 k2 kG;have kb:=ak _ _ zOm kb;clear ad ak;have k4:=U4;clear U4;generalize g3=Fv at*;go_upto_region 2 with(first|refine aR ?_|refine aU ?_)
  refine cH 9999 5 fun iU=>?_;refine dz ?_ 2 11 zaN [0,1,3] (fun w' hB=>by obtain⟨e0,e1,e2,e3⟩:=kJ k1 k2 k4 kG hB;exact zRd) ?_;refine eg 2 15 iU c2.out fun rE iV=>?_;refine eg 4 31 iV c3.out fun uj iA=>?_;refine ap zKr ?_;obtain⟨k1,k2,k4,kG⟩:=kJ k1 k2 k4 kG iA;have kb:=az kb iA;clear iA;rw[No.out];go_upto_region 4 with(first|refine aR ?_|refine aU ?_)
  go_wp2_with(first|refine aR ?_|refine aU ?_);refine zQ (c4.out _) fun K6 BK=>?_;obtain⟨k1,k2,k4,kG⟩:=kJ k1 k2 k4 kG BK;have kb:=az kb BK;clear BK;go_upto_region 5 with(first|refine aR ?_|refine aU ?_)
  refine ci k4 (fun zK k4 ad ak=>?_);obtain⟨k1,k2,kG⟩:=Dz ad k1 k2 kG;have kb:=ak _ _ zOm kb;clear ad ak;go_upto_region 5 with(first|refine aR ?_|refine aU ?_)
  refine cH 6 8 fun nR=>?_;refine eZ ?_ 4 23 (by exact nR) [0,1,2,4] (fun w' hB=>by obtain⟨e0,e1,e2,e3⟩:=kJ k1 k2 k4 kG hB;exact zRd) ?_;refine eg 3 31 nR c5.out fun Dn pV=>?_;refine eg 5 63 pV c6.out fun DV ni=>?_;obtain⟨k1,k2,k4,kG⟩:=kJ k1 k2 k4 kG ni;have kb:=az kb ni;refine kO 127 ?_;refine eZ ?_ 0 255 zaC [7] (fun _ _=>zRd) ?_;refine ap zKr ?_
  first|refine aV k2 (fun DW k2 ad ak=>?_)|refine eu k2 (fun DW k2 ad ak=>?_)
  obtain⟨k1,k4,kG⟩:=Dz ad k1 k4 kG;have kb:=ak _ _ zOm kb;clear ad ak;go_wp2_with fail;exact bodyPost_ret (aT Tryz.results155 _ _ _ _ rfl Tryz.underlying135 rfl _ k2 (by rw[Fp];kernel_rfl) _ rfl) rfl ⟨rfl,kb⟩
end Go.Proofs.YtgfkgolafkdjfaaGreatDoor
