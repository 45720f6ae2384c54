/- ModelWrong: part 14 of its proof: lemmas and contracts, each with its conditions in its own statement; the last part holds the law itself. -/
import Derived.Test.YtgfkgolafkdjfaaGreatDoorJv13

set_option maxHeartbeats 8000000
set_option maxRecDepth 100000
namespace Go.Proofs.YtgfkgolafkdjfaaGreatDoor
open Go.RowKit
theorem Lh:∀x:Nat,x<256→bits .and .u8 (x:Int) 248=((x-x%8:Nat):Int):=by decide+kernel
theorem tw:∀x:Nat,x<256→bits .and .u8 (x:Int) 127=((x%128:Nat):Int):=by decide+kernel
theorem Yf:∀x:Nat,x<128→bits .or .u8 (x:Int) 64=((x%64+64:Nat):Int):=by decide+kernel
def dD (k:Nat):Nat:=(k-k%8)%2^254+2^254
theorem Bq (k:Nat):dD k<2^255:=by
 exact zeQ
theorem J3 (k:Nat) (hk:k<256^32) (w:World):
 CB 208 #[.agg (ay k).toArray] w (.agg (ay (dD k)).toArray):=by
 obtain⟨d0,DK⟩:=zX (k/256^0%256);have l0:d0<256:=DK▸zA1 _ zDc;have a0:=Lh d0 l0;have e0:k-k%8=k-d0+(d0-d0%8):=(by rw[←DK];omega);obtain⟨k1,QL⟩:=zX (k-k%8);have s0:(ay k).set 0 (.int .u8 ((d0-d0%8:Nat):Int))=ay k1:=eF zDc hk zOm (by rw[DK,←QL,e0];omega);have QM:k1<256^32:=zOm;obtain⟨d31,qS⟩:=zX (k1/256^31%256);have l31:d31<256:=qS▸zA1 _ zDc;have a1:=tw d31 l31;have a2:bits .or .u8 ((d31:Int)%128) 64=((d31%128%64+64:Nat):Int):=by
  exact zfl
 have hc:dD k=k1%2^254+2^254:=(by rw[dD,QL]);have s1:(ay k1).set 31 (.int .u8 ((d31%128%64+64:Nat):Int))=ay (dD k):=eF zDc QM zOm (by
  rw[qS,hc];have:k1/256^31=d31:=zOm;omega)
 rw[show(((d31%128%64+64:Nat):Int))=(d31:Int)%64+64 by omega]at s1 a2;generalize dD k=R at s1⊢;have g0:=bH k 0 zDc;have g1:=bH k1 31 zDc;rw[DK]at g0;rw[qS]at g1;replace s0:=zH s0;replace s1:=zH s1;replace g1:=zH g1;clear hk DK e0 QL QM qS hc;go_enter Tryz.func208,Tryz.ntmps208;go_upto_region 1 with fail
 refine be (fun W aB k1 k2 kb=>?_);have k2:Arr W (w.heap.size+1) (ay 0):=k2;have bo:=k1.cell g0;have bT:=k1.frozen 0;clear g0;go_upto_region 2 with fail
 refine ck k1 (fun mU k1 ad ak=>?_);have k2:=ad _ _ zOm k2;have kb:=ak _ _ zOm kb;clear ad ak;rw[s0.out]at k1;clear bo bT a0;have bo:=k1.cell g1.out;have bT:=k1.frozen 31;go_upto_region 3 with fail
 refine ck k1 (fun i8 k1 ad ak=>?_);have k2:=ad _ _ zOm k2;have kb:=ak _ _ zOm kb;clear ad ak;rw[s1.out]at k1;clear bo bT a1 a2;go_wp2_with(first|refine aR ?_|refine aU ?_);exact bodyPost_ret (aj Tryz.results208 _ _ _ rfl zKr _ zaE zLn) rfl ⟨rfl,ah kb zOm _⟩
structure St where
 a:Nat
 b:Nat
 c:Nat
 d:Nat
def St.swp (s:Nat) (v:St):St:=if s=1 then⟨v.c,v.d,v.a,v.b⟩else v
def je (x:Nat) (v:St):St:=
 let p:=(v.a+v.b)%pN
 let m:=(v.a+pN-v.b)%pN
 let pp:=p*p%pN
 let mm:=m*m%pN
 let e:=(pp+pN-mm)%pN
 let da:=(v.c+pN-v.d)%pN*p%pN
 let cb:=(v.c+v.d)%pN*m%pN
 let s:=(da+cb)%pN
 let t:=(da+pN-cb)%pN
 ⟨pp*mm%pN,e*((pp+121665*e%pN)%pN)%pN,s*s%pN,x*(t*t%pN)%pN⟩
def kL (x n:Nat):Nat→St
 |0=>⟨1,0,x,1⟩
 |m+1=>(je x ((kL x n m).swp (n/2^(254-m)%2))).swp (n/2^(254-m)%2)
def bD (k u:Nat):Nat:=(kL (u%2^255%pN) (dD k) 255).a*((kL (u%2^255%pN) (dD k) 255).b^(pN-2)%pN)%pN
def St.low (v:St):Prop:=v.a<pN∧v.b<pN∧v.c<pN∧v.d<pN
theorem St.low_swp {v:St} (h:v.low) (s:Nat):(v.swp s).low:=by
 unfold St.swp;split
 ·exact⟨h.2.2.1,h.2.2.2,h.1,h.2.1⟩
 ·exact h
theorem Tz (x:Nat) (v:St):(je x v).low:=⟨zA1 _ aX,zA1 _ aX,zA1 _ aX,zA1 _ aX⟩
theorem FP {x:Nat} (hx:x<pN) (n:Nat):∀m,(kL x n m).low
 |0=>⟨show 1<pN by decide,show 0<pN by decide,hx,show 1<pN by decide⟩
 |_+1=>St.low_swp (Tz _ _) _
theorem WV (v:St) {s t s':Nat} (hs:s≤1) (ht:t≤1) (h:s'=(s+t)%2):(v.swp s).swp s'=v.swp t:=by
 have h1:s=0∨s=1:=zOm;have h2:t=0∨t=1:=zOm;rcases h1 with rfl|rfl<;>rcases h2 with rfl|rfl<;>subst h<;>rfl
theorem IB (v:St) (s:Nat):(v.swp s).swp s=v:=by
 unfold St.swp
 by_cases h:s=1
 ·rw[if_pos h,if_pos h]
 ·rw[if_neg h,if_neg h]
theorem IA (v:St) (s:Nat):v.swp s=⟨ou s v.a v.c,ou s v.b v.d,ou s v.c v.a,ou s v.d v.b⟩:=by
 unfold St.swp ou;split<;>rfl
theorem Xc {s t:Nat} (hs:s≤1) (ht:t≤1):bits .xor .u64 (s:Int) (t:Int)=(((s+t)%2:Nat):Int):=by
 have h1:s=0∨s=1:=zOm;have h2:t=0∨t=1:=zOm;rcases h1 with rfl|rfl<;>rcases h2 with rfl|rfl<;>decide
theorem WS {x:Nat} {v r:St} (hx:x<pN) (hv:v.low) (hr:Hid (je x v=r)) (w:World):
 Calls Tryz.prog 210 #[.agg (aw 4 x).toArray,.agg (aw 4 v.a).toArray,.agg (aw 4 v.b).toArray,.agg (aw 4 v.c).toArray,.agg (aw 4 v.d).toArray] w fun e w'=>
  e=.returned (.tuple #[.agg (aw 4 r.a).toArray,.agg (aw 4 r.b).toArray,.agg (aw 4 r.c).toArray,.agg (aw 4 r.d).toArray])∧Below w.heap.size w w':=by
 rw[←hr.out];exact Ty x v.a v.b v.c v.d hx hv.1 hv.2.1 hv.2.2.1 hv.2.2.2 (zH rfl) (zH rfl) (zH rfl) (zH rfl) (zH rfl) (zH rfl) (zH rfl) (zH rfl) (zH rfl) (zH rfl) (zH rfl)
  (zH rfl) (zH rfl) (zH rfl) (zH rfl) (zH rfl) (zH rfl) (zH rfl) w
theorem zC {a b s r:Nat} (hr:Hid (ou s a b=r)) (hs:s≤1) (w:World):
 CB 209 #[.agg (aw 4 a).toArray,.agg (aw 4 b).toArray,.int .u64 s] w (.agg (aw 4 r).toArray):=by
 rw[←hr.out];exact HF a b s hs w
theorem HI (k u:Nat) (hk:k<256^32) (hu:u<256^32) (w:World):
 CB 173 #[.agg (ay k).toArray,.agg (ay u).toArray] w (.agg (ay (bD k u)).toArray):=by
 have zp:pN<18446744073709551616^4:=zDc;obtain⟨d31,qS⟩:=zX (u/256^31%256);have l31:d31<256:=qS▸zA1 _ zDc;have a1:=tw d31 l31;obtain⟨u1,Pm⟩:=zX (u%2^255);have s1:(ay u).set 31 (.int .u8 ((d31%128:Nat):Int))=ay u1:=eF zDc hu zOm (by
  rw[qS,←Pm];have:u/256^31=d31:=zOm;omega)
 have a1':(((d31%128:Nat):Int))=(d31:Int)%128:=zOm;rw[a1']at s1 a1;have JX:u1<256^32:=zOm;obtain⟨n,hn⟩:=zX (dD k);have Hr:n<256^32:=by
  have:=Bq k;rw[hn]at this;exact zA25 this zDc
 obtain⟨x,hx⟩:=zX (u1%pN);have hxp:x<pN:=hx▸zA1 _ aX;obtain⟨L,hL⟩:∃L:Nat→St,kL x n=L:=⟨_,rfl⟩;have hL0:L 0=⟨1,0,x,1⟩:=(by rw[←hL];rfl);have hLs:∀m,L (m+1)=(je x ((L m).swp (n/2^(254-m)%2))).swp (n/2^(254-m)%2):=fun m=>by rw[←hL];rfl
 have hLl:∀m,(L m).low:=fun m=>by rw[←hL];exact FP hxp n m
 obtain⟨v,hv⟩:∃v,∀m,m=255→L m=v:=⟨L 255,by rintro m rfl;rfl⟩;have DN:v.low:=hv 255 rfl▸hLl 255;obtain⟨i1,ub⟩:=zX (v.b^(pN-2)%pN);obtain⟨r,hr⟩:=zX (v.a*i1%pN);have lO:bD k u=r:=(by rw[bD,hn,Pm,hx,hL,hv 255 rfl,ub,hr]);rw[lO];have c0:=fun w=>J3 k hk w;rw[hn]at c0;have c1:=zH (fun w=>ku n Hr w);have c2:=zH (fun w=>ku u1 JX w);have c3:=fun w=>vF u1 (Ci JX) w;rw[hx]at c3;have c4:=fun w=>ta v.b (zA25 DN.2.1 zp) w;rw[ub]at c4;have c5:=fun w=>fJ v.a i1 (zA25 DN.1 zp) (ub▸Cy _) w;rw[hr]at c5;have c6:=zH (fun w=>qY r w);have g31:=bH u 31 zDc;rw[qS]at g31;replace c0:=zH c0;replace c3:=zH c3;replace c4:=zH c4;replace c5:=zH c5;replace g31:=zH g31;replace s1:=zH s1;replace hL0:=zH hL0;replace hLs:=zH hLs;replace hLl:=zH hLl;replace hv:=zH hv;have aiF:=zH (Ci Hr);clear hr lO ub DN hL hx Hr hn JX a1' Pm qS zp hk hu;go_enter Tryz.func173,Tryz.ntmps173;go_upto_region 1 with fail
 refine bZ (fun W aB k2 k3 k4 kb=>?_);have k4:Arr W (w.heap.size+1+1) (ay 0):=k4;clear aB;go_upto_region 1 with(first|refine aR ?_|refine aU ?_)
 go_wp2_with(first|refine aR ?_|refine aU ?_);refine zQ (c0.out _) fun jF dc=>?_;obtain⟨k2,k3,k4⟩:=dZ k2 k3 k4 dc;have kb:=az kb dc;clear dc;go_wp2_with(first|refine aR ?_|refine aU ?_);refine zQ (c1.out _) fun pJ fG=>?_;obtain⟨k2,k3,k4⟩:=dZ k2 k3 k4 fG;have kb:=az kb fG;clear fG;go_upto_region 2 with(first|refine aR ?_|refine aU ?_)
 obtain⟨fD,lj,iL⟩:=GD k2 k3 k4;refine aK (fun m9 k5 aA=>?_);obtain⟨k2,k3,k4⟩:=dZ k2 k3 k4 aA;have kb:=az kb aA;clear aA;generalize (pJ).heap.size=tZ at k5 fD lj iL⊢;have bo:=k3.cell g31.out;have bT:=k3.frozen 31;go_upto_region 3 with fail
 refine ck k3 (fun qD k3 ad ak=>?_);obtain⟨k2,k4,k5⟩:=Dz ad k2 k4 k5;have kb:=ak _ _ zOm kb;clear ad ak;rw[s1.out]at k3;clear bo bT a1 k2;go_upto_region 3 with(first|refine aR ?_|refine aU ?_)
 go_wp2_with(first|refine aR ?_|refine aU ?_);refine zQ (c2.out _) fun uG iz=>?_;obtain⟨k3,k4,k5⟩:=dZ k3 k4 k5 iz;have kb:=az kb iz;clear iz;go_wp2_with(first|refine aR ?_|refine aU ?_);refine zQ (c3.out _) fun rY nW=>?_;obtain⟨k3,k4,k5⟩:=dZ k3 k4 k5 nW;have kb:=az kb nW;clear nW;go_upto_region 4 with(first|refine aR ?_|refine aU ?_)
 obtain⟨ll,iM,jq⟩:=GD k3 k4 k5;refine aK (fun xF k6 aA=>?_);obtain⟨k3,k4,k5⟩:=dZ k3 k4 k5 aA;have kb:=az kb aA;clear aA;generalize (rY).heap.size=t9 at k6 ll iM jq⊢;go_upto_region 4 with(first|refine aR ?_|refine aU ?_)
 refine cH 11 12 fun eT=>?_;refine eZ ?_ 8 15 (by exact eT) [0,1,2,3] (fun w' hB=>by obtain⟨e0,e1,e2⟩:=dZ k4 k5 k6 hB;exact zRd) ?_;refine bG 4 255 [(4,7),(5,8),(6,9),(7,10)] [(false,[]),(false,[]),(false,[]),(false,[])] [(4,Ph.arr (xF).heap.size (aw 4 0)),(5,Ph.arr (xF).heap.size (aw 4 0)),(6,Ph.arr (xF).heap.size (aw 4 0)),(7,Ph.arr (xF).heap.size (aw 4 0))] zKr zKr zaA ?_ ?_
 ·refine⟨⟨_,rfl,?_⟩,⟨_,rfl,?_⟩,⟨_,rfl,?_⟩,⟨_,rfl,?_⟩,trivial⟩
  ·exact zcV
  ·exact zcV
  ·exact zcV
  ·exact zcV
 intro vs aeP iH abg hP hD;obtain⟨q4,q5,q6,q7,-⟩:=hP;simp only[aG,Act.put,zSa,zSz,zSs];obtain⟨g4,e4,mT,Ni⟩:=q4;rw[e4];obtain⟨g5,e5,jJ,mX⟩:=q5;rw[e5];obtain⟨g6,e6,lV,uq⟩:=q6;rw[e6];obtain⟨g7,e7,lW,LF⟩:=q7;rw[e7];have ne4_5:g4≠g5:=fun h=>hD 4 5 rfl rfl rfl rfl rfl (by rw[e4,e5,h]);have ne4_6:g4≠g6:=fun h=>hD 4 6 rfl rfl rfl rfl rfl (by rw[e4,e6,h]);have ne4_7:g4≠g7:=fun h=>hD 4 7 rfl rfl rfl rfl rfl (by rw[e4,e7,h]);have ne5_6:g5≠g6:=fun h=>hD 5 6 rfl rfl rfl rfl rfl (by rw[e5,e6,h]);have ne5_7:g5≠g7:=fun h=>hD 5 7 rfl rfl rfl rfl rfl (by rw[e5,e7,h]);have ne6_7:g6≠g7:=fun h=>hD 6 7 rfl rfl rfl rfl rfl (by rw[e6,e7,h]);clear e4 e5 e6 e7 hD vs;have HJ:=UD k4 k5 k6 mT;have RN:=UD k4 k5 k6 jJ;have RO:=UD k4 k5 k6 lV;have NW:=UD k4 k5 k6 lW;obtain⟨k4,k5,k6⟩:=dZ k4 k5 k6 iH;have kb:=az kb iH;have k7:=Ni;clear Ni;generalize g4=wx at*;have k8:=mX;clear mX;generalize g5=xX at*;have k9:=uq;clear uq
 generalize g6=Ar at*;have k10:=LF;clear LF;generalize g7=pU at*;refine aY 8 511 rfl zDk (fun K hK=>?_);refine bJ rfl _ _ _ rfl _ _ rfl rfl _ zAm zLn zLm zOn ?_;refine hK (fun w'=>Below (xF).heap.size (xF) w') _ _ (ah iH zOm _) (fun _ h=>h) ?_;clear hK K;try simp only[Act.put]
 refine jI k7 (fun xE k7 ad ak=>?_);obtain⟨k4,k5,k6,k8,k9,k10⟩:=oK ad k4 k5 k6 k8 k9 k10;have kb:=ak _ _ zOm kb;have iH:=ak _ _ zOm iH;clear ad ak;refine aY 9 1023 rfl zDk (fun K hK=>?_);refine bJ rfl _ _ _ rfl _ _ rfl rfl _ zAm zLn zLm zOn ?_;refine hK (fun w'=>Below (xF).heap.size (xF) w') _ _ (ah iH zOm _) (fun _ h=>h) ?_;clear hK K;try simp only[Act.put]
 refine jI k8 (fun tq k8 ad ak=>?_);obtain⟨k4,k5,k6,k7,k9,k10⟩:=oK ad k4 k5 k6 k7 k9 k10;have kb:=ak _ _ zOm kb;have iH:=ak _ _ zOm iH;clear ad ak;refine aY 10 2047 rfl zDk (fun K hK=>?_);refine bJ rfl _ _ _ rfl _ _ rfl rfl _ zAm zLn zLm zOn ?_;refine hK (fun w'=>Below (xF).heap.size (xF) w') _ _ (ah iH zOm _) (fun _ h=>h) ?_;clear hK K;try simp only[Act.put]
 refine jI k9 (fun rD k9 ad ak=>?_);obtain⟨k4,k5,k6,k7,k8,k10⟩:=oK ad k4 k5 k6 k7 k8 k10;have kb:=ak _ _ zOm kb;have iH:=ak _ _ zOm iH;clear ad ak;refine kO 4095 ?_;refine ap zKr ?_
 first|refine aV k10 (fun rE k10 ad ak=>?_)|refine eu k10 (fun rE k10 ad ak=>?_)
 obtain⟨k4,k5,k6,k7,k8,k9⟩:=oK ad k4 k5 k6 k7 k8 k9;have kb:=ak _ _ zOm kb;clear ad ak;have k7:Arr rE wx (aw 4 1):=k7;have k8:Arr rE xX (aw 4 0):=k8;have k9:Arr rE Ar (aw 4 x):=k9;have k10:Arr rE pU (aw 4 1):=k10;clear mT jJ lV lW;go_wp2_with fail;go_loopw[11,12] (fun sv kv wr=>∃(j s:Nat) (a:St),j≤255∧s≤1∧sv=.int .u64 (s:Int)∧kv=.int .i64 ((j:Int)-1)∧a=(L (255-j)).swp s∧Arr wr (w.heap.size+1+1) (ay 0)∧Arr wr tZ (aw 4 n)∧Arr wr t9 (aw 4 x)∧Arr wr wx (aw 4 a.a)∧Arr wr xX (aw 4 a.b)∧Arr wr Ar (aw 4 a.c)∧Arr wr pU (aw 4 a.d)∧Below w.heap.size w wr) (fun _ kv _=>(intOf kv+1).toNat)
 case atStart=>exact⟨255,0,⟨1,0,x,1⟩,zA0 _,by decide,rfl,rfl,by rw[show 255-255=0 from rfl,hL0.out];rfl,k4,k5,k6,k7,k8,k9,k10,kb⟩
 case round=>
  clear k4 k5 k6 k7 k8 k9 k10 kb;obtain⟨j,s,a,hj,hs,rfl,rfl,ha,k4,k5,k6,k7,k8,k9,k10,kb⟩:=hrel;have BG:a.low:=ha▸St.low_swp (hLl.out _) s;rcases Nat.eq_zero_or_pos j with rfl|uz
  ·have e:((0:Nat):Int)-1= -1:=rfl;rw[e];clear e;have U7:a.swp s=v:=by
    rw[ha,IB,hv.out (255-0) rfl]
   have Ay:=IA a s;rw[U7]at Ay;have p1:=zH (show ou s a.a a.c=v.a by rw[Ay]);have p2:=zH (show ou s a.b a.d=v.b by rw[Ay]);have d1:=zH (fun w=>zC p1 hs w);have d2:=zH (fun w=>zC p2 hs w);clear Ay U7 ha BG p1 p2 hLs hLl hv hL0;go_upto_region 15 with fail
   go_upto_region 15 with(first|refine aR ?_|refine aU ?_)
   refine cH 8 10 fun iA=>?_;refine eZ ?_ 4 119 (by exact iA) [0,1,2,4,5,6] (fun w' hB=>by obtain⟨e0,e1,e2,e3,e4,e5⟩:=gE k4 k5 k6 k7 k8 k9 hB;have e6:=k10.below hB;exact zRd) ?_;refine eg 3 127 iA d1.out fun K6 lT=>?_;refine eg 7 255 lT d2.out fun zK nh=>?_;obtain⟨k4,k5,k6,k7,k8,k9⟩:=gE k4 k5 k6 k7 k8 k9 nh;have k10:=k10.below nh;have kb:=az kb nh;refine kO 511 ?_;refine jI k7 (fun Dm k7 ad ak=>?_);obtain⟨k4,k5,k6,k8,k9,k10⟩:=oK ad k4 k5 k6 k8 k9 k10;have kb:=ak _ _ zOm kb;clear ad ak;refine aY 9 1023 rfl zDk (fun K hK=>?_);refine bJ rfl _ _ _ rfl _ _ rfl rfl _ zAm zLn zLm zOn ?_;refine hK (fun _=>True) _ _ trivial (fun _ h=>h) ?_;clear hK K;try simp only[Act.put]
   refine ap zKr ?_
   first|refine aV k8 (fun Dn k8 ad ak=>?_)|refine eu k8 (fun Dn k8 ad ak=>?_)
   obtain⟨k4,k5,k6,k7,k9,k10⟩:=oK ad k4 k5 k6 k7 k9 k10;have kb:=ak _ _ zOm kb;clear ad ak;go_upto_region 16 with(first|refine aR ?_|refine aU ?_)
   refine cH 5 6 fun ni=>?_;refine dz ?_ 4 3 (by exact ni) [0,1] (fun w' hB=>by obtain⟨e0,e1,e2⟩:=dZ k4 k7 k8 hB;exact zRd) ?_;refine eg 2 7 ni c4.out fun DW pW=>?_;refine eg 3 15 pW c5.out fun K7 mI=>?_;refine eg 4 31 mI c6.out fun IJ nS=>?_;obtain⟨k4,k7,k8⟩:=dZ k4 k7 k8 nS;have kb:=az kb nS;refine kO 63 ?_;refine ap zKr ?_;refine aV k4 (fun IK k4 ad ak=>?_);obtain⟨k7,k8⟩:=rR ad k7 k8;have kb:=ak _ _ zOm kb;clear ad ak;go_wp2_with(first|refine aR ?_|refine aU ?_);exact bodyPost_ret (aj Tryz.results173 _ _ _ rfl zKr _ zaE zLn) rfl ⟨rfl,kb⟩
  ·obtain⟨m,rfl⟩:∃m,j=m+1:=⟨j-1,by omega⟩;have e:((m+1:Nat):Int)-1=(m:Int):=zOm;rw[e];clear e;obtain⟨t,ht⟩:=zX (n/2^m%2);have vE:t≤1:=zOm;have d0:=fun w=>ol n m zOm w;rw[ht]at d0;have uB:=Xc hs vE;obtain⟨s',L7⟩:=zX ((s+t)%2);have Vj:s'≤1:=zOm;rw[L7]at uB;have hsw:=WV (L (255-(m+1))) hs vE L7.symm;rw[←ha]at hsw;have Ay:=IA a s';obtain⟨b,hb⟩:=zX (a.swp s');have fP:b.low:=hb▸St.low_swp BG s';have p1:=zH (show ou s' a.a a.c=b.a by rw[←hb,Ay]);have p2:=zH (show ou s' a.c a.a=b.c by rw[←hb,Ay]);have p3:=zH (show ou s' a.b a.d=b.b by rw[←hb,Ay]);have p4:=zH (show ou s' a.d a.b=b.d by rw[←hb,Ay]);have d1:=zH (fun w=>zC p1 Vj w);have d2:=zH (fun w=>zC p2 Vj w);have d3:=zH (fun w=>zC p3 Vj w);have d4:=zH (fun w=>zC p4 Vj w);obtain⟨q,hq⟩:=zX (je x b);have d5:=zH (fun w=>WS hxp fP (zH hq) w);have iP:q=(L (255-m)).swp t:=by
    have h1:=hLs.out (255-(m+1));rw[show 255-(m+1)+1=255-m by omega,show 254-(255-(m+1))=m by omega,ht,←hsw,hb,hq]at h1;rw[h1,IB]
   replace d0:=zH d0;replace iP:=zH iP;clear p1 p2 p3 p4 hq hb Ay hsw L7 ht ha BG fP;go_upto_region 9 with(first|refine aR ?_|refine aU ?_)
   go_wp2_with(first|refine aR ?_|refine aU ?_);refine zQ (d0.out _) fun aaZ LK=>?_;obtain⟨k4,k5,k6,k7,k8,k9⟩:=gE k4 k5 k6 k7 k8 k9 LK;have k10:=k10.below LK;have kb:=az kb LK;clear LK;go_upto_region 11 with(first|refine aR ?_|refine aU ?_)
   go_upto_region 11 with(first|refine aR ?_|refine aU ?_)
   refine cH 8 10 fun Xv=>?_;refine eZ ?_ 4 119 (by exact Xv) [0,1,2,4,5,6] (fun w' hB=>by obtain⟨e0,e1,e2,e3,e4,e5⟩:=gE k4 k5 k6 k7 k8 k9 hB;have e6:=k10.below hB;exact zRd) ?_;refine eg 3 127 Xv d1.out fun Pc acr=>?_;refine eg 7 255 acr d2.out fun agO Hg=>?_;obtain⟨k4,k5,k6,k7,k8,k9⟩:=gE k4 k5 k6 k7 k8 k9 Hg;have k10:=k10.below Hg;have kb:=az kb Hg;refine kO 511 ?_;refine jI k7 (fun aa0 k7 ad ak=>?_);obtain⟨k4,k5,k6,k8,k9,k10⟩:=oK ad k4 k5 k6 k8 k9 k10;have kb:=ak _ _ zOm kb;clear ad ak;refine aY 9 1023 rfl zDk (fun K hK=>?_);refine bJ rfl _ _ _ rfl _ _ rfl rfl _ zAm zLn zLm zOn ?_;refine hK (fun _=>True) _ _ trivial (fun _ h=>h) ?_;clear hK K;try simp only[Act.put]
   refine ap zKr ?_
   first|refine aV k9 (fun aeH k9 ad ak=>?_)|refine eu k9 (fun aeH k9 ad ak=>?_)
   obtain⟨k4,k5,k6,k7,k8,k10⟩:=oK ad k4 k5 k6 k7 k8 k10;have kb:=ak _ _ zOm kb;clear ad ak;go_upto_region 12 with(first|refine aR ?_|refine aU ?_)
   refine cH 8 10 fun Xw=>?_;refine eZ ?_ 4 119 (by exact Xw) [0,1,2,4,5,6] (fun w' hB=>by obtain⟨e0,e1,e2,e3,e4,e5⟩:=gE k4 k5 k6 k7 k8 k9 hB;have e6:=k10.below hB;exact zRd) ?_;refine eg 3 127 Xw d3.out fun W8 acu=>?_;refine eg 7 255 acu d4.out fun aa1 P6=>?_;obtain⟨k4,k5,k6,k7,k8,k9⟩:=gE k4 k5 k6 k7 k8 k9 P6;have k10:=k10.below P6;have kb:=az kb P6;refine kO 511 ?_;refine jI k8 (fun Xa k8 ad ak=>?_);obtain⟨k4,k5,k6,k7,k9,k10⟩:=oK ad k4 k5 k6 k7 k9 k10;have kb:=ak _ _ zOm kb;clear ad ak;refine aY 9 1023 rfl zDk (fun K hK=>?_);refine bJ rfl _ _ _ rfl _ _ rfl rfl _ zAm zLn zLm zOn ?_;refine hK (fun _=>True) _ _ trivial (fun _ h=>h) ?_;clear hK K;try simp only[Act.put]
   refine ap zKr ?_
   first|refine aV k10 (fun aa2 k10 ad ak=>?_)|refine eu k10 (fun aa2 k10 ad ak=>?_)
   obtain⟨k4,k5,k6,k7,k8,k9⟩:=oK ad k4 k5 k6 k7 k8 k9;have kb:=ak _ _ zOm kb;clear ad ak;go_upto_region 14 with(first|refine aR ?_|refine aU ?_)
   go_wp2_with(first|refine aR ?_|refine aU ?_);refine zQ (d5.out _) fun aeJ pX=>?_;obtain⟨k4,k5,k6,k7,k8,k9⟩:=gE k4 k5 k6 k7 k8 k9 pX;have k10:=k10.below pX;have kb:=az kb pX;clear pX
   go_wp2_with(first|(refine aR ?_)|(refine gO rfl _ _ _ rfl _ _ rfl rfl _ k7 zLn zLm zOn (fun Ui k7 ad ak=>?_);have k8:=ad _ _ zOm k8;have k9:=ad _ _ zOm k9;have k10:=ad _ _ zOm k10;have k4:=ad _ _ zOm k4;have k5:=ad _ _ zOm k5;have k6:=ad _ _ zOm k6;have kb:=ak _ _ zOm kb;clear ad ak)|(refine gO rfl _ _ _ rfl _ _ rfl rfl _ k8 zLn zLm zOn (fun Ui k8 ad ak=>?_);have k7:=ad _ _ zOm k7;have k9:=ad _ _ zOm k9;have k10:=ad _ _ zOm k10;have k4:=ad _ _ zOm k4;have k5:=ad _ _ zOm k5;have k6:=ad _ _ zOm k6;have kb:=ak _ _ zOm kb;clear ad ak)|(refine gO rfl _ _ _ rfl _ _ rfl rfl _ k9 zLn zLm zOn (fun Ui k9 ad ak=>?_);have k7:=ad _ _ zOm k7;have k8:=ad _ _ zOm k8;have k10:=ad _ _ zOm k10;have k4:=ad _ _ zOm k4;have k5:=ad _ _ zOm k5;have k6:=ad _ _ zOm k6;have kb:=ak _ _ zOm kb;clear ad ak)|(refine gO rfl _ _ _ rfl _ _ rfl rfl _ k10 zLn zLm zOn (fun Ui k10 ad ak=>?_);have k7:=ad _ _ zOm k7;have k8:=ad _ _ zOm k8;have k9:=ad _ _ zOm k9;have k4:=ad _ _ zOm k4;have k5:=ad _ _ zOm k5;have k6:=ad _ _ zOm k6;have kb:=ak _ _ zOm kb;clear ad ak))
   exact⟨⟨m,t,q,by omega,vE,rfl,by go_num,iP.out,k4,k5,k6,k7,k8,k9,k10,kb⟩,by simp[intOf]⟩
theorem VR (P:Pn):P.cs.length=16:=ph _ _ _ _
theorem afh (P:Pn):∀v∈P.cs,v.oneCell'=true:=Mu _ _ _ _
def MY:Nat:=15112221349535400772501151409588531511454012693041857206046113283949847762202
def MZ:Nat:=46316835694926478169428394003475163141307993866256225615783033603165251855960
def bP:Pn:=⟨MY,MZ,1,MY*MZ%pN⟩
theorem Bk:bP.ok:=⟨by decide+kernel,by decide+kernel,by decide+kernel,by decide+kernel⟩
def nP:Pn:=⟨0,1,1,0⟩
theorem aem:nP.ok:=⟨by decide+kernel,by decide+kernel,by decide+kernel,by decide+kernel⟩
def iC (P:Pn) (n:Nat):Nat→Pn
 |0=>nP
 |m+1=>if n/2^(255-m)%2=1 then oL (oL (iC P n m) (iC P n m)) P else oL (iC P n m) (iC P n m)
theorem tT (P:Pn) (n:Nat):∀m,(iC P n m).ok
 |0=>aem
 |m+1=>by
  rw[iC];split<;>exact vX _ _
theorem Ok (w:World):CB 168 #[] w (.agg bP.cs.toArray):=by
 have c1:=zH (fun w=>fJ MY MZ zDc zDc w);go_enter Tryz.func168,Tryz.ntmps168;go_upto_region 1 with fail
 refine aH (fun W aB k0 kb=>?_);have k0:Arr W w.heap.size (ui 0 0 0 0):=k0;clear aB;go_upto_region 2 with(first|(refine bi rfl _ _ rfl (aw 4 MY).toArray zKr ?_)|(refine aR ?_)|(refine aU ?_))
 have Qy:=k0.lt;refine aK (fun mU k1 aA=>?_);have k0:=k0.below aA;have kb:=az kb aA;clear aA;generalize (W).heap.size=ahS at k1 Qy⊢;go_upto_region 3 with(first|(refine bi rfl _ _ rfl (aw 4 MZ).toArray zKr ?_)|(refine aR ?_)|(refine aU ?_))
 obtain⟨Qz,QA⟩:=IP k0 k1;refine aK (fun i8 k2 aA=>?_);obtain⟨k0,k1⟩:=fZ k0 k1 aA;have kb:=az kb aA;clear aA;generalize (mU).heap.size=ahT at k2 Qz QA⊢;go_upto_region 3 with(first|refine aR ?_|refine aU ?_)
 refine cH 7 8 fun bB=>?_;refine eZ ?_ 3 31 zaI [0,1,2,3,4] (fun w' hB=>by obtain⟨y1,y2⟩:=fZ k1 k2 hB;exact zRd) ?_;refine eg 5 63 bB c1.out fun pJ b9=>?_;refine tu (A:=?_) 1 127 zKr zaJ [6] zKr ?_ ?_;rotate_left
 ·intro w' hB;iterate 1 (first|(refine db rfl rfl ?_;simp only[Act.put,zSa,zSz,zSs])|(refine bN rfl rfl _ _ rfl _ rfl zDk _ zAm zLn ?_;simp only[Act.put,zSa,zSz,zSs])|(refine dw rfl rfl _ _ rfl (bP.cs).toArray zKr ?_;simp only[Act.put,zSa,zSz,zSs])|(refine cj (v:=?_) rfl rfl ?_ ?_;rotate_left;(focus (go_simp;try(with_reducible rfl)));simp only[Act.put,zSa,zSz,zSs]))
  exact eo
 have k0:=k0.below b9;have kb:=az kb b9;refine kO 255 ?_;refine ap zKr ?_
 first|refine aV k0 (fun m9 k0 ad ak=>?_)|refine eu k0 (fun m9 k0 ad ak=>?_)
 have kb:=ak _ _ zOm kb;clear ad ak;go_wp2_with fail;exact bodyPost_ret (aj Tryz.results168 _ _ _ rfl zKr _ k0 (by rw[VR];kernel_rfl)) rfl ⟨rfl,kb⟩
theorem CK (P:Pn) (n:Nat) (hP:P.ok) (hn:n<256^32) (w:World):
 CB 169 #[.agg P.cs.toArray,.agg (ay n).toArray] w (.agg (iC P n 256).cs.toArray):=by
 have c1:=zH (fun w=>ku n hn w);obtain⟨L,hL⟩:∃L:Nat→Pn,iC P n=L:=⟨_,rfl⟩;have hL0:Hid (L 0=nP):=zH (by rw[←hL];rfl);have hLs:Hid (∀m,L (m+1)=if n/2^(255-m)%2=1 then oL (oL (L m) (L m)) P else oL (L m) (L m)):=zH (fun m=>by rw[←hL];rfl);have hLo:Hid (∀m,(L m).ok):=zH (fun m=>by rw[←hL];exact tT P n m);rw[hL];replace hP:=zH hP;clear hL hn;go_enter Tryz.func169,Tryz.ntmps169;go_upto_region 1 with fail
 refine bZ (fun W aB k2 k3 k4 kb=>?_);have k2:Arr W w.heap.size P.cs:=k2;have k4:Arr W (w.heap.size+1+1) (ui 0 0 0 0):=k4;clear aB;go_upto_region 1 with(first|refine aR ?_|refine aU ?_)
 go_wp2_with(first|refine aR ?_|refine aU ?_);refine zQ (c1.out _) fun qD ia=>?_;obtain⟨k2,k3,k4⟩:=dZ k2 k3 k4 ia;have kb:=az kb ia;clear ia;go_upto_region 2 with(first|refine aR ?_|refine aU ?_)
 obtain⟨fD,lj,iL⟩:=GD k2 k3 k4;refine aK (fun uG k5 aA=>?_);obtain⟨k2,k3,k4⟩:=dZ k2 k3 k4 aA;have kb:=az kb aA;clear aA;generalize (qD).heap.size=tZ at k5 fD lj iL⊢;go_upto_region 2 with(first|refine aR ?_|refine aU ?_)
 go_wp2_with(first|refine aR ?_|refine aU ?_);refine zQ (Ot _) fun rY nW=>?_;obtain⟨k2,k4,k5⟩:=dZ k2 k4 k5 nW;have kb:=az kb nW;clear nW;go_upto_region 3 with(first|refine aR ?_|refine aU ?_)
 obtain⟨gI,iM,jq⟩:=GD k2 k4 k5;refine aK (fun xF k6 aA=>?_);obtain⟨k2,k4,k5⟩:=dZ k2 k4 k5 aA;have kb:=az kb aA;clear aA;generalize (rY).heap.size=t9 at k6 gI iM jq⊢;have k6:Arr xF t9 (L 0).cs:=(by rw[hL0.out];exact k6);clear k3 c1;go_wp2_with fail;go_loopw[7] (fun kv wr=>∃j:Nat,j≤256∧kv=.int .i64 ((j:Int)-1)∧Arr wr w.heap.size P.cs∧Arr wr (w.heap.size+1+1) (ui 0 0 0 0)∧Arr wr tZ (aw 4 n)∧Arr wr t9 (L (256-j)).cs∧Below w.heap.size w wr) (fun kv _=>(intOf kv+1).toNat)
 case atStart=>exact⟨256,zA0 _,rfl,k2,k4,k5,k6,kb⟩
 case round=>
  clear k2 k4 k5 k6 kb;obtain⟨j,hj,rfl,k2,k4,k5,k6,kb⟩:=hrel;rcases Nat.eq_zero_or_pos j with rfl|uz
  ·have e:((0:Nat):Int)-1= -1:=rfl;rw[e];clear e;have k6:Arr wr t9 (L 256).cs:=k6;go_wp2_with(first|refine aR ?_|refine aU ?_);exact bodyPost_ret (aj Tryz.results169 _ _ _ rfl zKr _ zaE zLn) rfl ⟨rfl,ah kb zOm _⟩
  ·obtain⟨m,rfl⟩:∃m,j=m+1:=⟨j-1,by omega⟩;have e:((m+1:Nat):Int)-1=(m:Int):=zOm;rw[e];clear e;have e1:256-(m+1)=255-m:=zOm;rw[e1]at k6;obtain⟨t,ht⟩:=zX (n/2^m%2);have d0:=fun w=>ol n m zOm w;rw[ht]at d0;have hs:=hLs.out (255-m);rw[show 255-(255-m)=m by omega,ht,show 255-m+1=256-m by omega]at hs;have ee:=hLo.out (255-m);obtain⟨A,hA⟩:=zX (L (255-m));rw[hA]at k6 hs ee;have cA:=zH (fun w=>Cz A A ee ee w);have cB:=zH (fun w=>Cz (oL A A) P (vX _ _) hP.out w);obtain⟨B,hB⟩:=zX (oL A A);rw[hB]at cA cB hs;replace d0:=zH d0;have vE:t=0∨t=1:=zOm;have m0:(0:Int)≤(m:Int):=zOm;replace hs:=zH hs;clear hA hB ee e1 ht;go_upto_region 6 with(first|refine aR ?_|refine aU ?_)
   go_wp2_with(first|refine aR ?_|refine aU ?_);refine zQ (cA.out _) fun kN ja=>?_;obtain⟨k2,k4,k5,k6⟩:=kJ k2 k4 k5 k6 ja;have kb:=az kb ja;clear ja;go_upto_region 7 with(first|refine aR ?_|refine aU ?_)
   refine ci k6 (fun xE k6 ad ak=>?_);obtain⟨k2,k4,k5⟩:=Dz ad k2 k4 k5;have kb:=ak _ _ zOm kb;clear ad ak;go_upto_region 7 with(first|refine aR ?_|refine aU ?_)
   go_wp2_with(first|refine aR ?_|refine aU ?_);refine zQ (d0.out _) fun tq BJ=>?_;obtain⟨k2,k4,k5,k6⟩:=kJ k2 k4 k5 k6 BJ;have kb:=az kb BJ;clear BJ;rcases vE with rfl|rfl
   ·skip;replace hs:=hs.out;rw[if_neg zDc]at hs;rw[←hs]at k6;clear hs;exact zfo
   ·skip;replace hs:=hs.out;rw[if_pos rfl]at hs;replace hs:=zH hs;go_upto_region 8 with(first|refine aR ?_|refine aU ?_)
    go_wp2_with(first|refine aR ?_|refine aU ?_);refine zQ (cB.out _) fun rD nV=>?_;obtain⟨k2,k4,k5,k6⟩:=kJ k2 k4 k5 k6 nV;have kb:=az kb nV;clear nV;go_upto_region 5 with(first|refine aR ?_|refine aU ?_)
    refine ci k6 (fun rE k6 ad ak=>?_);obtain⟨k2,k4,k5⟩:=Dz ad k2 k4 k5;have kb:=ak _ _ zOm kb;clear ad ak;rw[←hs.out]at k6;exact zfo
def pP (P:Pn):Nat:=P.y*(P.z^(pN-2)%pN)%pN+2^255*(P.x*(P.z^(pN-2)%pN)%pN%2)
theorem wt (P:Pn):pP P<256^32:=by
 have h1:P.y*(P.z^(pN-2)%pN)%pN<pN:=zA1 _ aX;have h2:pN<2^255:=zDc;have h3:P.x*(P.z^(pN-2)%pN)%pN%2<2:=zA1 _ zDc;unfold pP;omega
theorem Sf:∀x:Nat,x<128→bits .or .u8 (x:Int) 128=((x+128:Nat):Int):=by decide+kernel
theorem aer:∀x:Nat,x<128→bits .or .u8 (x:Int) 0=(x:Int):=by decide+kernel
theorem CD (P:Pn) (hP:P.ok) (w:World):
 CB 170 #[.agg P.cs.toArray] w (.agg (ay (pP P)).toArray):=by
 have zp:pN<18446744073709551616^4:=zDc;have lim:∀ {n:Nat},n<pN→n<18446744073709551616^4:=fun h=>zA25 h zp;obtain⟨hx,hy,hz,-⟩:=hP;obtain⟨i,hi⟩:=zX (P.z^(pN-2)%pN);have cI:=fun w=>ta P.z (lim hz) w;rw[hi]at cI;have li:i<pN:=hi▸zA1 _ aX;have cY:=fun w=>fJ P.y i (lim hy) (lim li) w;have cX:=fun w=>fJ P.x i (lim hx) (lim li) w;obtain⟨y,IW⟩:=zX (P.y*i%pN);obtain⟨x,JY⟩:=zX (P.x*i%pN);have ly:y<pN:=IW▸zA1 _ aX;rw[IW]at cY;rw[JY]at cX;have hE:pP P=y+2^255*(x%2):=(by rw[pP,hi,IW,JY]);obtain⟨r,hr⟩:=zX (y+2^255*(x%2));rw[hE,hr];replace hr:=zH hr;have cN:=zH (fun w=>qY y w);have cB:=fun w=>show Calls Tryz.prog 206 #[.agg (aw 4 x).toArray,.int .i64 0] w _ from ol x 0 zDc w
 rw[Nat.pow_zero,Nat.div_one]at cB;have Rl:y<2^255:=zA25 ly zDc;have FN:y/256^31<128:=zOm;have g31:=bH y 31 zDc;have sA:(ay y).set 31 (.int .u8 ((y/256^31:Nat):Int))=ay (y+2^255*0):=eF zDc zOm zOm zOm;have sB:(ay y).set 31 (.int .u8 ((y/256^31+128:Nat):Int))=ay (y+2^255*1):=eF zDc zOm zOm zOm;obtain⟨d,hd⟩:=zX (y/256^31);rw[hd]at FN sA sB g31;rw[zA4 zOm]at g31;have oA:bits .or .u8 (d:Int) (IntKind.u8.wrap (IntKind.u8.wrap 0*128))=(d:Int):=aer d FN;have oB:bits .or .u8 (d:Int) (IntKind.u8.wrap (IntKind.u8.wrap 1*128))=((d+128:Nat):Int):=Sf d FN;replace cI:=zH cI;replace cY:=zH cY;replace cX:=zH cX;replace g31:=zH g31;have Po:x%2=0∨x%2=1:=zOm;clear zp lim hx hy hz hi li IW JY ly hE Rl hd FN;go_enter Tryz.func170,Tryz.ntmps170;go_upto_region 1 with fail
 refine be (fun W aB k1 k2 kb=>?_);have k1:Arr W w.heap.size (ui P.x P.y P.z P.t):=k1;have k2:Arr W (w.heap.size+1) (ay 0):=k2;clear aB;have hz:=Sy k1;go_wp2_with(refine aE rfl _ _ rfl _ _ rfl zKr _ hz zLn ?_);clear hz;refine zQ (cI.out _) fun mU dG=>?_;obtain⟨k1,k2⟩:=fZ k1 k2 dG;have kb:=az kb dG;clear dG;go_upto_region 2 with(first|refine aR ?_|refine aU ?_)
 obtain⟨nZ,jp⟩:=IP k1 k2;refine aK (fun i8 k3 aA=>?_);obtain⟨k1,k2⟩:=fZ k1 k2 aA;have kb:=az kb aA;clear aA;generalize (mU).heap.size=sm at k3 nZ jp⊢;have hy:=Ic k1;go_wp2_with(first|(refine aE rfl _ _ rfl _ _ rfl zKr _ hy zLn ?_)|(refine aR ?_));clear hy;refine zQ (cY.out _) fun jF dc=>?_;obtain⟨k1,k2,k3⟩:=dZ k1 k2 k3 dc;have kb:=az kb dc;clear dc;go_wp2_with fail;refine zQ (cN.out _) fun pJ fG=>?_;obtain⟨k1,k2,k3⟩:=dZ k1 k2 k3 fG;have kb:=az kb fG;clear fG;go_upto_region 3 with(first|refine aR ?_|refine aU ?_)
 obtain⟨BN,BO,BP⟩:=GD k1 k2 k3;refine aK (fun m9 k4 aA=>?_);obtain⟨k1,k2,k3⟩:=dZ k1 k2 k3 aA;have kb:=az kb aA;clear aA;generalize (pJ).heap.size=Fv at k4 BN BO BP⊢;rcases Po with hs|hs
 ·skip;rw[hs]at cB;replace sA:Hid ((ay y).set 31 (.int .u8 (d:Int))=ay r):=zH (by rw[←hr.out,hs];exact sA);clear sB oB;replace cB:=zH cB;have hs:=zH hs;go_upto_region 3 with(first|refine aR ?_|refine aU ?_)
  refine cH 11 12 fun dV=>?_;refine eZ ?_ 7 31 zaL [0,1,2,3,4] (fun w' hB=>by have hx:=EA (k1.below hB);have y3:=k3.below hB;have y4:=(k4.below hB).cell g31.out;exact zRm) ?_;refine eg 5 63 dV cX.out fun uG iB=>?_;refine eg 6 127 iB cB.out fun rY kV=>?_;refine eZ ?_ 1 2047 (by exact kV) [7,8,9,10] (fun _ _=>zRd) ?_;obtain⟨k1,k2,k3,k4⟩:=kJ k1 k2 k3 k4 kV;have kb:=az kb kV;have bo:=k4.cell g31.out;have bT:=k4.frozen 31;refine bf 4095 rfl zDk (fun K hK=>?_);go_simp;refine hK (fun _=>True) 9999 _ _ ?_;clear hK K;try simp only[Act.put]
  try simp only[zSa,zSz,zSs]
  refine ap zKr ?_;clear bo bT;have kb:=kb.setCell (p:=⟨Fv,31,none⟩) zab (.int .u8 (d:Int));have k2:=k2.other (a:=⟨Fv,31,none⟩) zab (.int .u8 (d:Int));have k4:=k4.set 31 (.int .u8 (d:Int));rw[sA.out]at k4;generalize World.setCell _ ⟨Fv,31,none⟩ (.int .u8 (d:Int))=w9 at*;exact zek
 ·skip;rw[hs]at cB;replace sB:Hid ((ay y).set 31 (.int .u8 ((d:Int)+128))=ay r):=zH (by rw[←hr.out,hs];rw[show((d+128:Nat):Int)=(d:Int)+128 by omega]at sB;exact sB);clear sA oA;replace cB:=zH cB;have hs:=zH hs;go_upto_region 3 with(first|refine aR ?_|refine aU ?_)
  refine cH 11 12 fun hU=>?_;refine eZ ?_ 7 31 zaF [0,1,2,3,4] (fun w' hB=>by have hx:=EA (k1.below hB);have y3:=k3.below hB;have y4:=(k4.below hB).cell g31.out;exact zRm) ?_;refine eg 5 63 hU cX.out fun kN eT=>?_;refine eg 6 127 eT cB.out fun xE gZ=>?_;refine eZ ?_ 1 2047 zaG [7,8,9,10] (fun _ _=>zRd) ?_;obtain⟨k1,k2,k3,k4⟩:=kJ k1 k2 k3 k4 gZ;have kb:=az kb gZ;have bo:=k4.cell g31.out;have bT:=k4.frozen 31;refine bf 4095 rfl zDk (fun K hK=>?_);go_simp;refine hK (fun _=>True) 9999 _ _ ?_;clear hK K;try simp only[Act.put]
  try simp only[zSa,zSz,zSs]
  refine ap zKr ?_;clear bo bT;have kb:=kb.setCell (p:=⟨Fv,31,none⟩) zab (.int .u8 ((d:Int)+128));have k2:=k2.other (a:=⟨Fv,31,none⟩) zab (.int .u8 ((d:Int)+128));have k4:=k4.set 31 (.int .u8 ((d:Int)+128));rw[sB.out]at k4;generalize World.setCell _ ⟨Fv,31,none⟩ (.int .u8 ((d:Int)+128))=w9 at*;exact zek
end Go.Proofs.YtgfkgolafkdjfaaGreatDoor
