/- ModelWrong: part 41 of its proof: lemmas and contracts, each with its conditions in its own statement; the last part holds the law itself. -/
import Derived.Test.YtgfkgolafkdjfaaGreatDoorJv40

set_option maxHeartbeats 4000000
set_option maxRecDepth 100000
namespace Go.Proofs.YtgfkgolafkdjfaaGreatDoor
open Go.RowKit
theorem OB.shp {B:Nat} {w:World} {v:Value} {bs:List UInt8} (h:OB B w v bs):∃a c,v=.slice a bs.length c:=rc h
theorem CT {W w:World} {v:Value} {bs:List UInt8} (h:OB W.heap.size w v bs) (kb:Below W.heap.size W w) (hl:bs.length≤1000000):
 Calls Tryz.prog 70 #[v] w fun e w'=>∃v',e=.returned v'∧OB W.heap.size w' v' (bs++fy bs.length)∧Below W.heap.size W w':=by
 obtain⟨N,hN⟩:=zX bs.length;obtain⟨Z,hZ⟩:=zX (mR N);have hz:Hid (fy N=List.replicate Z 0):=zH (by rw[fy,hZ]);have hZ2:Hid (∀z,z≤Z→((N+z)%16=0↔z=Z)∧z≤16):=zH (fun z h=>by unfold mR at hZ;omega);rw[hN]at hl⊢;replace hN:=zH hN;clear hZ;have k0:OB W.heap.size w v (bs++List.replicate 0 0):=(by rw[List.replicate_zero,zA31];exact h);clear h;go_enter Tryz.func70,Tryz.ntmps70;go_wp2_with fail;go_loopw[0] (fun v wr=>∃z:Nat,z≤Z∧OB W.heap.size wr v (bs++List.replicate z 0)∧Below W.heap.size W wr) (fun v _=>N+Z-Vu v)
 case atStart=>exact⟨0,zA28 _,k0,kb⟩
 case round=>
 clear k0 kb;obtain⟨z,jN,k0,kb⟩:=hrel;obtain⟨hq,aiX⟩:=hZ2.out z jN;obtain⟨a,c,rfl⟩:=k0.shp;have QQ:(bs++List.replicate z 0).length=N+z:=(by simp[hN.out]);rw[QQ]at k0⊢;obtain⟨n,hn⟩:=zX (N+z);rw[hn]at k0 hq⊢;have em:Int.tmod (n:Int) 16=((n%16:Nat):Int):=(by rw[zA17 zOm,Int.natCast_emod];rfl);obtain⟨m,hm⟩:=zX (n%16);rw[hm]at em hq;replace hm:=zH hm
 by_cases hzZ:z=Z
 ·have lZ:=hq.2 hzZ;have dq:((m:Int) != 0)=false:=(by simp[lZ]);rw[hzZ,←hz.out]at k0;clear hq lZ;go_wp2_with fail;go_ret;exact⟨_,rfl,k0,kb⟩
 ·have dq:((m:Int) != 0)=true:=by
   have:¬m=0:=fun e=>hzZ (hq.1 e);simp;omega
  have dF:Hid ((bs++List.replicate z 0).length≤140737488355000):=zH (by rw[QQ];omega);replace hn:=zH hn;clear QQ hq;go_wp2_with(at_builtin;refine tV (W:=W) rfl _ _ rfl rfl rfl rfl 0 zDc k0 kb dF.out (fun v w2 k2 kb _=>?_));refine⟨⟨z+1,by omega,by rw[List.replicate_succ',←zA16];exact k2,kb⟩,?_⟩;obtain⟨a',c',rfl⟩:=k2.shp;have:=hn.out;have:=hN.out;simp[Vu,this];omega
theorem CW (n:Nat) (w:World):
 Calls Tryz.prog 71 #[.int .i64 (n:Int)] w fun e w'=>∃v,e=.returned v∧OB w.heap.size w' v (jh n)∧Below w.heap.size w w':=by
 have ep:Hid (∀i,i<8→∃c:UInt8,(jh n).take (i+1)=(jh n).take i++[c]∧bits .and .i64 ((n:Int)/2^(8*i)) 255%256=(c.toNat:Int)):=zH (fun i hi=>by
  have hl:i<(jh n).length:=(by rw[me];exact hi);refine⟨(jh n)[i],List.take_succ_eq_append_getElem hl,?_⟩;rw[we];simp only[jh,List.getElem_map];have hd:(bF 256 8 n)[i]'(by rw[bj];exact hi)=n/256^i%256:=by
   have:=eG 256 8 n i hi;rw[zA7 (by rw[bj];exact hi)]at this;exact Option.some.inj this
  rw[hd,show(UInt8.ofNat (n/256^i%256)).toNat=n/256^i%256 by simp,show(256:Nat)^i=2^(8*i) by rw[Nat.pow_mul],show(n:Int)/2^(8*i)=((n/2^(8*i):Nat):Int) by simp];omega)
 have hE:Hid (∀l,l=jh n→l.length=8):=zH (fun l e=>by rw[e,me]);obtain⟨E,hE2⟩:=zX (jh n);have hEl:Hid (E.length=8):=zH (by rw[←hE2,me]);rw[hE2]at ep⊢;clear hE hE2;go_enter Tryz.func71,Tryz.ntmps71;go_wp2_with fail;go_loopw[3,4] (fun v iv wr=>∃i:Nat,i≤8∧iv=.int .i64 i∧OB w.heap.size wr v (E.take i)∧Below w.heap.size w wr) (fun _ iv _=>8-(intOf iv).toNat)
 case atStart=>exact⟨0,by omega,rfl,by rw[List.take_zero];exact OB.nil _ _,zA6 _ _⟩
 case round=>
 obtain⟨i,hi,rfl,k0,kb⟩:=hrel
 by_cases iS:i<8
 ·have ub:(i:Int)<8:=zOm;have mA:(0:Int)≤(i:Int):=zOm;obtain⟨c,jX,pH⟩:=ep.out i iS;obtain⟨s,hs⟩:=zX (8*i);have fs:8*(i:Int)=(s:Int):=zOm;have fs1:(0:Int)≤(s:Int)∧(s:Int)<64:=zOm;rw[hs]at pH;have dF:Hid ((E.take i).length≤140737488355000):=zH za6;replace hs:=zH hs;replace jX:=zH jX;go_wp2_with(at_builtin;refine tV (W:=w) rfl _ _ rfl rfl rfl rfl c rfl k0 kb dF.out (fun v w2 k0 kb _=>?_));rw[←jX.out]at k0;exact⟨⟨i+1,by omega,by go_num,k0,kb⟩,by simp[intOf];omega⟩
 have dj:decide ((i:Int)<8)=false:=decide_eq_false zOm;rw[zA8 (by rw[hEl.out];omega)]at k0;go_wp2_with fail;go_ret;exact⟨_,rfl,k0,kb⟩
theorem OF {n m:Nat} (h:n%16=0):mR (n+m)=mR m:=by unfold mR;omega
theorem Pd (n:Nat):(n+(fy n).length)%16=0:=by simp[fy,mR];omega
theorem D4 (X:Nat):(ag 64 X).take 32=ag 32 (X%256^32):=by
 apply List.ext_getElem?;intro j
 by_cases hj:j<32
 ·have:=D3 X j (by rw[aa];exact hj);rw[Nat.zero_add]at this;rw[List.getElem?_take,if_pos hj,this]
 ·rw[zA13 (by rw[zA15,aa];omega),zA13 za4]
theorem Is (k n:Nat) (a1 a2:Option Addr) (c1 c2:Nat) (bs side:List UInt8) (l1:bs.length≤100000) (l2:side.length≤100000) (w:World) (h1:Sl w (.slice a1 bs.length c1) (aJ bs)) (h2:Sl w (.slice a2 side.length c2) (aJ side)):
 CB 39 #[.agg (ag 32 k).toArray,.agg (ag 12 n).toArray,.slice a1 bs.length c1,.slice a2 side.length c2] w (.agg (ag 16 (De k n bs side)).toArray):=by
 have wJ:∀n,(fy n).length≤16:=fun n=>by simp[fy,mR];omega
 have XO:Hid (side++fy side.length++bs++fy (side++fy side.length++bs).length++jh side.length++jh bs.length=(Gv bs side).flatten):=zH (by
  have e:fy (side++fy side.length++bs).length=fy bs.length:=congrArg (List.replicate · 0) (by rw[zA5,zA5];exact OF (Pd _));rw[e];simp[Gv])
 have hL1:Hid ((side++fy side.length).length≤200000):=zH (by rw[zA5];have:=wJ side.length;omega);have hL2:Hid ((side++fy side.length++bs).length≤400000):=zH (by rw[zA5];have:=hL1.out;omega);have hL3:Hid ((side++fy side.length++bs++fy (side++fy side.length++bs).length).length≤500000):=zH (by rw[zA5];have:=hL2.out;have:=wJ (side++fy side.length++bs).length;omega);have s1:=zH h1;have s2:=zH h2;have e8:=zH me;obtain⟨T,hT⟩:=zX (De k n bs side);replace hT:Hid (Aj (lD (Gu k n)) (Gu k n/2^128) (Gv bs side).flatten=T):=zH (by rw[←hT];rfl);rw[show De k n bs side=T from hT.out];replace l2:=zH l2;clear h1 h2 wJ l1;go_enter Tryz.func39,Tryz.ntmps39;go_upto_region 1 with fail
 refine bZ (fun W aB k4 k5 k8 kb=>?_);have k4:Arr W w.heap.size (ag 32 k):=k4;have k5:Arr W (w.heap.size+1) (ag 12 n):=k5;have k8:Arr W (w.heap.size+1+1) (ag 16 0):=k8;clear aB;go_wp2_with(first|(refine ab rfl _ _ rfl _ rfl zDk _ k4 zbx ?_)|(refine ab rfl _ _ rfl _ rfl zDk _ k5 zbx ?_));refine zQ (CN k n 0 _) fun w1 hb=>?_;replace k8:=k8.below hb;replace kb:=az kb hb;rw[show 0%4294967296=0 from rfl];obtain⟨X,hX⟩:=zX (fV k 0 n 64);obtain⟨KT,hKT⟩:=zX (Gu k n);have hKe:(ag 64 X).take 32=ag 32 KT:=(by rw[←hKT,Gu,hX];exact D4 X);have lK:Hid (KT<256^32):=zH (by rw[←hKT];exact WW _ _);rw[hX];rw[hKT]at hT;clear hb k4 k5 hX hKT;go_upto_region 2 with(refine aD rfl _ _ _ rfl _ (ag 64 X) rfl rfl _ (Arr.new _ _ _) zbx zbR (bm _ _) (fun w2 k9 hg aB=>?_))
 have hb:=a9 hg;replace k8:=k8.below hb;replace kb:=az kb hb;obtain⟨g9,kP⟩:=zX w1.heap.size;rw[kP]at k9⊢;clear hb hg aB kP;go_upto_region 3 with fail
 refine aH (fun w3 aB k10 hb=>?_);replace k10:Arr w3 w2.heap.size (ag 32 0):=k10;have l8:=k8.lt;replace k8:=k8.below hb;replace k9:=k9.below hb;replace kb:=az kb hb;obtain⟨g10,qT⟩:=zX w2.heap.size;rw[qT]at k10 l8⊢;clear aB hb qT;have hS:Below w3.heap.size w3 w3.drew:=(zA6 _ _).drew;have s9:Sl w3.drew (.slice (some ⟨g9,0,none⟩) 32 64) (ag 32 KT):=by
  have h9:=k9.below hS;rw[eB]at h9;have h9:Sl w3.drew (.slice (some ⟨g9,0,none⟩) (nb 64 X).length 64) (aJ (nb 64 X)):=(by rw[aC];exact Sl.ofArrN h9 (aC 64 X) zDc);have:=h9.head (m:=32) zck;rw[←hKe,eB,aJ,←List.map_take];exact this
 refine eC (fun w'=>Below w3.heap.size w3 w') 2 3 rfl zKr ?_;refine dz ?_ 1 3 zcr [0,1] (fun _ _=>zRd) ?_;refine bf 7 rfl zDk (fun K hK=>?_);refine gf rfl _ _ 24 24 rfl 5 Tryz.underlying24 zKr g10 0 32 32 rfl _ (k10.below hS) zb8 _ rfl _ s9 (bm _ _) ?_;rw[List.take_zero,List.nil_append,zA8 (by rw[aa];exact zA0 _),aa,List.drop_eq_nil_of_le zb8,zA31];have hg:=mW w3.drew g10 (ag 32 KT).toArray;replace k10:=(k10.below hS).setRow (ag 32 KT);replace k8:=(k8.below hS).kept hg zOm;replace kb:=aq (az kb hS) hg zOm (az kb hS).size;clear hS s9 k9 hKe;generalize w3.drew.setRow g10 (ag 32 KT).toArray=W at*;refine hK (fun _=>True) 9999 _ _ ?_;clear hK K;try simp only[Act.put]
 try simp only[zSa,zSz,zSs]
 refine ap zKr ?_;clear hg;have q1:=zH (s1.out.below kb);have q2:=zH (s2.out.below kb);clear s1 s2;go_upto_region 5 with(at_builtin;refine jL (W:=W) rfl _ _ rfl rfl rfl (OB.nil _ _) q2.out (zA6 _ _) (by have:=l2.out;simp;omega) (fun v w5 o1 kc _=>?_))
 rw[List.nil_append]at o1;go_wp2_with fail;refine(CT o1 kc (by have:=l2.out;omega)).mono ?_;rintro e w6 ⟨v,rfl,o1,kc⟩;go_upto_region 6 with(at_builtin;refine jL (W:=W) rfl _ _ rfl rfl rfl o1 (q1.out.below kc) kc (by have:=hL2.out;rw[zA5]at this;omega) (fun v w7 o1 kc _=>?_))
 go_wp2_with fail;refine(CT o1 kc (by have:=hL2.out;omega)).mono ?_;rintro e w8 ⟨v,rfl,o1,kc⟩;go_wp2_with fail;refine(CW _ _).mono ?_;rintro e w9 ⟨u,rfl,o2,hb⟩;replace o1:=o1.below hb;replace kc:=az kc hb;have p2:=zH o2.sl;clear hb o2 q1 q2;go_wp2_with(at_builtin;refine jL (W:=W) rfl _ _ rfl rfl rfl o1 p2.out kc (by rw[e8.out];have:=hL3.out;omega) (fun v wA o1 kc _=>?_));refine(CW _ _).mono ?_;rintro e wB ⟨u,rfl,o2,hb⟩;replace o1:=o1.below hb;replace kc:=az kc hb;have p2:=zH o2.sl;clear hb o2;go_upto_region 7 with(at_builtin;refine jL (W:=W) rfl _ _ rfl rfl rfl o1 p2.out kc (by rw[e8.out,zA5,e8.out];have:=hL3.out;omega) (fun v wC o1 kc _=>?_))
 have hLL:Hid ((Gv bs side).flatten.length<2^60):=zH (by rw[←XO.out,zA5,zA5,e8.out,e8.out];have:=hL3.out;omega);rw[XO.out]at o1;clear XO p2 hL1 hL2 hL3;obtain⟨L,hL⟩:=zX ((Gv bs side).flatten);rw[hL]at o1 hT hLL;obtain⟨a,c,rfl⟩:=o1.shp;have ho:=zH o1.sl;replace k10:=k10.below kc;replace k8:=k8.below kc;replace kb:=az kb kc;clear o1 hL kc;go_wp2_with(refine ab rfl _ _ rfl _ rfl zDk _ k10 zbx ?_);rw[←dJ];refine zQ (OO KT lK.out a c L hLL.out wC ho.out) fun wD hb=>?_;replace k8:=k8.below hb;replace kb:=az kb hb;rw[hT.out];clear hb ho hT k10;go_wp2_with(refine aU ?_);exact bodyPost_ret (aj Tryz.results39 _ _ _ rfl zKr _ zaE zLn) rfl ⟨rfl,ah kb zOm _⟩
theorem EH (k n:Nat) (a1 a2:Option Addr) (c1 c2:Nat) (bs side:List UInt8) (l1:bs.length≤50000) (l2:side.length≤50000) (w:World) (h1:Sl w (.slice a1 bs.length c1) (aJ bs)) (h2:Sl w (.slice a2 side.length c2) (aJ side)):
 Calls Tryz.prog 64 #[.agg (ag 32 k).toArray,.agg (ag 12 n).toArray,.slice a1 bs.length c1,.slice a2 side.length c2] w fun e w'=>∃u,e=.returned u∧OB w.heap.size w' u (jk k n bs side)∧Below w.heap.size w w':=by
 have cU:=zH (fun w' (hb:Below w.heap.size w w')=>EJ k n 1 a1 c1 bs zDc zOm w' (h1.below hb));obtain⟨z,hz⟩:=zX (ID k 1 n bs);have wJ:Hid (z.length=bs.length):=zH (by rw[←hz,nG]);have hG:Hid (jk k n bs side=z++nb 16 (De k n z side)):=zH (by rw[jk,hz];rfl);rw[hz]at cU;obtain⟨G,hGG⟩:=zX (jk k n bs side);rw[hGG]at hG⊢;obtain⟨T,hT⟩:=zX (De k n z side);have cT:Hid (∀w' c a,Below w.heap.size w w'→Sl w' (.slice a z.length c) (aJ z)→CB 39 #[.agg (ag 32 k).toArray,.agg (ag 12 n).toArray,.slice a z.length c,.slice a2 side.length c2] w' (.agg (ag 16 T).toArray)):=zH (fun w' c a hb h=>by
  rw[←hT];exact Is k n a a2 c c2 z side (by rw[wJ.out];omega) zOm w' h (h2.below hb))
 rw[hT]at hG;replace l1:=zH l1;clear h1 h2 l2 hz hGG hT;go_enter Tryz.func64,Tryz.ntmps64;go_upto_region 1 with fail
 refine be (fun W aB k4 k5 kb=>?_);have k4:Arr W w.heap.size (ag 32 k):=k4;have k5:Arr W (w.heap.size+1) (ag 12 n):=k5;clear aB;go_wp2_with(first|(refine ab rfl _ _ rfl _ rfl zDk _ k4 zbx ?_)|(refine ab rfl _ _ rfl _ rfl zDk _ k5 zbx ?_));refine(cU.out _ kb).mono ?_;rintro e w1 ⟨v,rfl,oz,hb⟩;rw[show bs.length=(aJ z).length by rw[ai,wJ.out],ai]at oz;have oz:OB W.heap.size w1 v z:=oz;replace k4:=k4.below hb;replace k5:=k5.below hb;have kw:=az kb hb;obtain⟨a,c,rfl⟩:=oz.shp;have hz:=zH oz.sl;go_upto_region 2 with fail
 go_wp2_with(first|(refine ab rfl _ _ rfl _ rfl zDk _ k4 zbx ?_)|(refine ab rfl _ _ rfl _ rfl zDk _ k5 zbx ?_));refine zQ (cT.out _ _ _ kw hz.out) fun w2 hb2=>?_;replace oz:=oz.below hb2;replace hb:=az hb hb2;clear hb2 cT cU hz k4 k5 kw;go_upto_region 3 with(refine aD rfl _ _ _ rfl _ (ag 16 T) rfl rfl _ (Arr.new _ _ _) zbx zbR (bm _ _) (fun w3 k9 hg aB=>?_))
 have hb2:=a9 hg;replace oz:=oz.below hb2;replace hb:=az hb hb2;obtain⟨g9,kP⟩:=zX w2.heap.size;rw[kP]at k9⊢;clear hb2 hg aB kP;rw[eB]at k9;have h9:=zH (Sl.ofArrN k9 (aC 16 T) zDc);go_wp2_with(at_builtin;refine jL (W:=W) rfl _ _ rfl rfl rfl oz h9.out hb (by rw[wJ.out,aC];have:=l1.out;omega) (fun v w4 oz hb _=>?_));rw[←hG.out]at oz;go_ret;exact⟨_,rfl,oz.mono kb.size,az kb hb⟩
theorem RD (a b:List UInt8):(a==b)=decide (a=b):=by
 by_cases h:a=b
 ·subst h;simp
 ·rw[decide_eq_false h];exact beq_eq_false_iff_ne.2 h
theorem ON (k n:Nat) (a1 a2:Option Addr) (c1 c2:Nat) (bs side:List UInt8) (l1:bs.length≤50000) (l2:side.length≤50000) (Hi:16≤bs.length) (w:World) (h1:Sl w (.slice a1 bs.length c1) (aJ bs)) (h2:Sl w (.slice a2 side.length c2) (aJ side)):
 Calls Tryz.prog 17 #[.agg (ag 32 k).toArray,.agg (ag 12 n).toArray,.slice a1 bs.length c1,.slice a2 side.length c2] w fun e w'=>
  ∃v,e=.returned (.tuple #[v,.bool (decide (pF k n (bs.take (bs.length-16)) side=bs.drop (bs.length-16)))])∧Below w.heap.size w w':=by
 have aI:=h1.len;rw[ai]at aI;obtain⟨b,o,rfl,-,-,-,-⟩:=h1.at zaV;obtain⟨m,hm⟩:=zX (bs.length-16);have hd:=zH (h1.head (m:=m) zOm);have tl:=zH (h1.tail (m:=m) zOm);have nu:Hid ((bs.take m).length=m):=zH za6;obtain⟨p,hp⟩:=zX (bs.take m);obtain⟨t,ht⟩:=zX (bs.drop m);rw[show bs.length-m=16 by omega]at tl;rw[hm];rw[hp]at hd nu⊢;rw[ht]at tl⊢;obtain⟨L,hL⟩:=zX bs.length;rw[hL]at aI l1 Hi hm⊢;have hLm:(L:Int)-16=(m:Int):=zOm;have m0:(0:Int)≤(m:Int)∧¬(m:Int)<0∧(m:Int)≤(c1:Int)∧(m:Int)≤(L:Int)∧¬c1=m∧L-m=16∧¬(L:Int)<16:=zOm;have hw:IntKind.i64.wrap (m:Int)=(m:Int):=i64_in zOm;obtain⟨T,hT⟩:=zX (De k n p side);have cT:Hid (∀w',Below w.heap.size w w'→CB 39 #[.agg (ag 32 k).toArray,.agg (ag 12 n).toArray,.slice (some ⟨b,o,none⟩) m c1,.slice a2 side.length c2] w' (.agg (ag 16 T).toArray)):=zH (fun w' hb=>by
  have q:=Is k n (some ⟨b,o,none⟩) a2 c1 c2 p side zbY zOm w' zbZ (h2.below hb);rw[nu.out,hT]at q;exact q)
 have cU:Hid (∀w',Below w.heap.size w w'→Calls Tryz.prog 40 #[.agg (ag 32 k).toArray,.int .i64 1,.agg (ag 12 n).toArray,.slice (some ⟨b,o,none⟩) m c1] w' fun e w2=>∃v,e=.returned v∧Below w'.heap.size w' w2):=zH (fun w' hb=>by
  have q:=EJ k n 1 (some ⟨b,o,none⟩) c1 p zDc zbY w' zbZ;rw[nu.out]at q;exact q.mono (fun e w2 ⟨v,h1,h2,h3⟩=>⟨v,h1,h3⟩))
 rw[show pF k n p side=nb 16 T by rw[←hT];rfl];obtain⟨D,hD⟩:=zX (decide (nb 16 T=t));have NK:(nb 16 T==t)=D:=(by rw[←hD];exact RD _ _);rw[hD];clear h1 h2 hp ht hL hT hD;go_enter Tryz.func17,Tryz.ntmps17;go_upto_region 1 with fail
 refine be (fun W aB k4 k5 kb=>?_);have k4:Arr W w.heap.size (ag 32 k):=k4;have k5:Arr W (w.heap.size+1) (ag 12 n):=k5;clear aB;go_upto_region 4 with fail
 go_wp2_with(first|(refine ab rfl _ _ rfl _ rfl zDk _ k4 zbx ?_)|(refine ab rfl _ _ rfl _ rfl zDk _ k5 zbx ?_));refine zQ (cT.out _ kb) fun w1 hb=>?_;replace k4:=k4.below hb;replace k5:=k5.below hb;replace kb:=az kb hb;clear hb cT;go_upto_region 5 with(refine aD rfl _ _ _ rfl _ (ag 16 T) rfl rfl _ (Arr.new _ _ _) zbx zbR (bm _ _) (fun w2 k9 hg aB=>?_))
 have hb:=a9 hg;replace k4:=k4.below hb;replace k5:=k5.below hb;replace kb:=az kb hb;obtain⟨g9,kP⟩:=zX w1.heap.size;rw[kP]at k9⊢;clear hb hg aB kP;rw[eB]at k9;have h9:=zH (Sl.ofArrN k9 (aC 16 T) zDc);refine cH 9999 9 fun aP=>?_;refine dz ?_ 0 511 zaD [0,1,2,3,4,5,6,7,8] (fun w' hB=>by have x1:=mH (P:=Tryz.prog) (h9.out.below hB) 24 5 9 Tryz.underlying24 Tryz.underlying5 Tryz.underlying9;have x2:=mH (P:=Tryz.prog) ((tl.out.below kb).below hB) 24 5 9 Tryz.underlying24 Tryz.underlying5 Tryz.underlying9;exact zRd) ?_;refine ap zKr ?_;replace k4:=k4.below aP;replace k5:=k5.below aP;replace kb:=az kb aP;clear aP k9 h9 tl hd NK;cases D
 ·go_wp2_with fail;go_ret2;exact⟨_,rfl,kb⟩
 ·go_wp2_with(first|(refine ab rfl _ _ rfl _ rfl zDk _ k4 zbx ?_)|(refine ab rfl _ _ rfl _ rfl zDk _ k5 zbx ?_));refine(cU.out _ kb).mono ?_;rintro e w1 ⟨v,rfl,hb⟩;replace kb:=az kb hb;go_wp2_with fail;go_ret2;exact⟨_,rfl,kb⟩
theorem qt (n:Int) (h0:0≤n) (h1:n≤2147483647) (w:World):CB 16 #[.int .i64 n] w (.bool true):=by
 have l1:¬n<0:=zOm;go_enter Tryz.func16,Tryz.ntmps16;exact zcX
theorem OB.new {B:Nat} (w:World) (l:List UInt8) (hB:B≤w.heap.size) (hl:l.length≤1000000):OB B (w.alloc (.cells (aJ l).toArray 5)) (.slice (some ⟨w.heap.size,0,none⟩) l.length l.length) l:=by
 refine⟨by rw[ai,Nat.mul_one],.inr ⟨w.heap.size,l.length,(aJ l).toArray,rfl,hB,heap_alloc_new w _,zA0 _,by unfold maxLen;omega,by simp[ai],?_⟩⟩;rw[Nat.mul_one,zA8 (by simp[ai])]
theorem tS {W w:World} {o:Oper} {a:Act} {K:Act→World→Prop} {Q:Exit→Act→World→Prop} {v vx:Value} {bs cs:List UInt8} (qi:o.guard=none) (s x:Operand)
 (ho:o.op=.call {callee:=.builtin .append,args:=#[s,x],argTypes:=#[24,24]}) (hs:a.eval s=v) (hx:a.eval x=vx) (cf:OB W.heap.size w v bs) (dI:Sl w vx (aJ cs)) (kb:Below W.heap.size W w) (hl:bs.length+cs.length≤140737488355328)
 (h:∀v' w',OB W.heap.size w' v' (bs++cs)→Below W.heap.size W w'→K (a.put o.dst v') w'):Oper.wp Tryz.prog o a w K Q:=by
 obtain⟨i,hi,jN,jA,jB⟩:=info_parts ig;have q:=eJ (P:=Tryz.prog) (w:=w) (ops:=#[]) (o:=o) (a:=a) (K:=K) (Q:=Q) (E:=True) qi s x 24 ho W.heap.size 5 Tryz.underlying24 hi jN jA jB rfl v bs.length (aJ bs) hs cf vx (aJ cs) hx dI (dr _) zbQ zaV kb.size (fun v' w' h1 h2=>by
  refine h v' w' ?_ (f9 kb cf kb.size h2);rw[ai,←bE]at h1;rw[OB,zA5];exact h1)
 rwa[if_pos zad]at q
theorem CX (i:Int) (w:World):
 CB 18 #[.int .i64 i] w (.agg (ag 12 (kM i)).toArray):=by
 have hN:=zH (HZ i);obtain⟨N,hNe⟩:=zX (kM i);rw[hNe]at hN⊢;clear hNe;go_enter Tryz.func18,Tryz.ntmps18;go_upto_region 1 with fail
 refine aH (fun w1 aB k2 kb=>?_);replace k2:Arr w1 w.heap.size (ag 12 0):=k2;clear aB;go_upto_region 2 with fail
 refine aH (fun w2 aB k3 hb=>?_);replace k3:Arr w2 w1.heap.size (ag 12 0):=k3;have l2:=k2.lt;replace k2:=k2.below hb;replace kb:=az kb hb;obtain⟨g3,kZ⟩:=zX w1.heap.size;rw[kZ]at k3 l2⊢;clear aB hb kZ;refine cH 3 4 fun aP=>?_;refine eZ ?_ 2 3 zaD [0,1] (fun _ _=>zRd) ?_;refine aY 2 7 rfl zDk (fun K hK=>?_);go_simp;refine(oy i _).mono ?_;rintro e i8 ⟨v,rfl,o8,dA⟩;have bn:=aW aP (zA0 _) dA;refine hK (fun w'=>Below (w2).heap.size (w2) w') _ _ bn (fun _ h=>h) ?_;clear hK K aP;try simp only[Act.put,zSa,zSz,zSs]
 refine bf 15 rfl zDk (fun K hK=>?_);replace k2:=k2.below bn;replace k3:=k3.below bn;replace kb:=az kb bn;clear bn;obtain⟨w3,Vm⟩:=zX i8;rw[Vm]at k2 k3 kb o8⊢;clear Vm;refine gf rfl _ _ 24 24 rfl 5 Tryz.underlying24 zKr g3 4 8 8 rfl _ k3 zb8 _ rfl _ (Sl.of_own o8) (dr _) ?_;have e:(ag 12 0).take 4++(aJ (jG i)).take 8++(ag 12 0).drop (4+((aJ (jG i)).take 8).length)=ag 12 N:=by
  have e8:(aJ (jG i)).take 8=aJ (jG i):=zA8 (by rw[ai,cg];exact zA0 _);rw[e8,ai,cg,List.drop_eq_nil_of_le zb8,zA31,←hN.out,bE];simp[bS];rfl
 rw[e];have hg:=mW w3 g3 (ag 12 N).toArray;replace k3:=k3.setRow (ag 12 N);replace k2:=k2.kept hg zOm;replace kb:=aq kb hg zOm kb.size;clear e o8;generalize w3.setRow g3 (ag 12 N).toArray=w4 at*;refine hK (fun _=>True) 9999 _ _ ?_;clear hK K;try simp only[Act.put]
 try simp only[zSa,zSz,zSs]
 refine ap zKr ?_;go_wp2_with(first|refine aR ?_|refine aU ?_);exact bodyPost_ret (aj Tryz.results18 _ _ _ rfl zKr _ zaE zLn) rfl ⟨rfl,ah kb zOm _⟩
theorem Kw (K:Nat) (v i:Int) (a:Option Addr) (c:Nat) (bs:List UInt8) (hl:bs.length=64) (hv:0≤v∧v≤2147483647) (hi:0≤i∧i<32) (w:World) (h:Sl w (.slice a 64 c) (aJ bs)):
 Calls Tryz.prog 55 #[.agg (ag 32 K).toArray,.int .i64 v,.int .i64 i,.slice a 64 c] w fun e w'=>∃u,e=.returned (.tuple #[u,.int .i64 0])∧OB w.heap.size w' u (kd K v i bs)∧Below w.heap.size w w':=by
 have cA:Hid (∀w' u,Below w.heap.size w w'→Sl w' u (aJ (jG v))→(∃d cd,u=.slice d 8 cd)→Calls Tryz.prog 64 #[.agg (ag 32 K).toArray,.agg (ag 12 (kM i)).toArray,.slice a 64 c,u] w' fun e w2=>∃u,e=.returned u∧OB w'.heap.size w2 u (kd K v i bs)∧Below w'.heap.size w' w2):=zH (fun w' u hb hs ⟨d,cd,he⟩=>by
  subst he;have q:=EH K (kM i) a d c cd bs (bS [v]) zOm (by rw[de];simp) w' (by rw[hl];exact h.below hb) (by rw[de];simpa[bS]using hs);rw[hl,de]at q;exact q)
 obtain⟨N,hN⟩:=zX (kM i);have cN:=zH (fun w=>CX i w);rw[hN]at cA cN;obtain⟨G,hG⟩:=zX (kd K v i bs);rw[hG]at cA⊢;have cM:=zH (fun w=>qt v hv.1 hv.2 w);have i1:¬i<0∧¬31<i:=zOm;clear hN hG h hl hv hi;go_enter Tryz.func55,Tryz.ntmps55;go_upto_region 1 with fail
 refine aH (fun w1 aB k4 kb=>?_);replace k4:Arr w1 w.heap.size (ag 32 K):=k4;clear aB;go_wp2_with fail;refine zQ (cM.out _) fun w2 hb=>?_;replace k4:=k4.below hb;replace kb:=az kb hb;clear hb cM;go_upto_region 3 with fail
 refine cH 9999 9 fun bB=>?_;refine dz ?_ 5 27 zaI [0,1,3,4] (fun w' hB=>by have y4:=k4.below hB;exact zRd) ?_;refine eg 2 31 bB cN.out fun pJ b9=>?_;refine aY 5 63 rfl zDk (fun K hK=>?_);go_simp;refine(oy v _).mono ?_;rintro e m9 ⟨u,rfl,o8,gH⟩;have di:=aW b9 (zA0 _) gH;refine hK (fun w'=>Below (w2).heap.size (w2) w') _ _ di (fun _ h=>h) ?_;clear hK K b9;try simp only[Act.put,zSa,zSz,zSs]
 have hM:=(az kb di).size;refine aY 6 127 rfl zDk (fun K hK=>?_);go_simp;refine(cA.out _ _ (az kb di) (Sl.of_own o8) (rc o8)).mono ?_;rintro e qD ⟨u7,rfl,hz,ia⟩;have dV:=aW di (zA0 _) ia;refine hK (fun w'=>Below (w2).heap.size (w2) w') _ _ dV (fun _ h=>h) ?_;clear hK K di;try simp only[Act.put,zSa,zSz,zSs]
 refine dz ?_ 0 511 zaL [7,8] (fun _ _=>zRd) ?_;refine ap zKr ?_;have kb:=az kb dV;go_wp2_with fail;go_ret2;exact⟨u7,rfl,hz.mono hM,kb⟩
theorem CZ (K:Nat) (v i:Int) (a:Option Addr) (c:Nat) (bs:List UInt8) (hl:bs.length=80) (hv:0≤v∧v≤2147483647) (hi:0≤i∧i<32) (w:World) (h:Sl w (.slice a 80 c) (aJ bs)):
 Calls Tryz.prog 6 #[.agg (ag 32 K).toArray,.int .i64 v,.int .i64 i,.slice a 80 c] w fun e w'=>
  ∃u,e=.returned (.tuple #[u,.int .i64 (if pF K (kM i) (bs.take 64) (bS [v])=bs.drop 64 then 0 else 10)])∧Below w.heap.size w w':=by
 have cA:Hid (∀w' u,Below w.heap.size w w'→Sl w' u (aJ (jG v))→(∃d cd,u=.slice d 8 cd)→Calls Tryz.prog 17 #[.agg (ag 32 K).toArray,.agg (ag 12 (kM i)).toArray,.slice a 80 c,u] w' fun e w2=>∃u,e=.returned (.tuple #[u,.bool (decide (pF K (kM i) (bs.take 64) (bS [v])=bs.drop 64))])∧Below w'.heap.size w' w2):=zH (fun w' u hb hs ⟨d,cd,he⟩=>by
  subst he;have q:=ON K (kM i) a d c cd bs (bS [v]) zOm (by rw[de];simp) zOm w' (by rw[hl];exact h.below hb) (by rw[de];simpa[bS]using hs);rw[hl,de]at q;exact q)
 obtain⟨N,hN⟩:=zX (kM i);have cN:=zH (fun w=>CX i w);rw[hN]at cA cN⊢;obtain⟨D,hD⟩:=zX (decide (pF K N (bs.take 64) (bS [v])=bs.drop 64));rw[hD]at cA;have hX:Hid ((if pF K N (bs.take 64) (bS [v])=bs.drop 64 then 0 else 10:Int)=if D then 0 else 10):=zH (by rw[←hD];simp);rw[hX.out];have cM:=zH (fun w=>qt v hv.1 hv.2 w);have i1:¬i<0∧¬31<i:=zOm;clear hN hD hX h hl hv hi;go_enter Tryz.func6,Tryz.ntmps6;go_upto_region 1 with fail
 refine aH (fun w1 aB k4 kb=>?_);replace k4:Arr w1 w.heap.size (ag 32 K):=k4;clear aB;go_wp2_with fail;refine zQ (cM.out _) fun w2 hb=>?_;replace k4:=k4.below hb;replace kb:=az kb hb;clear hb cM;go_upto_region 3 with fail
 refine cH 9999 12 fun iB=>?_;refine dz ?_ 8 27 zbb [0,1,3,4] (fun w' hB=>by have y4:=k4.below hB;exact zRd) ?_;refine eg 2 31 iB cN.out fun rY kV=>?_;refine aY 5 63 rfl zDk (fun K hK=>?_);go_simp;refine(oy v _).mono ?_;rintro e xF ⟨u,rfl,o8,ya⟩;have hU:=aW kV (zA0 _) ya;refine hK (fun w'=>Below (w2).heap.size (w2) w') _ _ hU (fun _ h=>h) ?_;clear hK K kV;try simp only[Act.put,zSa,zSz,zSs]
 refine aY 6 127 rfl zDk (fun K hK=>?_);go_simp;refine(cA.out _ _ (az kb hU) (Sl.of_own o8) (rc o8)).mono ?_;rintro e kN ⟨u7,rfl,ja⟩;have eT:=aW hU (zA0 _) ja;refine hK (fun w'=>Below (w2).heap.size (w2) w') _ _ eT (fun _ h=>h) ?_;clear hK K hU;try simp only[Act.put,zSa,zSz,zSs]
 refine dz ?_ 0 4095 (by exact eT) [7,8,9,10,11] (fun _ _=>zRd) ?_;refine ap zKr ?_;have kb:=az kb eT;cases D
 ·go_wp2_with fail;go_ret2;exact⟨⟨_,rfl⟩,kb⟩
 ·go_wp2_with fail;go_ret2;exact⟨⟨_,rfl⟩,kb⟩
theorem OH (n:Nat) (hn:2≤n) (oO:n≤1000000) (w:World):
 CB 68 #[.int .i64 (n:Int)] w (.int .i64 (oM n:Int)):=by
 have h2:=hn;obtain⟨N,hN⟩:=zX (oM n);rw[hN];replace hN:=zH hN;replace h2:=zH h2;go_enter Tryz.func68,Tryz.ntmps68;go_wp2_with fail;go_loopw[3] (fun kv wr=>∃f j k:Nat,kv=.int .i64 (k:Int)∧0<k∧k<n∧k=2^j∧f+j=20∧Fk f n k=oM n∧Below w.heap.size w wr) (fun kv _=>n-(intOf kv).toNat)
 case atStart=>exact⟨20,0,1,rfl,by decide,by have:=h2.out;omega,rfl,rfl,rfl,zA6 _ _⟩
 case round=>
 obtain⟨f,j,k,rfl,XS,JH,hkj,hfj,hc,hb⟩:=hrel
 by_cases bK:k<n-k
 ·have afX:2*(k:Int)<(n:Int):=zOm;have hf:f≠0:=by
   rintro rfl;have:j=20:=zOm;subst this;omega
  obtain⟨f',rfl⟩:∃f',f=f'+1:=⟨f-1,by omega⟩;have pH:Hid (Fk f' n (k*2)=oM n):=zH (by rw[←hc,Fk,if_pos bK]);have IT:Hid (k*2=2^(j+1)):=zH (by rw[zA24,hkj]);clear hc hkj hf;go_wp2_with fail;exact⟨⟨f',j+1,k*2,by congr 1;omega,by omega,by omega,IT.out,by omega,pH.out,hb⟩,by simp[intOf];omega⟩
 ·have afX:¬2*(k:Int)<(n:Int):=zOm;have hkN:Hid (k=N):=zH (by
   rw[←hN.out,←hc];cases f with
   |zero=>rfl
   |succ f=>rw[Fk,if_neg bK])
  clear hc hkj;go_wp2_with fail;go_ret;exact⟨by rw[hkN.out];rfl,hb⟩
theorem Ku (d:Option Addr) (c:Nat) (L:List UInt8) (BW:0<L.length) (hl:L.length≤1000000) (w:World) (h:Sls w (.slice d 1 c) [L]) (kG:Arr w 0 (ws ju)):
 CB 37 #[.slice d 1 c] w (.agg (ag 32 (HD L)).toArray):=by
 obtain⟨b,o,x,cx,rfl,-,-⟩:=h.at (j:=0) zac;obtain⟨N,hN⟩:=zX (HD L);replace hN:Hid (iT ([0]++L)=N):=zH hN;rw[show HD L=N from hN.out];obtain⟨n,hn⟩:=zX L.length;rw[hn]at hl BW;replace h:=zH h;replace hn:=zH hn;replace kG:=zH kG;go_enter Tryz.func37,Tryz.ntmps37;go_upto_region 1 with fail
 refine aH (fun W aB k2 kb=>?_);replace k2:Arr W w.heap.size (ag 32 0):=k2;clear aB;obtain⟨b',o',x',cx',hE,cZ,hL⟩:=(h.out.below kb).at (j:=0) zac;cases hE;replace cZ:W.cell? ⟨b,o,none⟩=some (.slice x' n cx'):=(by rw[←hn.out];exact cZ);replace hL:Hid (Sl W (.slice x' n cx') (aJ L)):=zH (by rw[←hn.out];exact hL);have Nk:=zH (zA11 W _ cZ);have mK:=ae W (.cells #[.int .u8 0] 5);have sq:(W.alloc (.cells #[.int .u8 0] 5)).cell? ⟨b,o,none⟩=some (.slice x' n cx'):=(by rw[mK.cell Nk.out];exact cZ);clear cZ h;go_wp2_with(at_builtin;refine GC (bs:=[0]) (cs:=L) rfl _ _ rfl rfl rfl (Sl.new1 _ _ _) (hL.out.below mK) (by rw[hn.out];simp;omega) (by rw[hn.out];simp;omega) (fun v w3 o1 hb=>?_));replace hb:=az mK hb;replace k2:=k2.below hb;replace kb:=az kb hb;clear hb mK sq hL Nk;refine zQ (tP o1 (by rw[zA5,hn.out];simp;omega) (kG.out.below kb)) fun w4 hb=>?_;replace k2:=k2.below hb
 replace kb:=az kb hb;rw[hN.out];clear hb o1 hN;go_wp2_with(refine aU ?_);exact bodyPost_ret (aj Tryz.results37 _ _ _ rfl zKr _ zaE zLn) rfl ⟨rfl,ah kb (zA0 _) _⟩
theorem Kv (b o n c k x y:Nat) (ls:List (List UInt8)) (hn:ls.length=n) (oO:2≤n) (Ut:n≤100000) (hk:oM n=k) (w:World) (h:Sls w (.slice (some ⟨b,o,none⟩) n c) ls) (kG:Arr w 0 (ws ju))
 (cA:∀w',Below w.heap.size w w'→Sls w' (.slice (some ⟨b,o,none⟩) k c) (ls.take k)→CB 37 #[.slice (some ⟨b,o,none⟩) k c] w' (.agg (ag 32 x).toArray))
 (cB:∀w',Below w.heap.size w w'→Sls w' (.slice (some ⟨b,o+k,none⟩) (n-k) (c-k)) (ls.drop k)→CB 37 #[.slice (some ⟨b,o+k,none⟩) (n-k) (c-k)] w' (.agg (ag 32 y).toArray)):
 CB 37 #[.slice (some ⟨b,o,none⟩) n c] w (.agg (ag 32 (Ag x y)).toArray):=by
 have JH:=Lr oO;rw[hk]at JH;have cC:=zH (fun w=>show CB 68 #[.int .i64 (n:Int)] w (.int .i64 (k:Int)) from by rw[←hk];exact OH n oO zOm w);obtain⟨-,hnc,ye⟩:=h.len;obtain⟨z,hz⟩:=zX (Ag x y);replace hz:Hid (iT ([1]++nb 32 x++nb 32 y)=z):=zH (by rw[←hz,Ag];simp);rw[show Ag x y=z by rw[←hz.out,Ag];simp];have hA:=zH (fun w' (hb:Below w.heap.size w w')=>(h.below hb).take (m:=k) zOm);have hB2:=zH (fun w' (hb:Below w.heap.size w w')=>(h.below hb).drop (m:=k) zOm);replace cA:=zH cA;replace cB:=zH cB;replace kG:=zH kG;have m0:(0:Int)≤(k:Int)∧¬(k:Int)<0∧(k:Int)≤(c:Int)∧(k:Int)≤(n:Int)∧¬c=k∧¬(n:Int)=0∧¬(n:Int)=1:=zOm;clear hk h hn oO Ut JH hnc ye;go_enter Tryz.func37,Tryz.ntmps37;go_upto_region 1 with fail
 refine aH (fun W aB k2 kb=>?_);replace k2:Arr W w.heap.size (ag 32 0):=k2;clear aB;go_wp2_with fail;refine zQ (cC.out _) fun w1 hb=>?_;replace k2:=k2.below hb;replace kb:=az kb hb;clear hb cC;go_wp2_with fail;refine zQ (cA.out _ kb (hA.out _ kb)) fun w2 hb=>?_;replace k2:=k2.below hb;replace kb:=az kb hb;clear hb cA hA;go_upto_region 8 with(refine aD rfl _ _ _ rfl _ (ag 32 x) rfl rfl _ (Arr.new _ _ _) zbx zbR (bm _ _) (fun w3 k4 hg aB=>?_))
 have hb:=a9 hg;have l2:=k2.lt;replace k2:=k2.below hb;replace kb:=az kb hb;obtain⟨g4,mT⟩:=zX w2.heap.size;rw[mT]at k4 l2⊢;clear hb hg aB mT;go_wp2_with fail;refine zQ (cB.out _ kb (hB2.out _ kb)) fun w4 hb=>?_;replace k2:=k2.below hb;replace k4:=k4.below hb;replace kb:=az kb hb;clear hb cB hB2;go_upto_region 9 with(refine aD rfl _ _ _ rfl _ (ag 32 y) rfl rfl _ (Arr.new _ _ _) zbx zbR (bm _ _) (fun w5 k5 hg aB=>?_))
 have hb:=a9 hg;replace k2:=k2.below hb;replace k4:=k4.below hb;replace kb:=az kb hb;obtain⟨g5,jJ⟩:=zX w4.heap.size;rw[jJ]at k5⊢;clear hb hg aB jJ;rw[eB]at k4 k5;have hS:Below w5.heap.size w5 w5.drew:=(zA6 _ _).drew;have h4:=zH (fun w' (hb:Below w5.heap.size w5 w')=>Sl.ofArrN (k4.below hb) (aC 32 x) zDc);have h5:=zH (fun w' (hb:Below w5.heap.size w5 w')=>Sl.ofArrN (k5.below hb) (aC 32 y) zDc);clear k4 k5;refine eC (fun w'=>Below w5.heap.size w5 w') 6 7 rfl zKr ?_;refine eZ ?_ 5 10 zcr [1,3] (fun _ _=>zRd) ?_;refine aY 0 11 rfl zDk (fun K hK=>?_);go_simp;have o0:=OB.new (B:=w5.heap.size) w5.drew [1] hS.size zDc;have iG:=hS.alloc hS.size (.cells (aJ [1]).toArray 5);refine hK _ _ _ iG (fun _ h=>h) ?_;refine aY 2 15 rfl zDk (fun K hK=>?_);refine kH rfl ?_;refine tS (W:=w5) rfl _ _ rfl rfl rfl o0 (h4.out _ iG) iG zck (fun v w6 o0 iG=>?_)
 refine hK _ _ _ iG (fun _ h=>h) ?_;refine aY 4 31 rfl zDk (fun K hK=>?_);refine kH rfl ?_;refine tS (W:=w5) rfl _ _ rfl rfl rfl o0 (h5.out _ iG) iG (by rw[zA5,aC,aC];decide) (fun v w7 o0 iG=>?_);refine hK _ _ _ iG (fun _ h=>h) ?_;clear h4 h5 hS;refine aY 5 63 rfl zDk (fun K hK=>?_);go_simp;refine zQ (tP o0 (by rw[zA5,zA5,aC,aC];decide) ((kG.out.below kb).below iG)) fun w8 hb=>?_;rw[hz.out];replace iG:=az iG hb;refine hK _ _ _ iG (fun _ h=>h) ?_;clear o0 hb hz kG;replace k2:=k2.below iG;replace kb:=az kb iG;refine bf 127 rfl zDk (fun K hK=>?_);refine gg rfl _ _ _ rfl w.heap.size (ag 32 z) rfl rfl _ k2 zbx za3 (bm _ _) (fun w9 k2 hg aB=>?_);replace kb:=aq kb hg (zA0 _) kb.size;refine hK (fun _=>True) 9999 _ _ ?_;clear hK K;try simp only[Act.put]
 try simp only[zSa,zSz,zSs]
 refine ap zKr ?_;go_wp2_with fail;exact bodyPost_ret (aj Tryz.results37 _ _ _ rfl zKr _ zaE zLn) rfl ⟨rfl,kb⟩
theorem vL:∀(f:Nat) (ls:List (List UInt8)),ls.length≤f→ls.length≤100000→ls≠[]→(∀l∈ls,0<l.length∧l.length≤1000000)→∀(d:Option Addr) (c:Nat) (w:World),Sls w (.slice d ls.length c) ls→Arr w 0 (ws ju)→
 CB 37 #[.slice d ls.length c] w (.agg (ag 32 (tf f ls)).toArray)
 |f,[],_,_,rW,_,d,c,w,_,_=>absurd rfl rW
 |f,[b],_,_,_,dB,d,c,w,h,kG=>by
  rw[OM];exact Ku d c b (dB b zac).1 (dB b zac).2 w h kG
 |0,b1::b2::ls,h0,_,_,_,_,_,_,_,_=>by simp at h0
 |f+1,b1::b2::ls,h0,h1,_,dB,d,c,w,h,kG=>by
  obtain⟨L,hL⟩:=zX (b1::b2::ls);have pI:2≤L.length:=(by rw[←hL];simp);have hr:tf (f+1) (b1::b2::ls)=Ag (tf f (L.take (oM L.length))) (tf f (L.drop (oM L.length))):=(by subst hL;exact Kt f b1 b2 ls);rw[hr];rw[hL]at h h0 h1 dB⊢;obtain⟨b,o,x,cx,rfl,-,-⟩:=h.at (j:=0) zOm;have hc:=Lr pI;have e1:(L.take (oM L.length)).length=oM L.length:=za6;have e2:(L.drop (oM L.length)).length=L.length-oM L.length:=List.length_drop;refine Kv b o L.length c (oM L.length) _ _ L rfl pI h1 rfl w h kG (fun w' hb h'=>?_) (fun w' hb h'=>?_)
  ·have q:=vL f (L.take (oM L.length)) zOm zOm (fun e=>by rw[e]at e1;simp at e1;omega) (fun l hl=>dB l (List.mem_of_mem_take hl)) (some ⟨b,o,none⟩) c w' (by rw[e1];exact h') (kG.below hb);rwa[e1]at q
  ·have q:=vL f (L.drop (oM L.length)) zOm zOm (fun e=>by rw[e]at e2;simp at e2;omega) (fun l hl=>dB l (List.mem_of_mem_drop hl)) (some ⟨b,o+oM L.length,none⟩) (c-oM L.length) w' (by rw[e2];exact h') (kG.below hb);rwa[e2]at q
end Go.Proofs.YtgfkgolafkdjfaaGreatDoor
