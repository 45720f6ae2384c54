/- ModelWrong: part 21 of its proof: lemmas and contracts, each with its conditions in its own statement; the last part holds the law itself. -/
import Derived.Test.YtgfkgolafkdjfaaGreatDoorJv20
import Derived.Laws.MakeOwn

set_option maxHeartbeats 4000000
set_option maxRecDepth 100000
namespace Go.Proofs.YtgfkgolafkdjfaaGreatDoor
open Go.RowKit
theorem zM {P:Program} {w:World} {ops:Array Oper} {rest:List Oper} {o:Oper} {a:Act} {Q:Exit→Act→World→Prop} (hw:Region.wanted o (yielded ops a.tmps)=true) (d s:Operand) (dT sT:TypeId)
 (ho:o.op=.call {callee:=.builtin .copy,args:=#[d,s],argTypes:=#[dT,sT]}) (elem:TypeId) (hu:P.underlying dT=some (.slice elem)) (aB:(P.info? elem).map (·.size)=some 1)
 (g off dLen dCap:Nat) (hd:a.eval d=.slice (some ⟨g,off,none⟩) dLen dCap) (xs:List Value) (hg:Arr w g xs) (uV:off+dLen≤xs.length) (vs:Value) (hs:a.eval s=vs) (full:List Value) (dI:Sl w vs full) (h1:∀v∈full,v.oneCell'=true)
 (ys:List Value) (GI:xs.take off++full.take dLen++xs.drop (off+(full.take dLen).length)=ys)
 (h:∀(W:World) (m:Int),Arr W g ys→w.grownBy W (some g)→W.heap.size=w.heap.size→wpList P ops Q rest (a.put o.dst (.int .i64 m)) W):wpList P ops Q (o::rest) a w:=by
 refine nc hw d s dT sT ho elem hu aB g off dLen dCap hd xs hg uV vs hs full dI h1 ?_;rw[GI];exact h _ _ (hg.setRow ys) (mW w g _) zaQ
def nb (k n:Nat):List UInt8:=(bF 256 k n).map UInt8.ofNat
theorem aC (k n:Nat):(nb k n).length=k:=by simp[nb,bj]
theorem eB (k n:Nat):ag k n=aJ (nb k n):=sd k n
theorem A7 (n:Nat):aJ (List.replicate n 0)=List.replicate n (.int .u8 0):=by simp[aJ]
def lB (key:List UInt8) (b:UInt8):Nat→List UInt8
 |0=>key++List.replicate (64-key.length) 0
 |i+1=>(lB key b i).set i ((lB key b i).getD i 0 ^^^b)
def lA (key:List UInt8) (b:UInt8):List UInt8:=lB key b 64
theorem lC {key:List UInt8} (h:key.length≤64) (b:UInt8):∀i,(lB key b i).length=64
 |0=>by rw[lB,zA5,List.length_replicate];omega
 |i+1=>by rw[lB,zA23,lC h b i]
theorem re (a:Option Addr) (cap:Nat) (key:List UInt8) (b:UInt8) (hk:key.length≤64) (w:World) (hs:Sl w (.slice a key.length cap) (aJ key)):
 Calls Tryz.prog 238 #[.slice a key.length cap,.int .u8 (b.toNat:Int)] w fun e w'=>
  ∃g,e=.returned (.slice (some ⟨g,0,none⟩) 64 64)∧w.heap.size≤g∧Arr w' g (aJ (lA key b))∧Below w.heap.size w w':=by
 have ud:∀w:World,(Instr.makeSlice 24 (.int .i64 64) (.int .i64 64)).run Tryz.prog w=.ok (.slice (some ⟨w.heap.size,0,none⟩) 64 64) (w.alloc (.cells (aJ (List.replicate 64 0)).toArray 5)):=fun w=>mN 64 zDc w;have mM:(Tryz.prog.info? 5).map (·.size)=some 1:=zKr;have fQ:=zH (dr key);have DM:Hid ((aJ (List.replicate 64 0)).take 0++(aJ key).take 64++(aJ (List.replicate 64 0)).drop (0+((aJ key).take 64).length)=aJ (lB key b 0)):=zH (by
  rw[List.take_zero,List.nil_append,zA8 zaV,ai,Nat.zero_add,lB,bE];congr 1;rw[A7,A7,List.drop_replicate])
 obtain⟨y,hy⟩:=zX b.toNat;have ly:y<256:=(by rw[←hy];exact b.toNat_lt);rw[hy];replace hy:=zH hy;replace mM:=zH mM;replace hs:=zH hs;replace hk:=zH hk;go_enter Tryz.func238,Tryz.ntmps238;go_upto_region 2 with fail
 refine aH (fun W aB k5 kb=>?_);replace k5:Arr W w.heap.size (aJ (List.replicate 64 0)):=k5;replace hs:=zH (hs.out.below kb);clear aB ud;obtain⟨g5,jJ⟩:=zX w.heap.size;rw[jJ]at k5⊢;have hw5:w.heap.size≤g5:=zOm;clear jJ;go_wp2_with(refine zM rfl _ _ 24 24 rfl 5 Tryz.underlying24 mM.out g5 0 64 64 rfl _ k5 (by rw[ai];decide) _ rfl _ hs.out fQ.out _ DM.out (fun W2 m k5 hg aB=>?_));replace kb:=aq kb hg hw5 kb.size;go_loopw[13] (fun iv wr=>∃i:Nat,i≤64∧iv=.int .i64 i∧Arr wr g5 (aJ (lB key b i))∧Below w.heap.size w wr) (fun iv _=>64-(intOf iv).toNat)
 case atStart=>exact⟨0,by omega,rfl,k5,kb⟩
 case round=>
 clear k5 kb hs DM fQ;obtain⟨i,hi,rfl,k5,kb⟩:=hrel;have mA:(0:Int)≤(i:Int):=zOm
 by_cases iS:i<64
 ·have ub:(i:Int)<64:=zOm;have hl:=lC hk.out b i;have Zx:i<(lB key b i).length:=(by rw[hl];exact iS);have hc:=k5.cell (eY _ i Zx);have hf:=k5.frozen i;obtain⟨x,hx⟩:=zX (((lB key b i)[i]).toNat);have lx:x<256:=(by rw[←hx];exact((lB key b i)[i]).toNat_lt);have aL:Hid ((aJ (lB key b i)).set i (.int .u8 ((x ^^^y:Nat):Int))=aJ (lB key b (i+1))):=zH (by
   rw[lB,zA10,zA7 Zx,Option.getD_some,←hx,←hy.out,←UInt8.toNat_xor];simp[aJ,List.map_set])
  rw[hx]at hc;have fx:=rG lx ly;obtain⟨z,hz⟩:=zX (x ^^^y);rw[hz]at fx aL;clear hx hz Zx hl;go_wp2_with fail;replace k5:=k5.set i (.int .u8 (z:Int));rw[aL.out]at k5;exact⟨⟨i+1,by omega,by go_num,k5,kb.setCell zab _⟩,by simp[intOf];omega⟩
 ·have dj:decide ((i:Int)<64)=false:=decide_eq_false zOm;have jM:Hid (i=64):=zH zOm;rw[jM.out]at k5;go_wp2_with fail;go_ret;exact⟨g5,rfl,hw5,k5,kb⟩
def J5 (key:List UInt8):List UInt8:=if 64<key.length then nb 32 (iT key)else key
def ql (key bs:List UInt8):Nat:=iT (lA (J5 key) 92++nb 32 (iT (lA (J5 key) 54++bs)))
theorem Sls.vals {w:World} {v:Value} {ls:List (List UInt8)} (h:Sls w v ls):∃vs,Sl w v vs∧vs.length=ls.length∧(∀u∈vs,u.oneCell'=true)∧∀(j:Nat) (a:Value) (b:List UInt8),vs[j]? =some a→ls[j]? =some b→Sl w a (aJ b):=by
 obtain⟨vs,h1,h2,h3⟩:=h;refine⟨vs,h1,h2,fun u hu=>?_,h3⟩;obtain⟨j,hj,rfl⟩:=List.mem_iff_getElem.1 hu;obtain⟨x,c,e,-⟩:=h3 j _ (ls[j]'zOm) (zA7 hj) (zA7 zOm);rw[e];rfl
theorem wO:(Tryz.prog.info? 24).map (fun i=>(i.zero,i.size,i.bytes))=some (some (.slice none 0 0),1,24):=by kernel_rfl
theorem VL (w:World) (v:Value) (T:TypeId):(w.alloc (.cells #[v] T)).ownsRow w.heap.size T 1 (.slice (some ⟨w.heap.size,0,none⟩) 1 1) 1 [v]:=
 ⟨rfl,.inr ⟨w.heap.size,1,#[v],rfl,zA0 _,heap_alloc_new w _,zA0 _,by decide,rfl,rfl⟩⟩
theorem Sls.new1 {w:World} {v1:Value} {b1:List UInt8} (h1:Sl w v1 (aJ b1)) (T:TypeId):Sls (w.alloc (.cells #[v1] T)) (.slice (some ⟨w.heap.size,0,none⟩) 1 1) [b1]:=by
 refine⟨[v1],Sl.new1 w v1 T,rfl,?_⟩;intro j a b' ha jW
 match j with
 |0=>simp only[List.getElem?_cons_zero,Option.some.injEq]at ha jW;subst ha jW;exact h1.alloc _
 |j+1=>simp at ha
theorem Sls.new2 {w:World} {v1 v2:Value} {b1 b2:List UInt8} (h1:Sl w v1 (aJ b1)) (h2:Sl w v2 (aJ b2)) (T:TypeId):Sls (w.alloc (.cells #[v1,v2] T)) (.slice (some ⟨w.heap.size,0,none⟩) 2 2) [b1,b2]:=by
 refine⟨[v1,v2],⟨_,2,rfl,zA0 _,by decide,fun h=>zaa,fun x hx=>?_⟩,rfl,?_⟩
 ·cases hx;intro j u hu;rw[Addr.add_lit,Nat.zero_add];exact(Arr.new w #[v1,v2] T).cell hu
 ·intro j a b' ha jW
  match j with
  |0=>simp only[List.getElem?_cons_zero,Option.some.injEq]at ha jW;subst ha jW;exact h1.alloc _
  |1=>simp only[List.getElem?_cons_zero,zA33,Option.some.injEq]at ha jW;subst ha jW;exact h2.alloc _
  |j+2=>simp at ha
theorem Sls.cons {w w':World} {v v1:Value} {b1:List UInt8} {vs:List Value} {ls:List (List UInt8)} (h:Sl w' v ([v1]++vs)) (h1:Sl w' v1 (aJ b1)) (hl:vs.length=ls.length) (hv:∀(j:Nat) (a:Value) (b:List UInt8),vs[j]? =some a→ls[j]? =some b→Sl w a (aJ b)) (hb:Below w.heap.size w w'):Sls w' v (b1::ls):=by
 refine⟨_,h,by simp[hl],?_⟩;intro j a b ha jW
 match j with
 |0=>simp only[List.singleton_append,List.getElem?_cons_zero,Option.some.injEq]at ha jW;subst ha jW;exact h1
 |j+1=>simp only[List.singleton_append,zA33]at ha jW;exact(hv j a b ha jW).below hb
theorem FS (a d:Option Addr) (cap cd:Nat) (key:List UInt8) (ls:List (List UInt8)) (hk:key.length≤64) (dF:ls.length≤1000) (w:World) (hs:Sl w (.slice a key.length cap) (aJ key)) (vA:Sls w (.slice d ls.length cd) ls):
 Calls Tryz.prog 216 #[.slice a key.length cap,.slice d ls.length cd] w fun e w'=>e=.returned (.agg (ag 32 (ql key ls.flatten)).toArray)∧Below w.heap.size w w':=by
 have hm:Hid (J5 key=key):=zH (by rw[J5,if_neg zOm]);obtain⟨X,hX⟩:=zX (Ending.returned (.agg (ag 32 (ql key ls.flatten)).toArray));rw[hX];rw[ql,hm.out]at hX;replace hX:=zH hX;obtain⟨k2,rfl⟩:∃k2,k2=key:=⟨_,rfl⟩;obtain⟨n2,oO⟩:=zX k2.length;rw[oO]at hs hk⊢;replace oO:=zH oO;have FH:=zH hk;have hK:=zH hs;replace vA:=zH vA;have JL:¬(64:Int)<(n2:Int):=zOm;obtain⟨a2,rfl⟩:∃a2,a2=a:=⟨_,rfl⟩;obtain⟨c2,rfl⟩:∃c2,c2=cap:=⟨_,rfl⟩;clear hs hm;go_enter Tryz.func216,Tryz.ntmps216;go_upto_region 1 with fail
 refine aH (fun wA aB k4 kb=>?_);replace k4:Arr wA w.heap.size (ag 32 0):=k4;replace hK:=zH (hK.out.below kb);replace vA:=zH (vA.out.below kb);clear aB;obtain⟨vs,Z6,DN,NN,Uz⟩:=vA.out.vals;have IV:=zH Z6;replace NN:=zH NN;replace Uz:=zH Uz;replace DN:=zH DN;clear Z6 vA;have cp1:=zH (show ∀w',Below wA.heap.size wA w'→Calls Tryz.prog 238 #[.slice a2 n2 c2,.int .u8 54] w' fun e w2=>∃g,e=.returned (.slice (some ⟨g,0,none⟩) 64 64)∧w'.heap.size≤g∧Arr w2 g (aJ (lA k2 54))∧Below w'.heap.size w' w2 from fun w' hb=>by
  have q:=re a2 c2 k2 54 zbT w' zbU;rw[oO.out]at q;exact q)
 have cp2:=zH (show ∀w',Below wA.heap.size wA w'→Calls Tryz.prog 238 #[.slice a2 n2 c2,.int .u8 92] w' fun e w2=>∃g,e=.returned (.slice (some ⟨g,0,none⟩) 64 64)∧w'.heap.size≤g∧Arr w2 g (aJ (lA k2 92))∧Below w'.heap.size w' w2 from fun w' hb=>by
  have q:=re a2 c2 k2 92 zbT w' zbU;rw[oO.out]at q;exact q)
 have Dt:Hid ((lA k2 54).length=64):=zH (lC zbT _ _);have Ej:Hid ((lA k2 92).length=64):=zH (lC zbT _ _);obtain⟨i,hi,jN,jA,jB⟩:=info_parts wO;have hB0:=zA6 wA.heap.size wA;go_wp2_with fail;refine(cp1.out _ hB0).mono ?_;rintro e wB ⟨gp,rfl,hgp,kp,hb⟩;have hpS:=zH (Sl.ofArrN kp Dt.out zDc);have kbB:=hb;replace k4:=k4.below hb;clear hB0 hb kp hgp cp1;have kb2:=az kb kbB;have ZX:=kb2.size;go_wp2_with(at_builtin;refine dO rfl _ _ 25 rfl wB.heap.size 24 Tryz.underlying25 hi jN jA jB rfl _ _ _ rfl (VL wB _ _) _ vs rfl ((IV.out.below kbB).alloc _) NN.out ?c2 ?c3 zac (fun v' wC cf hg=>?_))
 case c2=>rw[DN.out];unfold maxLen;omega
 case c3=>rw[DN.out];omega
 have kbC:Below wB.heap.size wB wC:=f9 (ae wB _) (VL wB _ _) zac hg;have hS:=Sls.cons (ls:=ls) (Sl.of_own cf) (hpS.out.below kbC) DN.out Uz.out (az kbB kbC);clear cf hg hpS hi jN jA jB;obtain⟨aS,cS,rfl⟩:∃aS cS,v'=.slice aS (lA k2 54::ls).length cS:=by
  exact zes
 replace k4:=k4.below kbC;have kb3:=az kb2 kbC;have kbAC:=az kbB kbC;have cs1:=zH (oG _ _ _ wC hS);obtain⟨N1,hN1⟩:=zX (iT (lA k2 54::ls).flatten);rw[hN1]at cs1;rw[show lA k2 54++ls.flatten=(lA k2 54::ls).flatten from rfl]at hX;replace hN1:=zH hN1;obtain⟨n3,Ut⟩:=zX ((lA k2 54::ls).length);rw[Ut]at cs1⊢;clear hS Ut kb kb2 kbB kbC ZX IV;go_wp2_with fail;refine cs1.out.mono ?_;rintro e wD ⟨rfl,hb⟩;replace k4:=k4.below hb;have kb:=az kb3 hb;have kbA:=az kbAC hb;clear hb kb3 kbAC cs1;go_upto_region 5 with(refine aD rfl _ _ _ rfl _ (ag 32 N1) rfl rfl _ (Arr.new _ _ _) zbx zbR (bm _ _) (fun wE k6 hg aB=>?_))
 have hb:=a9 hg;have lt4:=k4.lt;replace k4:=k4.below hb;replace kb:=az kb hb;replace kbA:=az kbA hb;obtain⟨g6,lV⟩:=zX wD.heap.size;rw[lV]at k6 lt4⊢;clear hb aB hg lV;rw[eB]at k6;obtain⟨g4,mT⟩:=zX w.heap.size;rw[mT]at k4 lt4⊢;have X7:w.heap.size≤g4:=zOm;clear mT;obtain⟨N2,hN2⟩:=zX (iT [lA k2 92,nb 32 N1].flatten);have cs2:=zH (show ∀w g,Sls w (.slice (some ⟨g,0,none⟩) 2 2) [lA k2 92,nb 32 N1]→Calls Tryz.prog 144 #[.slice (some ⟨g,0,none⟩) 2 2] w fun e w'=>e=.returned (.agg (ag 32 N2).toArray)∧Below w.heap.size w w' from fun w g h=>by rw[←hN2];exact oG _ _ [lA k2 92,nb 32 N1] w h);have hXe:Hid (Ending.returned (.agg (ag 32 N2).toArray)=X):=zH (by rw[←hX.out,hN1.out,←hN2];simp);clear hN2;refine cH 5 6 fun aP=>?_;refine eZ ?_ 4 5 zaD [0,2] (fun _ _=>zRd) ?_;refine aY 1 7 rfl zDk (fun K hK=>?_);go_simp;refine(cp2.out _ (az kbA aP)).mono ?_;rintro e i8 ⟨gq,rfl,hgq,kq,dA⟩
 have bn:=aW aP (zA0 _) dA;refine hK (fun w'=>Below (wE).heap.size (wE) w') _ _ bn (fun _ h=>h) ?_;clear hK K aP;try simp only[Act.put,zSa,zSz,zSs]
 have pq:=Sl.ofArrN kq Ej.out zDc;have p6:=Sl.ofArrN (k6.below bn) (aC 32 N1) zDc;refine aY 3 15 rfl zDk (fun K hK=>?_);go_simp;refine hK (fun w'=>Below (wE).heap.size (wE) w') _ _ (aW bn (zA0 _) (ae _ _)) (fun _ h=>h) ?_;clear hK K;try simp only[Act.put,zSa,zSz,zSs]
 refine vT (F:=fun w'=>Sls w' (.slice (some ⟨(i8).heap.size,0,none⟩) 2 2) [lA k2 92,nb 32 N1]) (w0:=i8) (Sls.new2 pq p6 _) (fun w1 h=>h.below (zA6 _ _).drew) zbS (fun jF hS5 dc=>?_);have bB:Below (wE).heap.size (wE) jF:=(by first|exact dc|exact aW bn (zA0 _) dc);clear bn;refine eg 4 31 bB (cs2.out _ _ hS5) fun pJ b9=>?_;refine bf 63 rfl zDk (fun K hK=>?_);replace k4:=k4.below b9;replace kb:=az kb b9;clear b9;refine gg rfl _ _ _ rfl g4 (ag 32 N2) rfl rfl _ k4 zbx za3 (bm _ _) (fun w9 k4 hg aB=>?_);have qb:=aq kb hg X7 kb.size;refine hK (fun _=>True) 9999 _ _ ?_;clear hK K;try simp only[Act.put]
 try simp only[zSa,zSz,zSs]
 exact zeE
theorem HK (a d:Option Addr) (cap cd:Nat) (key:List UInt8) (ls:List (List UInt8)) (hk:64<key.length) (dF:ls.length≤1000) (w:World) (hs:Sl w (.slice a key.length cap) (aJ key)) (vA:Sls w (.slice d ls.length cd) ls):
 Calls Tryz.prog 216 #[.slice a key.length cap,.slice d ls.length cd] w fun e w'=>e=.returned (.agg (ag 32 (ql key ls.flatten)).toArray)∧Below w.heap.size w w':=by
 have hm:Hid (J5 key=nb 32 (iT key)):=zH (by rw[J5,if_pos hk]);obtain⟨X,hX⟩:=zX (Ending.returned (.agg (ag 32 (ql key ls.flatten)).toArray));rw[hX];rw[ql,hm.out]at hX;obtain⟨N0,hN0⟩:=zX (iT key);rw[hN0]at hX;replace hX:=zH hX;have aI:=hs.len;rw[ai]at aI;obtain⟨-,NF,ye⟩:=aI;unfold maxLen at ye;have cs0:=zH (show ∀w g,Sls w (.slice (some ⟨g,0,none⟩) 1 1) [key]→Calls Tryz.prog 144 #[.slice (some ⟨g,0,none⟩) 1 1] w fun e w'=>e=.returned (.agg (ag 32 N0).toArray)∧Below w.heap.size w w' from fun w g h=>by
  have q:=oG (some ⟨g,0,none⟩) 1 [key] w h;rw[show[key].flatten=key by simp,hN0]at q;exact q)
 obtain⟨n0,L5⟩:=zX key.length;rw[L5]at hs hk NF⊢;replace L5:=zH L5;have hK0:=zH hs;replace vA:=zH vA;have JL:(64:Int)<(n0:Int):=zOm;clear hs hm hN0;go_enter Tryz.func216,Tryz.ntmps216;go_upto_region 1 with fail
 refine aH (fun wA aB k4 kb=>?_);replace k4:Arr wA w.heap.size (ag 32 0):=k4;replace hK0:=zH (hK0.out.below kb);replace vA:=zH (vA.out.below kb);clear aB;go_upto_region 2 with fail
 go_wp2_with fail;refine zQ (cs0.out _ _ (Sls.new1 hK0.out _)) fun wB hb=>?_;have mK:=az (ae wA _) hb;replace k4:=k4.below mK;replace kb:=az kb mK;replace vA:=zH (vA.out.below mK);clear hb mK hK0 cs0;go_upto_region 3 with(refine aD rfl _ _ _ rfl _ (ag 32 N0) rfl rfl _ (Arr.new _ _ _) zbx zbR (bm _ _) (fun wC k5 hg aB=>?_))
 have hb:=a9 hg;replace k4:=k4.below hb;replace kb:=az kb hb;replace vA:=zH (vA.out.below hb);obtain⟨g5,jJ⟩:=zX wB.heap.size;rw[jJ]at k5⊢;clear hb aB hg jJ JL hk;rw[eB]at k5;have hK:=zH (Sl.ofArrN k5 (aC 32 N0) zDc);obtain⟨k2,IT⟩:=zX (nb 32 N0);have oO:Hid (k2.length=32):=zH (by rw[←IT,aC]);rw[IT]at hK hX;clear k5 IT;go_upto_region 4 with fail
 obtain⟨a2,n2,c2,hv⟩:∃a n c,Value.slice (some ⟨g5,0,none⟩) 32 32=Value.slice a n c:=⟨_,_,_,rfl⟩;have lP:=hv;simp only[Value.slice.injEq]at lP;obtain⟨-,e2,-⟩:=lP;have oO:Hid (k2.length=n2):=zH (by rw[←e2];exact oO.out);have FH:Hid (n2≤64):=zH zOm;rw[hv]at hK⊢;clear hv e2;obtain⟨wA,hwA⟩:∃wA:World,wA=wC:=⟨_,rfl⟩;rw[←hwA]at k4 kb vA hK⊢;clear hwA;obtain⟨vs,Z6,DN,NN,Uz⟩:=vA.out.vals;have IV:=zH Z6;replace NN:=zH NN;replace Uz:=zH Uz;replace DN:=zH DN;clear Z6 vA;have cp1:=zH (show ∀w',Below wA.heap.size wA w'→Calls Tryz.prog 238 #[.slice a2 n2 c2,.int .u8 54] w' fun e w2=>∃g,e=.returned (.slice (some ⟨g,0,none⟩) 64 64)∧w'.heap.size≤g∧Arr w2 g (aJ (lA k2 54))∧Below w'.heap.size w' w2 from fun w' hb=>by
  have q:=re a2 c2 k2 54 zbT w' zbU;rw[oO.out]at q;exact q)
 have cp2:=zH (show ∀w',Below wA.heap.size wA w'→Calls Tryz.prog 238 #[.slice a2 n2 c2,.int .u8 92] w' fun e w2=>∃g,e=.returned (.slice (some ⟨g,0,none⟩) 64 64)∧w'.heap.size≤g∧Arr w2 g (aJ (lA k2 92))∧Below w'.heap.size w' w2 from fun w' hb=>by
  have q:=re a2 c2 k2 92 zbT w' zbU;rw[oO.out]at q;exact q)
 have Dt:Hid ((lA k2 54).length=64):=zH (lC zbT _ _);have Ej:Hid ((lA k2 92).length=64):=zH (lC zbT _ _);obtain⟨i,hi,jN,jA,jB⟩:=info_parts wO;have hB0:=zA6 wA.heap.size wA;go_wp2_with fail;refine(cp1.out _ hB0).mono ?_;rintro e wB ⟨gp,rfl,hgp,kp,hb⟩;have hpS:=zH (Sl.ofArrN kp Dt.out zDc);have kbB:=hb;replace k4:=k4.below hb;clear hB0 hb kp hgp cp1;have kb2:=az kb kbB;have ZX:=kb2.size;go_wp2_with(at_builtin;refine dO rfl _ _ 25 rfl wB.heap.size 24 Tryz.underlying25 hi jN jA jB rfl _ _ _ rfl (VL wB _ _) _ vs rfl ((IV.out.below kbB).alloc _) NN.out ?c2 ?c3 zac (fun v' wC cf hg=>?_))
 case c2=>rw[DN.out];unfold maxLen;omega
 case c3=>rw[DN.out];omega
 have kbC:Below wB.heap.size wB wC:=f9 (ae wB _) (VL wB _ _) zac hg;have hS:=Sls.cons (ls:=ls) (Sl.of_own cf) (hpS.out.below kbC) DN.out Uz.out (az kbB kbC);clear cf hg hpS hi jN jA jB;obtain⟨aS,cS,rfl⟩:∃aS cS,v'=.slice aS (lA k2 54::ls).length cS:=by
  exact zes
 replace k4:=k4.below kbC;have kb3:=az kb2 kbC;have kbAC:=az kbB kbC;have cs1:=zH (oG _ _ _ wC hS);obtain⟨N1,hN1⟩:=zX (iT (lA k2 54::ls).flatten);rw[hN1]at cs1;rw[show lA k2 54++ls.flatten=(lA k2 54::ls).flatten from rfl]at hX;replace hN1:=zH hN1;obtain⟨n3,Ut⟩:=zX ((lA k2 54::ls).length);rw[Ut]at cs1⊢;clear hS Ut kb kb2 kbB kbC ZX IV;go_wp2_with fail;refine cs1.out.mono ?_;rintro e wD ⟨rfl,hb⟩;replace k4:=k4.below hb;have kb:=az kb3 hb;have kbA:=az kbAC hb;clear hb kb3 kbAC cs1;go_upto_region 5 with(refine aD rfl _ _ _ rfl _ (ag 32 N1) rfl rfl _ (Arr.new _ _ _) zbx zbR (bm _ _) (fun wE k6 hg aB=>?_))
 have hb:=a9 hg;have lt4:=k4.lt;replace k4:=k4.below hb;replace kb:=az kb hb;replace kbA:=az kbA hb;obtain⟨g6,lV⟩:=zX wD.heap.size;rw[lV]at k6 lt4⊢;clear hb aB hg lV;rw[eB]at k6;obtain⟨g4,mT⟩:=zX w.heap.size;rw[mT]at k4 lt4⊢;have X7:w.heap.size≤g4:=zOm;clear mT;obtain⟨N2,hN2⟩:=zX (iT [lA k2 92,nb 32 N1].flatten);have cs2:=zH (show ∀w g,Sls w (.slice (some ⟨g,0,none⟩) 2 2) [lA k2 92,nb 32 N1]→Calls Tryz.prog 144 #[.slice (some ⟨g,0,none⟩) 2 2] w fun e w'=>e=.returned (.agg (ag 32 N2).toArray)∧Below w.heap.size w w' from fun w g h=>by rw[←hN2];exact oG _ _ [lA k2 92,nb 32 N1] w h);have hXe:Hid (Ending.returned (.agg (ag 32 N2).toArray)=X):=zH (by rw[←hX.out,hN1.out,←hN2];simp);clear hN2;refine cH 5 6 fun di=>?_;refine eZ ?_ 4 5 zaK [0,2] (fun _ _=>zRd) ?_;refine aY 1 7 rfl zDk (fun K hK=>?_);go_simp;refine(cp2.out _ (az kbA di)).mono ?_;rintro e qD ⟨gq,rfl,hgq,kq,ia⟩
 have dV:=aW di (zA0 _) ia;refine hK (fun w'=>Below (wE).heap.size (wE) w') _ _ dV (fun _ h=>h) ?_;clear hK K di;try simp only[Act.put,zSa,zSz,zSs]
 have pq:=Sl.ofArrN kq Ej.out zDc;have p6:=Sl.ofArrN (k6.below dV) (aC 32 N1) zDc;refine aY 3 15 rfl zDk (fun K hK=>?_);go_simp;refine hK (fun w'=>Below (wE).heap.size (wE) w') _ _ (aW dV (zA0 _) (ae _ _)) (fun _ h=>h) ?_;clear hK K;try simp only[Act.put,zSa,zSz,zSs]
 refine vT (F:=fun w'=>Sls w' (.slice (some ⟨(qD).heap.size,0,none⟩) 2 2) [lA k2 92,nb 32 N1]) (w0:=qD) (Sls.new2 pq p6 _) (fun w1 h=>h.below (zA6 _ _).drew) zbS (fun uG hS5 iz=>?_);have iB:Below (wE).heap.size (wE) uG:=(by first|exact iz|exact aW dV (zA0 _) iz);clear dV;refine eg 4 31 iB (cs2.out _ _ hS5) fun rY kV=>?_;refine bf 63 rfl zDk (fun K hK=>?_);replace k4:=k4.below kV;replace kb:=az kb kV;clear kV;refine gg rfl _ _ _ rfl g4 (ag 32 N2) rfl rfl _ k4 zbx za3 (bm _ _) (fun w9 k4 hg aB=>?_);have qb:=aq kb hg X7 kb.size;refine hK (fun _=>True) 9999 _ _ ?_;clear hK K;try simp only[Act.put]
 try simp only[zSa,zSz,zSs]
 exact zeE
theorem Cl (a d:Option Addr) (cap cd:Nat) (key:List UInt8) (ls:List (List UInt8)) (dF:ls.length≤1000) (w:World) (hs:Sl w (.slice a key.length cap) (aJ key)) (vA:Sls w (.slice d ls.length cd) ls):
 CB 216 #[.slice a key.length cap,.slice d ls.length cd] w (.agg (ag 32 (ql key ls.flatten)).toArray):=by
 by_cases h:64<key.length
 ·exact HK a d cap cd key ls h dF w hs vA
 ·exact FS a d cap cd key ls zOm dF w hs vA
theorem KC (a:Nat) (ha:a<256^32) (w:World):
 CB 166 #[.agg (ay a).toArray] w (.bool (decide (a<qN))):=by
 go_enter Tryz.func166,Tryz.ntmps166;go_upto_region 1 with fail
 refine aH (fun W aB h1 iG=>?_);go_wp2_with(first|(refine aR ?_));refine zQ (ku a ha _) fun w2 hb2=>?_;have kb:=az iG hb2;clear iG hb2;go_wp2_with fail;refine zQ (Ew _) fun w3 nj=>?_;have kb:=az kb nj;go_wp2_with fail;refine zQ (HE a qN zOm zDc _) fun w4 Pj=>?_;have kb:=az kb Pj;exact zc4
theorem Rp:(Tryz.prog.info? 225).map (fun i=>(i.zero,i.size,i.bytes))=some (some (.int .u64 0),1,8):=by kernel_rfl
theorem Sl.of_arr {w:World} {g:Nat} {xs:List Value} (h:Arr w g xs) (hm:xs.length≤maxLen):Sl w (.slice (some ⟨g,0,none⟩) xs.length xs.length) xs:=
 ⟨some ⟨g,0,none⟩,xs.length,rfl,zA0 _,hm,fun h=>zaa,fun x hx=>by
  cases hx;intro j u hu;rw[Addr.add_lit,Nat.zero_add];exact h.cell hu⟩
theorem ael (w:World):(Instr.makeSlice 292 (.int .i64 8) (.int .i64 8)).run Tryz.prog w=.ok (.slice (some ⟨w.heap.size,0,none⟩) 8 8) (w.alloc (.cells (aw 8 0).toArray 225)):=by
 obtain⟨i,hi,jN,jA,jB⟩:=info_parts Rp;have h:=run_makeSlice (P:=Tryz.prog) w 292 225 i _ Tryz.underlying292 hi jN .i64 .i64 8 8 zDc zDc (by rw[jA];decide) (by rw[jB];decide) zDc;rw[jA]at h;have e:madeCells (Value.int .u64 0).cells (Int.toNat 8*1)=(aw 8 0).toArray:=zKr;rw[e]at h;exact h
theorem FQ (n k:Nat) (_:k<64):(aw 8 (n%256^k)).set (k/8) (.int .u64 ((n%256^(k+1)/18446744073709551616^(k/8)%18446744073709551616:Nat):Int))=aw 8 (n%256^(k+1)):=by
 apply List.ext_getElem?;intro j
 by_cases hj:j<8
 ·rw[List.getElem?_set,bQ _ _ _ hj,bQ _ _ _ hj,aF]
  by_cases h1:k/8=j
  ·subst h1;rw[if_pos rfl,if_pos hj]
  ·rw[if_neg h1];rcases Nat.lt_or_ge j (k/8)with h2|h2
   ·rw[Sd n k j h2]
   ·rw[Mq n k j zOm]
 ·exact zfw
theorem Gk (d:Option Addr) (n cap:Nat) (bs:List UInt8) (w:World) (hs:Sl w (.slice d n cap) (aJ bs)):
 CB 204 #[.slice d n cap] w (.agg (ay (val 256 ((bs.take 64).map (·.toNat))%qN)).toArray):=by
 have aI:=hs.len;rw[ai]at aI;obtain⟨rfl,NF,ye⟩:=aI;unfold maxLen at ye;go_enter Tryz.func204,Tryz.ntmps204;obtain⟨m,hm⟩:=zX (min bs.length 64);obtain⟨N,hN⟩:=zX (val 256 ((bs.take 64).map (·.toNat)));have XK:∀k (h:k<bs.length),k<64→N/256^k%256=(bs[k]).toNat:=by
  intro k h1 h2;have h3:=jQ 256 zDc ((bs.take 64).map (·.toNat)) za5;rw[hN]at h3;have h4:=eG 256 ((bs.take 64).map (·.toNat)).length N k zab;rw[h3]at h4;simp[h1,h2]at h4;exact h4.symm
 have hNm:N<256^m:=by
  have h3:=zI 256 zDc ((bs.take 64).map (·.toNat)) za5;rw[hN]at h3;simpa[Nat.min_comm,←hm]using h3
 rw[hN];have XK:=zH XK;have hNm':=zH hNm;have hN':=zH hN;clear hN hNm;have ud:=fun w=>ael w;go_upto_region 2 with fail
 refine be (fun W aB h1 h2 iG=>?_);go_wp2_with fail
 all_goals
  clear ud;try rw[show max (64:Int) 0=64 from rfl]
  go_loopw[13] (fun kv wr=>∃k:Nat,k≤m∧kv=.int .i64 k∧Arr wr w.heap.size (ay 0)∧Arr wr (w.heap.size+1) (aw 8 (N%256^k))∧Below w.heap.size w wr) (fun kv _=>m-(intOf kv).toNat)
  case atStart=>exact⟨0,zA28 _,rfl,h1,by rw[Nat.pow_zero,Nat.mod_one];exact h2,iG⟩
  case round=>
   obtain⟨k,hk,rfl,k1,k2,kb⟩:=hrel;clear h1 h2 iG aB
   by_cases bK:k<m
   ·have Us:k<bs.length:=zOm;obtain⟨b0,iG⟩:∃x:Nat,(bs[k]).toNat=x:=⟨_,rfl⟩;have fP:b0<256:=(by rw[←iG];exact(bs[k]).toNat_lt);obtain⟨bb,oo,rfl,-,-,-,np⟩:=hs.at zaV;have cZ:=np k _ (eY bs k Us);rw[iG]at cZ;have Qn:=zA11 w _ cZ;have sq:wr.cell? ⟨bb,oo+k,none⟩=some (.int .u8 (b0:Int)):=zbV;obtain⟨l0,BW⟩:=zX (N%256^k/18446744073709551616^(k/8)%18446744073709551616);have nt:l0<18446744073709551616:=(by rw[←BW];exact zA1 _ zDc);have hc:=k2.cell (bQ 8 (N%256^k) (k/8) zOm);rw[BW]at hc;have hf:=k2.frozen (k/8);have ZC:=zH BW;have Za:=zH iG;clear BW iG cZ np;go_upto_region 5 with fail
    have JR:(0:Int)≤(k:Int)/8:=zOm;have wI:(k:Int)/8<8:=zOm;have ew1:IntKind.i64.wrap ((k:Int)/8)=(k:Int)/8:=i64_in zOm;have et:((k:Int)/8).toNat=k/8:=zOm;have em:((k:Int)).tmod 8=(k:Int)%8:=zA17 zOm;have eb:IntKind.u64.wrap (b0:Int)=(b0:Int):=zak;have xO:(0:Int)≤8*((k:Int)%8):=zOm;have ew2:IntKind.i64.wrap ((k:Int)%8)=(k:Int)%8:=i64_in zOm;have ew3:IntKind.i64.wrap (8*((k:Int)%8))=8*((k:Int)%8):=i64_in zOm;refine cH 13 14 fun aP=>?_;refine gF (A:=?_) 1 8191 zKr zaz [0,1,2,3,4,5,6,7,8,9,10,11,12] zKr ?_ ?_;rotate_left
    ·intro w' hB;have e1:w'.cell? ⟨w.heap.size+1,k/8,none⟩=some (.int .u64 (l0:Int)):=(by rw[hB.cell (by simpa using k2.lt)];exact hc);exact zRd
    have pH:wr.drew.cell? ⟨w.heap.size+1,k/8,none⟩=some (.int .u64 (l0:Int)):=hc;have hf2:wr.drew.frozen? ⟨w.heap.size+1,k/8,none⟩=false:=hf;refine bf 16383 rfl zDk (fun K hK=>?_);go_simp;refine hK (fun _=>True) 9999 _ _ ?_;clear hK K;try simp only[Act.put]
    try simp only[zSa,zSz,zSs]
    refine ap zKr ?_;go_wp2_with fail;refine⟨⟨k+1,by omega,by go_num,k1.other zac _,?_,(kb.setCell zac _).drew⟩,by simp[intOf];omega⟩;have h9:=k2.set (k/8) (.int .u64 ((N%256^(k+1)/18446744073709551616^(k/8)%18446744073709551616:Nat):Int));rw[FQ _ _ zOm]at h9;rw[show(b0:Int)*2^(8*(k%8))=((b0*2^(8*(k%8)):Nat):Int) by simp,Mr ZC.out (by rw[XK.out k Us zOm];exact Za.out)];exact h9
   ·obtain rfl:k=m:=zOm;rw[zA4 hNm'.out]at k2;have hr:=Kp (bF 18446744073709551616 8 N) (w.heap.size+1) 0 8 wr (by rw[bj];decide) (by rw[bj];decide) (nD _ _ _ zDc) (fun j x hj=>by rw[Nat.zero_add];exact k2.cell (Gz _ j x hj));have hN512:N<18446744073709551616^8:=zA3 hNm'.out (by rw[wP];exact Nat.pow_le_pow_right zDc zOm);rw[bj,ir,zA4 hN512]at hr;have hr:=zH hr;clear hN512;go_wp2_with fail;refine hr.out.mono ?_;rintro e w6 ⟨rfl,Nj⟩;have k1:=k1.below Nj;have kb:=az kb Nj;clear hr Nj k2;go_wp2_with fail;refine zQ (qY _ _) fun w7 LI=>?_;have k1:=k1.below LI;have kb:=az kb LI;clear LI;go_wp2_with(first|(refine aU ?_));exact bodyPost_ret (aj Tryz.results204 _ _ _ rfl zKr _ zaE zLn) rfl ⟨rfl,ah kb zOm _⟩
theorem Sls.app {w0 w:World} {v:Value} {uu vs:List Value} {al ls:List (List UInt8)} (h:Sl w v (uu++vs)) (ha:uu.length=al.length) (hl:vs.length=ls.length) (h1:∀(j:Nat) (a:Value) (b:List UInt8),uu[j]? =some a→al[j]? =some b→Sl w0 a (aJ b))
 (h2:∀(j:Nat) (a:Value) (b:List UInt8),vs[j]? =some a→ls[j]? =some b→Sl w0 a (aJ b)) (hb:Below w0.heap.size w0 w):Sls w v (al++ls):=by
 refine⟨_,h,by simp[ha,hl],?_⟩;intro j a b hj LY
 by_cases bK:j<uu.length
 ·rw[zA12 bK]at hj;rw[zA12 zOm]at LY;exact(h1 j a b hj LY).below hb
 ·rw[zA2 zOm]at hj;rw[zA2 zOm,←ha]at LY;exact(h2 _ a b hj LY).below hb
theorem Uc {N:Nat} (h:N<256^64):val 256 ((((bF 256 64 N).map UInt8.ofNat).take 64).map (·.toNat))=N:=by
 rw[zA8 zaH,List.map_map];have:(bF 256 64 N).map ((fun x:UInt8=>x.toNat)∘UInt8.ofNat)=bF 256 64 N:=by
  conv=>rhs;rw[←List.map_id (bF 256 64 N)]
  apply List.map_congr_left;intro x hx;have:=nD 256 64 N zDc x hx;simp only[Function.comp_apply,UInt8.toNat_ofNat',id_eq];omega
 rw[this,ir,zA4 h]
theorem vM {P:Program} {w:World} (t ty e:TypeId) {i:TypeInfo} (ht:P.underlying t=some (.slice e)) (hi:P.info? e=some i) {a:Option Addr} {n cap:Nat} (hn:n≤cap) {vx:Value} (hx:Sl w vx []):
 (Builtin.append_ #[t,t] ty #[.slice a n cap,vx]).run P w=.ok (.slice a n cap) w:=by
 obtain⟨x,c,rfl,-⟩:=hx;cases x<;>cases a<;>simp[Builtin.append_,run_underlying ht,sizeOf,typeInfo,hi,Builtin.lenOf,Builtin.firstCells,hn,storeCells,loadCells,loadCellsFrom]
theorem xH {P:Program} {w w':World} {ops:Array Oper} {rest:List Oper} {o:Oper} {a:Act} {Q:Exit→Act→World→Prop} (qi:o.guard=none) (s x:Operand) (t:TypeId)
 (ho:o.op=.call {callee:=.builtin .append,args:=#[s,x],argTypes:=#[t,t]}) {v vx v':Value} (hs:a.eval s=v) (hx:a.eval x=vx) (hr:(Builtin.append_ #[t,t] o.type #[v,vx]).run P w=.ok v' w')
 (h:wpList P ops Q rest (a.put o.dst v') w'):wpList P ops Q (o::rest) a w:=by
 refine wpList_plain qi fun K hK=>?_;unfold Oper.wp execOp;simp only[ho,resolve,invoke,builtin,Sem.run_bind,Sem.run_pure,Result.andThen_ok,List.map_toArray,List.map_cons,List.map_nil,hs,hx,hr];exact hK _ _ h
theorem M8 (w:World) (d d2:Option Addr) (na nb2 cb:Nat) (al ls:List (List UInt8)) (h1:Sls w (.slice d na na) al) (hs:Sls w (.slice d2 nb2 cb) ls) (ha1:al.length≤1000) (hl:ls.length≤100000):
 CB 167 #[.slice d2 nb2 cb,.slice d na na] w (.agg (ay (tm (al++ls).flatten%qN)).toArray):=by
 obtain⟨vs,NN,DN,hvo,Uz⟩:=hs.vals;obtain⟨uu,Pm,hul,huo,huj⟩:=h1.vals;have hna:na=uu.length:=(by obtain⟨a',c',e,h2,-⟩:=Pm;simp only[Value.slice.injEq]at e;exact e.2.1);obtain⟨N,hN⟩:=zX (tm (al++ls).flatten);have hNl:N<256^64:=hN▸MG _;have hap:=zH (fun w' v (hb:Below w.heap.size w w') (h:Sl w' v (uu++vs))=>Sls.app h hul DN huj Uz hb);rw[hN];obtain⟨i,hi,jN,jA,jB⟩:=info_parts wO;have acK:Hid (∀ty W,Below w.heap.size w W→∃v' wC,(Builtin.append_ #[25,25] ty #[.slice d na na,.slice d2 nb2 cb]).run Tryz.prog W=.ok v' wC∧Sl wC v' (uu++vs)∧Below W.heap.size W wC):=zH (by
  intro ty W hb
  by_cases hz:vs=[]
  ·subst hz;exact⟨_,W,vM 25 ty 24 Tryz.underlying25 hi (zA0 _) (NN.below hb),by rw[zA31];exact Pm.below hb,zA6 _ _⟩
  ·have Hv:0<vs.length:=List.length_pos_iff.2 hz;obtain⟨v',wC,r1,r2,r3⟩:=oC (P:=Tryz.prog) 25 ty 24 Tryz.underlying25 hi jN jA jB rfl (Pm.below hb) (NN.below hb) zOm hvo zbW zOm;exact⟨v',wC,r1,Sl.of_own r2,r3⟩)
 have Z6:=zH NN;have agt:=zH DN;replace hvo:=zH hvo;clear NN DN Uz Pm hul huo huj h1 hs hna hi jN jA jB;go_enter Tryz.func167,Tryz.ntmps167;go_upto_region 1 with fail
 refine aH (fun W aB k4 kb=>?_);have k4:Arr W w.heap.size (ay 0):=k4;have h4:=kb.size;clear aB;obtain⟨v',wC,hr,dI,mK⟩:=acK.out 25 W kb;replace hr:=zH hr;go_wp2_with(at_builtin;refine xH rfl _ _ 25 rfl rfl rfl hr.out ?_);replace k4:=k4.below mK;have XE:Below w.heap.size w wC:=az kb mK;have hS:=hap.out _ _ XE dI;obtain⟨aS,cS,rfl⟩:∃aS cS,v'=.slice aS (al++ls).length cS:=by
  exact zes
 have cs:=KN _ _ _ wC hS;rw[hN]at cs;replace cs:=zH cs;obtain⟨n3,Ut⟩:=zX ((al++ls).length);rw[Ut]at cs⊢;clear hS Ut dI hr mK Z6 hap hvo agt kb acK h4;go_wp2_with fail;refine cs.out.mono ?_;rintro e wD ⟨rfl,hb⟩;replace k4:=k4.below hb;replace XE:Below w.heap.size w wD:=az XE hb;clear hb cs;go_upto_region 2 with(refine aD rfl _ _ _ rfl _ (ag 64 N) rfl rfl _ (Arr.new _ _ _) zbx zbR (bm _ _) (fun wE k5 hg aB=>?_))
 have hb:=a9 hg;have lt4:=k4.lt;replace k4:=k4.below hb;replace XE:Below w.heap.size w wE:=az XE hb;obtain⟨g5,jJ⟩:=zX wD.heap.size;rw[jJ]at k5 lt4⊢;clear hb hg aB jJ;rw[sd]at k5;have cR:=Gk (some ⟨g5,0,none⟩) 64 64 _ wE (Sl.ofArrN k5 zaH zDc);rw[Uc hNl]at cR;replace cR:=zH cR;clear k5;go_wp2_with fail;refine cR.out.mono ?_;rintro e wF ⟨rfl,hb⟩;replace k4:=k4.below hb;replace XE:Below w.heap.size w wF:=az XE hb;clear hb cR;go_wp2_with(refine aU ?_);exact bodyPost_ret (aj Tryz.results167 _ _ _ rfl zKr _ zaE zLn) rfl ⟨rfl,ah XE zOm _⟩
end Go.Proofs.YtgfkgolafkdjfaaGreatDoor
