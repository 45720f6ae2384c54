/- ModelWrong: part 26 of its proof: lemmas and contracts, each with its conditions in its own statement; the last part holds the law itself. -/
import Derived.Test.YtgfkgolafkdjfaaGreatDoorJv25
import Derived.Lib.SlBytesConst

set_option maxHeartbeats 4000000
set_option maxRecDepth 100000
namespace Go.Proofs.YtgfkgolafkdjfaaGreatDoor
open Go.RowKit
def jk (k n:Nat) (bs side:List UInt8):List UInt8:=ID k 1 n bs++pF k n (ID k 1 n bs) side
theorem qw (k n:Nat) (bs side:List UInt8):(jk k n bs side).length=bs.length+16:=by rw[jk,zA5,nG,TY]
theorem T8 (L:List UInt8):aJ L=ag L.length (val 256 (L.map (·.toNat))):=by
 have h3:=jQ 256 zDc (L.map (·.toNat)) za5;rw[List.length_map]at h3;rw[ag,h3,List.map_map];rfl
def kM (i:Int):Nat:=val 256 ((List.replicate 4 (0:UInt8)++bS [i]).map (·.toNat))
theorem HZ (i:Int):aJ (List.replicate 4 (0:UInt8)++bS [i])=ag 12 (kM i):=by
 have h:=T8 (List.replicate 4 (0:UInt8)++bS [i]);rw[zA5,de]at h;exact h
theorem Sl.new1At {w:World} (n:Nat) (h:w.heap.size=n) (v:Value) (t:TypeId):Sl (w.alloc (.cells #[v] t)) (.slice (some ⟨n,0,none⟩) 1 1) [v]:=by
 subst h;exact Sl.new1 w v t
theorem Ev (i:Int) (w:World):
 CB 139 #[.int .i64 i] w (.agg (ag 12 (kM i)).toArray):=by
 have ud:∀w,(Instr.makeSlice 24 (.int .i64 4) (.int .i64 4)).run Tryz.prog w=.ok (.slice (some ⟨w.heap.size,0,none⟩) 4 4) (w.alloc (.cells (aJ (List.replicate 4 0)).toArray 5)):=mN 4 zDc;have hN:=zH (HZ i);obtain⟨N,hNe⟩:=zX (kM i);rw[hNe]at hN⊢;clear hNe;have acL:∀w o c,(Instr.arrayAt 52 (.slice (some ⟨o,0,none⟩) 12 c)).run Tryz.prog w=.ok (.pointer (some ⟨o,0,none⟩)) w:=fun w o c=>run_arrayAt w 52 5 12 _ 12 c Tryz.underlying52 zDc;go_enter Tryz.func139,Tryz.ntmps139;go_upto_region 1 with fail
 refine aH (fun W aB k2 kb=>?_);replace k2:Arr W w.heap.size (ag 12 0):=k2;clear aB;have h1:=zH (show Sl (W.alloc (.cells (aJ (List.replicate 4 0)).toArray 5)) (.slice (some ⟨W.heap.size,0,none⟩) 4 4) (aJ (List.replicate 4 0))from Sl.ofArrN (Arr.new _ _ _) zac zDc);have kb1:=ae W (.cells (aJ (List.replicate 4 0)).toArray 5);have kb2:=az kb1 (ae (W.alloc (.cells (aJ (List.replicate 4 0)).toArray 5)) (.cells #[.int .i64 i] 3));have h2:=zH (Sl.new1At (w:=W.alloc (.cells (aJ (List.replicate 4 0)).toArray 5)) (W.heap.size+1) zac (.int .i64 i) 3);have cI:=zH (fun w' vb vn (hb:Sl w' vb (aJ (List.replicate 4 0))) (hn:Sl w' vn [.int .i64 i])=>mP vb vn (List.replicate 4 0) [i] w' hb hn zac);go_wp2_with fail;refine(cI.out _ _ _ (h1.out.alloc _) h2.out).mono ?_;rintro e w1 ⟨v,rfl,cf,mK⟩;rw[hN.out,show(List.replicate 4 (0:UInt8)++bS [i]).length=12 by rw[zA5,de];rfl]at cf
 obtain⟨g,c,rfl,-⟩:=gn cf zDc;have hr:=(Sl.of_own cf).rng;replace mK:=az kb2 mK;replace k2:=k2.below mK;replace kb:=az kb mK;clear cf mK h1 kb1 kb2 ud;go_wp2_with(first|(refine aE rfl _ _ rfl _ _ rfl zKr _ hr zLn ?_)|(refine aU ?_));exact bodyPost_ret (aj Tryz.results139 _ _ _ rfl zKr _ zaE zLn) rfl ⟨rfl,ah kb (zA0 _) _⟩
def Ph.sl (n:Nat) (xs:List Value):Ph:=⟨fun v w=>∃d,v=.slice d n n∧Sl w v xs,fun _ _ _ ⟨d,h1,h2⟩ hb=>⟨d,h1,h2.below hb⟩,false,fun h=>by cases h⟩
theorem xb (vn:Value) (v:Int) (w:World) (hn:Sl w vn [.int .i64 v]):
 Calls Tryz.prog 140 #[.slice none 0 0,vn] w fun e w'=>∃g c,e=.returned (.slice (some ⟨g,0,none⟩) 8 c)∧Sl w' (.slice (some ⟨g,0,none⟩) 8 c) (aJ (bS [v]))∧Below w.heap.size w w':=by
 refine(mP (.slice none 0 0) vn [] [v] w (Sl.nil _) hn zac).mono ?_;rintro e w' ⟨v',rfl,cf,hb⟩;rw[List.nil_append,show(bS [v]).length=8 from de [v]]at cf;obtain⟨g,c,rfl,-⟩:=gn cf zDc;exact⟨g,c,rfl,Sl.of_own cf,hb⟩
def kd (K:Nat) (v i:Int) (bs:List UInt8):List UInt8:=jk K (kM i) bs (bS [v])
def bU (v b:Int) (root:Nat) (wv:Value) (i:Int) (k R1 s1 R s:Nat):List Value:=.int .i64 v::.int .i64 b::(ag 32 root++(wv::(jZ i k R1 s1++mS R s)))
theorem a8 (v b:Int) (root:Nat) (wv:Value) (i:Int) (k R1 s1 R s:Nat):(bU v b root wv i k R1 s1 R s).length=196:=by simp[bU,aa,nO,fI]
theorem jd (v b:Int) (root:Nat) (wv:Value) (i:Int) (k R1 s1 R s:Nat) (hw:wv.oneCell'=true):∀u∈bU v b root wv i k R1 s1 R s,u.oneCell'=true:=by
 intro u hu;rcases List.mem_cons.1 hu with rfl|hu
 ·rfl
 rcases List.mem_cons.1 hu with rfl|hu
 ·rfl
 rcases List.mem_append.1 hu with h|hu
 ·exact bm _ _ u h
 rcases List.mem_cons.1 hu with rfl|hu
 ·exact hw
 rcases List.mem_append.1 hu with h|h
 ·exact PU _ _ _ _ u h
 ·exact tR _ _ u h
theorem gW {A B C:List Value} {o:Nat} (ho:A.length=o) (j:Nat) (hj:j<B.length):(A++(B++C))[o+j]? =B[j]? :=by
 rw[zA2 zOm,show o+j-A.length=j by omega,zA12 hj]
theorem Sl.ofRng {w:World} {g o n:Nat} {L:List UInt8} (h:w.rangeAt g o (aJ L)) (hl:L.length=n) (hn:n≤1000):Sl w (.slice (some ⟨g,o,none⟩) n n) (aJ L):=by
 refine⟨some ⟨g,o,none⟩,n,by rw[ai,hl],by rw[ai,hl];exact zA0 _,by unfold maxLen;omega,fun h=>zaa,fun x hx j u hu=>?_⟩;cases hx;rw[Addr.add_lit];exact h j u hu
theorem Sl.ofMid {w:World} {g o n:Nat} {xs:List Value} (h:Arr w g xs) (A C:List Value) (L:List UInt8) (hx:xs=A++(aJ L++C)) (ho:A.length=o) (hl:L.length=n) (hn:n≤1000):Sl w (.slice (some ⟨g,o,none⟩) n n) (aJ L):=
 Sl.ofRng (h.range (fun j hj=>by rw[hx];exact gW ho j hj)) hl hn
section
variable {w:World} {g:Nat} {v b:Int} {root:Nat} {wv:Value} {i:Int} {k R1 s1 R s:Nat}
theorem HR (h:Arr w g (bU v b root wv i k R1 s1 R s)):Sl w (.slice (some ⟨g,2,none⟩) 32 32) (aJ (nb 32 root)):=
 Sl.ofMid h [.int .i64 v,.int .i64 b] _ (nb 32 root) (by rw[bU,eB];rfl) rfl (aC _ _) zDc
theorem Ml (h:Arr w g (bU v b root wv i k R1 s1 R s)):Sl w (.slice (some ⟨g,36,none⟩) 32 32) (aJ (nb 32 k)):=
 Sl.ofMid h (.int .i64 v::.int .i64 b::(ag 32 root++[wv,.int .i64 i])) (mS R1 s1++mS R s) (nb 32 k) (by rw[bU,jZ,fB];simp) zcb (aC _ _) zDc
theorem HQ (h:Arr w g (bU v b root wv i k R1 s1 R s)):Sl w (.slice (some ⟨g,68,none⟩) 64 64) (aJ (nb 32 R1++nb 32 s1)):=
 Sl.ofMid h (.int .i64 v::.int .i64 b::(ag 32 root++(wv::.int .i64 i::ay k))) (mS R s) (nb 32 R1++nb 32 s1) (by rw[bU,jZ,bE,Gp];simp) (by simp[aa,aZ]) (by simp[aC]) zDc
theorem Vz (h:Arr w g (bU v b root wv i k R1 s1 R s)):Sl w (.slice (some ⟨g,132,none⟩) 64 64) (aJ (nb 32 R++nb 32 s)):=
 Sl.ofMid h (.int .i64 v::.int .i64 b::(ag 32 root++(wv::jZ i k R1 s1))) [] (nb 32 R++nb 32 s) (by rw[bU,bE,Gp];simp) (by simp[aa,nO]) (by simp[aC]) zDc
theorem vG (h:Arr w g (bU v b root wv i k R1 s1 R s)):w.cell? ⟨g,34,none⟩=some wv:=
 h.cell (by have q:=gW (A:=.int .i64 v::.int .i64 b::ag 32 root) (B:=[wv]) (C:=jZ i k R1 s1++mS R s) (o:=34) zcb 0 zac;simpa[bU]using q)
theorem Cq (h:Arr w g (bU v b root wv i k R1 s1 R s)):w.cell? ⟨g,35,none⟩=some (.int .i64 i):=
 h.cell (by have q:=gW (A:=.int .i64 v::.int .i64 b::(ag 32 root++[wv])) (B:=[.int .i64 i]) (C:=ay k++mS R1 s1++mS R s) (o:=35) zcb 0 zac;simpa[bU,jZ]using q)
end
theorem Mj (v b:Int) (root:Nat) (a:Option Addr) (c:Nat) (i:Int) (k R1 s1 R s:Nat) (hv:0≤v) (lP:v≤2147483647) (hb:1≤b) (hb2:b≤32) (hi:td i=true) (w:World):
 CB 124 #[.agg (bU v b root (.slice a 80 c) i k R1 s1 R s).toArray] w (.bool true):=by
 have cM:=zH (fun w=>show CB 146 #[.int .i64 i] w (.bool true) from by rw[←hi];exact GY i w);clear hi;go_enter Tryz.func124,Tryz.ntmps124;go_upto_region 1 with fail
 refine aH (fun W aB k1 kb=>?_);replace k1:Arr W w.heap.size (bU v b root (.slice a 80 c) i k R1 s1 R s):=k1;clear aB;have y0:=k1.cell (j:=0) (u:=.int .i64 v) rfl;have y1:=k1.cell (j:=1) (u:=.int .i64 b) rfl;have y34:=vG k1;have y35:=Cq k1;clear k1;go_wp2_with fail;refine zQ (cM.out _) fun w1 hb=>?_;replace kb:=az kb hb;clear hb y0 y1 y34 y35;exact zc4
def rT:List UInt8:=[80,67,77,49]
def fj (v b:Int) (root:Nat) (wl:List UInt8) (i:Int) (k R1 s1:Nat):List UInt8:=rT++bS [v,b]++nb 32 root++wl++bS [i]++nb 32 k++(nb 32 R1++nb 32 s1)
theorem mq (v b:Int) (root:Nat) (wl:List UInt8) (i:Int) (k R1 s1:Nat) (hl:wl.length=80):(fj v b root wl i k R1 s1).length=236:=by
 simp only[fj,zA5,aC,de,hl];rfl
theorem RR (v b:Int) (root:Nat) (a:Option Addr) (c:Nat) (wl:List UInt8) (nA:wl.length=80) (i:Int) (k R1 s1 R s:Nat) (hv:0≤v) (lP:v≤2147483647) (hb:1≤b) (hb2:b≤32) (hi:td i=true) (w:World) (hw:Sl w (.slice a 80 c) (aJ wl)):
 Calls Tryz.prog 125 #[.agg (bU v b root (.slice a 80 c) i k R1 s1 R s).toArray] w fun e w'=>
  ∃u,e=.returned (.tuple #[u,.int .i64 0])∧w'.ownsRow w.heap.size 5 1 u 236 (aJ (fj v b root wl i k R1 s1))∧Below w.heap.size w w':=by
 have cM:=zH (fun w=>Mj v b root a c i k R1 s1 R s hv lP hb hb2 hi w);have cI1:=zH (fun w' vb vn (h1:Sl w' vb (aJ rT)) (h2:Sl w' vn [.int .i64 v,.int .i64 b])=>mP vb vn rT [v,b] w' h1 h2 (by simp[rT]));have aI:=a8 v b root (.slice a 80 c) i k R1 s1 R s;replace hw:=zH hw;clear hv lP hb hb2 hi;go_enter Tryz.func125,Tryz.ntmps125;go_upto_region 1 with fail
 refine aH (fun W aB k1 kb=>?_);replace k1:Arr W w.heap.size (bU v b root (.slice a 80 c) i k R1 s1 R s):=k1;clear aB;go_wp2_with(refine ab rfl _ _ rfl _ rfl zDk _ k1 (by rw[aI];kernel_rfl) ?_);refine zQ (cM.out _) fun mU dG=>?_;have k1:=k1.below dG;have kb:=az kb dG;clear dG;go_upto_region 3 with fail
 have kb4:=ae (mU) (.cells #[.int .u8 80,.int .u8 67,.int .u8 77,.int .u8 49] 5 (4,5));have y0:=(k1.below kb4).cell (j:=0) (u:=.int .i64 v) rfl;have y1:=(k1.below kb4).cell (j:=1) (u:=.int .i64 b) rfl;have hcv:=fun(w:World) (C:Array Value) (n c:Nat)=>Lib.run_convert_bytes_const (P:=Tryz.prog) w 24 5 C n c Tryz.underlying24 Tryz.underlying5;have h1:=zH (show Sl ((mU).alloc (.cells #[.int .u8 80,.int .u8 67,.int .u8 77,.int .u8 49] 5 (4,5))) (.slice (some ⟨(mU).heap.size,0,none⟩) 4 4) (aJ rT)from Sl.newMk _ _ _ _ _ rfl 4 rfl zDc);have h2:=zH (Sl.newMk ((mU).alloc (.cells #[.int .u8 80,.int .u8 67,.int .u8 77,.int .u8 49] 5 (4,5))) #[.int .i64 v,.int .i64 b] 3 (0,0) ((mU).heap.size+1) zac 2 rfl zDc);have kb5:=az kb4 (ae ((mU).alloc (.cells #[.int .u8 80,.int .u8 67,.int .u8 77,.int .u8 49] 5 (4,5))) (.cells #[.int .i64 v,.int .i64 b] 3));go_wp2_with fail
 refine(cI1.out _ _ _ (h1.out.alloc _) h2.out).mono ?_;rintro e w2 ⟨u4,rfl,Hs,hb2⟩;rw[show(rT++bS [v,b]).length=20 by rw[zA5,de];rfl]at Hs;replace Hs:=ej Hs kb5.size;have Zf:=aW kb5 (zA0 _) hb2;have lt1:=k1.lt;clear hb2 kb5 kb4 y0 y1 h1 h2 cI1 hcv aI cM;obtain⟨w1,Rf⟩:=zX mU;rw[Rf]at Hs Zf k1 kb lt1;clear Rf;obtain⟨T1,hT1⟩:=zX (rT++bS [v,b]);rw[hT1]at Hs;obtain⟨ii,Vf,jN,jA,jB⟩:=info_parts ig;go_upto_region 4 with fail
 refine eC (fun w'=>Below w1.heap.size w1 w') 9999 8 rfl zKr ?_;have xZ:=Zf.drew;refine dz ?_ 3 55 (by exact xZ) [0,1,2,4,5] (fun w' hB=>by have y34:=vG (k1.below hB);exact zRd) ?_;refine aY 3 63 rfl zDk (fun K hK=>?_);refine eJ rfl _ _ 24 rfl w1.heap.size 5 Tryz.underlying24 Vf jN jA jB rfl u4 20 (aJ T1) rfl (dg Hs (zA6 _ _).drew) _ (aJ (nb 32 root)) rfl (HR (k1.below xZ)) (dr _) ?c1 ?c2 xZ.size ?_
 case c1=>rw[ai,aC];decide
 case c2=>rw[ai,aC];decide
 intro u5 wa FI Zo;have xY:=xZ.grown Zo xZ.size (gj Hs);rw[ai,aC,←bE]at FI;clear Zo Hs;refine hK (fun w'=>Below (w1).heap.size (w1) w') _ _ xY (fun _ h=>h) ?_;clear hK K;try simp only[Act.put,zSa,zSz,zSs]
 refine aY 6 127 rfl zDk (fun K hK=>?_);refine eJ rfl _ _ 24 rfl w1.heap.size 5 Tryz.underlying24 Vf jN jA jB rfl u5 52 _ rfl FI _ (aJ wl) rfl (hw.out.below (az kb xY)) (dr _) ?c1 ?c2 xY.size ?_
 case c1=>rw[ai,nA];decide
 case c2=>rw[ai,nA];decide
 intro u6 wb Ht ND;have Bz:=xY.grown ND xY.size (gj FI);rw[ai,nA,←bE]at Ht;clear ND FI xY xZ Zf;refine hK (fun w'=>Below (w1).heap.size (w1) w') _ _ Bz (fun _ h=>h) ?_;clear hK K;try simp only[Act.put,zSa,zSz,zSs]
 refine dz ?_ 0 255 (by exact Bz) [7] (fun _ _=>zRd) ?_;refine ap zKr ?_;obtain⟨T3,hT3⟩:=zX (T1++nb 32 root++wl);rw[hT3]at Ht;have hT3l:Hid (T3.length=132):=zH (by rw[←hT3,←hT1];simp[rT,de,aC,nA]);go_upto_region 5 with fail
 refine eC (fun w'=>Below w1.heap.size w1 w') 9999 11 rfl zKr ?_;have Hh:=Bz.drew;refine dz ?_ 4 463 (by exact Hh) [0,1,2,3,6,7,8] (fun w' hB=>by have y35:=Cq (k1.below hB);exact zRd) ?_;refine aY 4 479 rfl zDk (fun K hK=>?_);go_simp;refine hK (fun w'=>Below (w1).heap.size (w1) w') _ _ (aW Hh (zA0 _) (ae _ _)) (fun _ h=>h) ?_;clear hK K;try simp only[Act.put,zSa,zSz,zSs]
 refine vT (F:=fun w'=>Sl w' (.slice (some ⟨(wb.drew).heap.size,0,none⟩) 1 1) [.int .i64 i]) (w0:=wb.drew) (Sl.new1 _ _ _) (fun w1 h=>h.below (zA6 _ _).drew) zbS (fun i8 h4 dA=>?_);have bn:Below (w1).heap.size (w1) i8:=(by first|exact dA|exact aW Hh (zA0 _) dA);clear Hh;have hM:=(bn).size;have cI2:=zH (fun w' vb vn (h1:Sl w' vb (aJ T3)) (h2:Sl w' vn [.int .i64 i])=>mP vb vn T3 [i] w' h1 h2 (by rw[hT3l.out];simp));refine aY 5 511 rfl zDk (fun K hK=>?_);go_simp;refine(cI2.out _ _ _ ((Sl.of_own (dg Ht (zA6 _ _).drew)).below dA) h4).mono ?_;rintro e jF ⟨u7,rfl,NJ,dc⟩;have bB:=aW bn (zA0 _) dc;refine hK (fun w'=>Below (w1).heap.size (w1) w') _ _ bB (fun _ h=>h) ?_;clear hK K bn;try simp only[Act.put,zSa,zSz,zSs]
 replace NJ:=ej NJ hM;rw[show(T3++bS [i]).length=140 by rw[zA5,de,hT3l.out];rfl]at NJ;refine aY 9 1023 rfl zDk (fun K hK=>?_);refine eJ rfl _ _ 24 rfl w1.heap.size 5 Tryz.underlying24 Vf jN jA jB rfl u7 140 _ rfl NJ _ (aJ (nb 32 k)) rfl (Ml (k1.below bB)) (dr _) ?c1 ?c2 (bB).size ?_
 case c1=>rw[ai,aC];decide
 case c2=>rw[ai,aC];decide
 intro u8 wc XV QI;have At:=(bB).grown QI (bB).size (gj NJ);rw[ai,aC,←bE]at XV;clear QI NJ;refine hK (fun w'=>Below (w1).heap.size (w1) w') _ _ At (fun _ h=>h) ?_;clear hK K;try simp only[Act.put,zSa,zSz,zSs]
 refine dz ?_ 0 2047 (by exact At) [10] (fun _ _=>zRd) ?_;refine ap zKr ?_;clear Ht h4 hM cI2 Bz;go_wp2_with(at_builtin;refine dO rfl _ _ 24 rfl w1.heap.size 5 Tryz.underlying24 Vf jN jA jB rfl u8 172 _ rfl XV _ (aJ (nb 32 R1++nb 32 s1)) rfl (HQ (k1.below At)) (dr _) ?c1 ?c2 At.size ?_)
 case c1=>simp only[ai,zA5,aC];decide
 case c2=>simp only[ai,zA5,aC];decide
 intro u9 wd Uu qi;have Jn:=At.grown qi At.size (gj XV);rw[ai,zA5,aC,aC,←bE]at Uu;go_wp2_with fail;go_ret2;refine⟨u9,rfl,?_,az kb Jn⟩;have U7:T3++(bS [i]++nb 32 k)++(nb 32 R1++nb 32 s1)=fj v b root wl i k R1 s1:=(by rw[←hT3,←hT1,fj];simp only[zA16]);rw[U7]at Uu;exact ej Uu kb.size
theorem qE {w w':World} {g g':Nat} {xs:List Value} (h:Arr w g xs) (hg:w.grownBy w' (some g')) (hr:g'≠g):Arr w' g xs:=by
 have:=h.lt;obtain⟨T,h⟩:=h;exact⟨T,by rw[hg.block g this (fun e=>hr (by cases e;rfl))];exact h⟩
section
variable (v b:Int) (root:Nat) (wv:Value) (i:Int) (k R1 s1 R s:Nat)
theorem Eu (u:Value):(bU v b root wv i k R1 s1 R s).set 34 u=bU v b root u i k R1 s1 R s:=by
 have h:∀x:Value,bU v b root x i k R1 s1 R s=(.int .i64 v::.int .i64 b::ag 32 root)++(x::(jZ i k R1 s1++mS R s)):=fun x=>by simp[bU]
 rw[h wv,h u,List.set_append_right (h:=by simp[aa])];simp[aa]
theorem Cr (R' s':Nat):gJ 132 (mS R' s') (bU v b root wv i k R1 s1 R s)=bU v b root wv i k R1 s1 R' s':=by
 have h:∀R s,bU v b root wv i k R1 s1 R s=(.int .i64 v::.int .i64 b::(ag 32 root++(wv::jZ i k R1 s1)))++mS R s:=fun R s=>by simp[bU]
 have hl:(Value.int .i64 v::.int .i64 b::(ag 32 root++(wv::jZ i k R1 s1))).length=132:=(by simp[aa,nO]);rw[h R s,h R' s',gJ,←hl,List.take_left,hl,List.drop_eq_nil_of_le (by simp[fI,aa,nO]),zA31]
end
theorem G7 (a d:Option Addr) (ca cd:Nat) (salt key:List UInt8) (w:World) (hs:Sl w (.slice a salt.length ca) (aJ salt)) (hk:Sl w (.slice d key.length cd) (aJ key)):
 CB 178 #[.slice a salt.length ca,.slice d key.length cd] w (.agg (ag 32 (ql salt key)).toArray):=by
 obtain⟨N,hN⟩:=zX (ql salt key);have cS:=zH (fun(w:World) g (h1:Sl w (.slice a salt.length ca) (aJ salt)) (h:Sls w (.slice (some ⟨g,0,none⟩) 1 1) [key])=>show CB 216 #[.slice a salt.length ca,.slice (some ⟨g,0,none⟩) 1 1] w (.agg (ag 32 N).toArray) from by
  have q:=Cl a (some ⟨g,0,none⟩) ca 1 salt [key] zac w h1 h;rw[show[key].flatten=key by simp,hN]at q;exact q)
 rw[hN];obtain⟨n1,GG⟩:=zX salt.length;obtain⟨n2,oO⟩:=zX key.length;rw[GG]at cS hs;rw[oO]at hk;rw[GG,oO];replace hs:=zH hs;replace hk:=zH hk;clear hN GG oO;go_enter Tryz.func178,Tryz.ntmps178;go_upto_region 1 with fail
 refine aH (fun W aB k2 kb=>?_);replace k2:Arr W w.heap.size (ag 32 0):=k2;clear aB;have kb2:=ae W (.cells #[.slice d n2 cd] 24);have h1:=zH (Sls.new1 (hk.out.below kb) 24);have h0:=zH ((hs.out.below kb).alloc (.cells #[.slice d n2 cd] 24));go_wp2_with fail;refine zQ (cS.out _ _ h0.out h1.out) fun w1 hb=>?_;replace hb:=az kb2 hb;replace k2:=k2.below hb;replace kb:=az kb hb;clear hb kb2 h1 h0 cS;go_wp2_with(refine aU ?_);exact bodyPost_ret (aj Tryz.results178 _ _ _ rfl zKr _ zaE zLn) rfl ⟨rfl,ah kb (zA0 _) _⟩
def IN:List UInt8:=[119,114,97,112]
def I0 (e z:Nat):Nat:=HB (ql (nb 32 e) (nb 32 z)) IN
theorem Uk (e z:Nat) (w:World):
 Calls Tryz.prog 132 #[.agg (ag 32 e).toArray,.agg (ag 32 z).toArray] w fun r w'=>r=.returned (.agg (ag 32 (I0 e z)).toArray)∧Below w.heap.size w w':=by
 obtain⟨M,hM⟩:=zX (ql (nb 32 e) (nb 32 z));obtain⟨N,hN⟩:=zX (I0 e z);have cK:=zH (fun w=>show Calls Tryz.prog 177 #[.agg (ag 32 M).toArray,.string ⟨#[119,114,97,112]⟩] w fun r w'=>r=.returned (.agg (ag 32 N).toArray)∧Below w.heap.size w w' from by rw[←hN,I0,hM];exact Vs M ⟨#[119,114,97,112]⟩ zDc w);have cE:=zH (fun(w:World) g g2 (h1:Sl w (.slice (some ⟨g,0,none⟩) 32 32) (aJ (nb 32 e))) (h2:Sl w (.slice (some ⟨g2,0,none⟩) 32 32) (aJ (nb 32 z)))=>show Calls Tryz.prog 178 #[.slice (some ⟨g,0,none⟩) 32 32,.slice (some ⟨g2,0,none⟩) 32 32] w fun r w'=>r=.returned (.agg (ag 32 M).toArray)∧Below w.heap.size w w' from by
  have q:=G7 (some ⟨g,0,none⟩) (some ⟨g2,0,none⟩) 32 32 (nb 32 e) (nb 32 z) w zbX zcc;rw[aC,aC,hM]at q;exact q)
 rw[hN];clear hM hN;go_enter Tryz.func132,Tryz.ntmps132;go_upto_region 1 with fail
 refine bZ (fun W aB k2 k3 k4 kb=>?_);have h2:=zH (show Sl W (.slice (some ⟨w.heap.size,0,none⟩) 32 32) (aJ (nb 32 e))from Sl.ofArrN (by rw[←eB];exact k2) (aC _ _) zDc);have h3:=zH (show Sl W (.slice (some ⟨w.heap.size+1,0,none⟩) 32 32) (aJ (nb 32 z))from Sl.ofArrN (by rw[←eB];exact k3) (aC _ _) zDc);have k4:Arr W (w.heap.size+1+1) (ag 32 0):=k4;clear aB;refine cH 4 5 fun aP=>?_;refine dz ?_ 3 3 zaD [0,1] (fun _ _=>zRd) ?_;refine eg 2 7 aP (cE.out _ _ _ (h2.out.below aP) (h3.out.below aP)) fun i8 bn=>?_;refine eg 3 15 bn cK.out fun jF bB=>?_;clear h2 h3;have k4:=k4.below bB;have kb:=az kb bB;refine kO 31 ?_;refine ap zKr ?_;refine aV k4 (fun pJ k4 ad ak=>?_);have kb:=ak _ _ zOm kb;clear ad ak;go_wp2_with fail;exact bodyPost_ret (aj Tryz.results132 _ _ _ rfl zKr _ k4 zbx) rfl ⟨rfl,kb⟩
theorem agE {a:Nat} (h:a%pN≠0):¬pN∣a:=fun hd=>h (Nat.mod_eq_zero_of_dvd hd)
theorem sj {a:Nat} (h:a%pN≠0):a^(pN-1)%pN=1:=Nt.fermat xa (agE h)
theorem NP (x:Int):(BitVec.ofInt 64 x).toNat=(x%18446744073709551616).toNat:=by
 rw[BitVec.toNat_ofInt];rfl
theorem jx (x:Int) (k:Nat) (hk:k≤62) (M:Int) (hM:M=2^k-1):bits .and .i64 x M=x%2^k:=by
 have hp:(2:Nat)^k≤2^62:=Nat.pow_le_pow_right zDc hk;have Dt:0<(2:Nat)^k:=Nat.pow_pos zDc;have e2:M=((2^k-1:Nat):Int):=(by rw[hM,Int.ofNat_sub Dt];simp);have h2:(BitVec.ofInt 64 M).toNat=2^k-1:=by
  rw[e2,BitVec.ofInt_natCast,BitVec.toNat_ofNat];exact zA4 zOm
 show IntKind.i64.wrap ((BitVec.ofInt 64 x &&&BitVec.ofInt 64 M).toNat:Int)=_
 rw[BitVec.toNat_and,h2,Nat.and_two_pow_sub_one_eq_mod,NP];have h3:0≤x%18446744073709551616:=Int.emod_nonneg _ zDc;have e5:((2^k:Nat):Int)=2^k:=zac;have Hv:(0:Int)<2^k:=(by rw[←e5];exact Int.ofNat_lt.2 Dt);have bK:(2:Int)^k≤4611686018427387904:=(by rw[←e5];exact Int.ofNat_le.2 hp);have e4:(((x%18446744073709551616).toNat%2^k:Nat):Int)=x%2^k:=by
  rw[Int.natCast_emod,Int.toNat_of_nonneg h3];have hd:(2:Int)^k∣18446744073709551616:=by
   refine⟨2^(64-k),?_⟩;rw[←Int.pow_add,show k+(64-k)=64 by omega];rfl
  rw[e5,Int.emod_emod_of_dvd _ hd]
 rw[e4];have h5:=Int.emod_nonneg x (Int.ne_of_gt Hv);have h6:=Int.emod_lt_of_pos x Hv;exact i64_in zOm
theorem nC (x:Int):bits .and .i64 x 255=x%256:=jx x 8 zDc 255 zDc
theorem DY (x:Int):bits .and .i64 x 65535=x%65536:=jx x 16 zDc 65535 zDc
theorem EZ (x:Int):bits .and .i64 x 1=x%2:=jx x 1 zDc 1 zDc
theorem Kc (a b:Nat) (ha:a<9223372036854775808) (hb:b<9223372036854775808):bits .or .i64 (a:Int) (b:Int)=((a |||b:Nat):Int):=by
 have hx:a |||b<2^63:=Nat.or_lt_two_pow zOm zOm;have h1:(BitVec.ofInt 64 (a:Int)).toNat=a:=by
  exact zeS
 have h2:(BitVec.ofInt 64 (b:Int)).toNat=b:=by
  exact zeS
 show IntKind.i64.wrap ((BitVec.ofInt 64 (a:Int) |||BitVec.ofInt 64 (b:Int)).toNat:Int)=_
 rw[BitVec.toNat_or,h1,h2];exact i64_in zOm
theorem aav (a b:Nat) (ha:a<256) (hb:b<256):bits .or .i64 (a:Int) ((b:Int)*256)=((a+256*b:Nat):Int):=by
 rw[show(b:Int)*256=((256*b:Nat):Int) by omega,Kc _ _ zOm zOm];congr 1;have:=Nat.two_pow_add_eq_or_of_lt (i:=8) (b:=a) ha b;rw[show 2^8*b=256*b from rfl]at this;rw[Nat.or_comm,←this,Nat.add_comm]
theorem mul_ne {a b:Nat} (ha:a<pN) (hb:b<pN) (a0:a≠0) (b0:b≠0):a*b%pN≠0:=by
 intro h;rcases xa.dvd_mul (Nat.dvd_of_mod_eq_zero h)with h1|h1
 ·exact a0 (Nat.eq_zero_of_dvd_of_lt h1 ha)
 ·exact b0 (Nat.eq_zero_of_dvd_of_lt h1 hb)
theorem AR (k u:Nat):bD k u<256^32:=aaz _
theorem RF {k u:Nat} (h:(kL (u%2^255%pN) (dD k) 255).b=0):bD k u=0:=by
 rw[bD,h,Nat.zero_pow zDc,Nat.zero_mod,Nat.mul_zero,Nat.zero_mod]
theorem aae {k u r:Nat} (hr:Hid (bD k u=r)) (hk:k<256^32) (hu:u<256^32) (w:World):
 CB 173 #[.agg (ay k).toArray,.agg (ay u).toArray] w (.agg (ay r).toArray):=by
 rw[←hr.out];exact HI k u hk hu w
theorem Vv {k r:Nat} (hr:Hid (bD k 9=r)) (hk:k<256^32) (w:World):
 CB 173 #[.agg (ay k).toArray,.agg #[.int .u8 9,.int .u8 0,.int .u8 0,.int .u8 0,.int .u8 0,.int .u8 0,.int .u8 0,.int .u8 0,.int .u8 0,.int .u8 0,.int .u8 0,.int .u8 0,.int .u8 0,.int .u8 0,.int .u8 0,.int .u8 0,.int .u8 0,.int .u8 0,.int .u8 0,.int .u8 0,.int .u8 0,.int .u8 0,.int .u8 0,.int .u8 0,.int .u8 0,.int .u8 0,.int .u8 0,.int .u8 0,.int .u8 0,.int .u8 0,.int .u8 0,.int .u8 0]] w (.agg (ay r).toArray):=by
 have:=HI k 9 hk zDc w;rw[GT 9 zDc,hr.out]at this;exact this
theorem NU {k r:Nat} (hr:Hid (bD k 9=r)) (hk:k<256^32) (w:World):
 CB 130 #[.agg (ay k).toArray] w (.agg (ay r).toArray):=by
 have c1:=zH (fun w=>Vv hr hk w);go_enter Tryz.func130,Tryz.ntmps130;go_upto_region 1 with fail
 refine be (fun W aB k1 k2 kb=>?_);have k2:Arr W (w.heap.size+1) (ay 0):=k2;clear aB;go_upto_region 1 with(first|refine aR ?_|refine aU ?_)
 go_wp2_with(first|refine aR ?_|refine aU ?_);refine zQ (c1.out _) fun mU dG=>?_;have k2:=k2.below dG;have kb:=az kb dG;clear dG;go_wp2_with(first|refine aR ?_|refine aU ?_);exact bodyPost_ret (aj Tryz.results130 _ _ _ rfl zKr _ zaE zLn) rfl ⟨rfl,ah kb zOm _⟩
theorem NV {k u r:Nat} (hr:Hid (bD k u=r)) (hk:k<256^32) (hu:u<256^32) {e0:Int} (he:e0=if r=0 then 21 else 0) (w:World):
 CB 129 #[.agg (ay k).toArray,.agg (ay u).toArray] w (.tuple #[.agg (ay r).toArray,.int .i64 e0]):=by
 have c1:=zH (fun w=>aae hr hk hu w);have lr:r<256^32:=hr.out▸AR k u;have b0:=zH PI
 by_cases hz:r=0
 ·have q:=Fr (b:=true) (decide_eq_true hz) lr;rw[if_pos hz]at he;subst he;have JS:=zH hz;clear hz hr;go_enter Tryz.func129,Tryz.ntmps129;go_upto_region 1 with fail
  refine bZ (fun W aB k2 k3 k4 kb=>?_);have k4:Arr W (w.heap.size+1+1) (ay 0):=k4;clear aB;go_upto_region 1 with(first|refine aR ?_|refine aU ?_)
  go_wp2_with(first|refine aR ?_|refine aU ?_);refine zQ (c1.out _) fun i8 dA=>?_;obtain⟨k2,k3,k4⟩:=dZ k2 k3 k4 dA;have kb:=az kb dA;clear dA;go_upto_region 2 with(first|refine aR ?_|refine aU ?_)
  obtain⟨gI,ll,iM⟩:=GD k2 k3 k4;refine aK (fun jF k6 aA=>?_);obtain⟨k2,k3,k4⟩:=dZ k2 k3 k4 aA;have kb:=az kb aA;clear aA;generalize (i8).heap.size=t9 at k6 gI ll iM⊢;go_wp2_with(first|(refine aR ?_)|(refine aQ rfl _ _ _ rfl _ (ay 0) rfl (by rw[b0.out];rfl) _ k4 zam rfl (jO _) ?_));exact bodyPost_ret (aT Tryz.results129 _ _ _ _ rfl Tryz.underlying27 rfl _ (k4.setRow _) zam _ rfl) rfl ⟨by rw[JS.out];rfl,ah kb zOm _⟩
 ·have q:=Fr (b:=false) (decide_eq_false hz) lr;rw[if_neg hz]at he;subst he;replace hz:=zH hz;clear hr;go_enter Tryz.func129,Tryz.ntmps129;go_upto_region 1 with fail
  refine bZ (fun W aB k2 k3 k4 kb=>?_);have k4:Arr W (w.heap.size+1+1) (ay 0):=k4;clear aB;go_upto_region 1 with(first|refine aR ?_|refine aU ?_)
  go_wp2_with(first|refine aR ?_|refine aU ?_);refine zQ (c1.out _) fun pJ fG=>?_;obtain⟨k2,k3,k4⟩:=dZ k2 k3 k4 fG;have kb:=az kb fG;clear fG;go_upto_region 2 with(first|refine aR ?_|refine aU ?_)
  obtain⟨gI,ll,iM⟩:=GD k2 k3 k4;refine aK (fun m9 k6 aA=>?_);obtain⟨k2,k3,k4⟩:=dZ k2 k3 k4 aA;have kb:=az kb aA;clear aA;generalize (pJ).heap.size=t9 at k6 gI ll iM⊢;go_wp2_with(first|refine aR ?_|refine aU ?_);exact bodyPost_ret (aT Tryz.results129 _ _ _ _ rfl Tryz.underlying27 rfl _ (k4.setRow _) zam _ rfl) rfl ⟨rfl,ah kb zOm _⟩
theorem dJ (R:Nat):ay R=ag 32 R:=by rw[fB,eB]
def jw (T D X:Nat):List UInt8:=nb 32 (bD D 9)++jk (I0 (bD D 9) (bD D T)) 0 (nb 32 X) (nb 32 T)
theorem tW (T D X:Nat):(jw T D X).length=80:=by rw[jw,zA5,qw,aC,aC]
end Go.Proofs.YtgfkgolafkdjfaaGreatDoor
