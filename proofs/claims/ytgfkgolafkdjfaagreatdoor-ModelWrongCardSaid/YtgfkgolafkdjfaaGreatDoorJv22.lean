/- ModelWrong: part 22 of its proof: lemmas and contracts, each with its conditions in its own statement; the last part holds the law itself. -/
import Derived.Test.YtgfkgolafkdjfaaGreatDoorJv21
import Derived.Laws.IdiomStrings

set_option maxHeartbeats 4000000
set_option maxRecDepth 100000
namespace Go.Proofs.YtgfkgolafkdjfaaGreatDoor
open Go.RowKit
def AH (K R s:Nat) (L:List UInt8):Bool:=
 (iZ R).2&&((iZ K).2&&(decide (s<qN)&&decide (pP (iC bP s 256)=pP (oL (iZ R).1 (iC (iZ K).1 (tm (nb 32 R++(nb 32 K++L))%qN) 256)))))
theorem xk (b:Nat):(iZ b).1.ok:=by
 have z:zP.ok:=⟨aX,aX,aX,aX⟩;have h1:1<pN:=zDc;unfold iZ;split
 ·exact z
 ·rename_i hy;have hy:b%2^255<pN:=by
   have:b%2^255%pN=b%2^255:=(by simpa using hy);rw[←this];exact zA1 _ aX
  split
  ·exact z
  ·split
   ·split
    ·exact z
    ·exact⟨zA1 _ aX,hy,h1,zA1 _ aX⟩
   ·exact⟨rtv_lt _,hy,h1,zA1 _ aX⟩
def mS (R s:Nat):List Value:=ay R++ay s
theorem fI (R s:Nat):(mS R s).length=64:=by simp[mS,aZ]
theorem Yk {w:World} {k R s:Nat} (h:Arr w k (mS R s)):w.rangeAt k 0 (ay R):=h.range (fun j hj=>by rw[Nat.zero_add,mS,zA12 hj])
theorem aez {w:World} {k R s:Nat} (h:Arr w k (mS R s)):w.rangeAt k 32 (ay s):=h.range (fun j hj=>by rw[mS,zA2 (by rw[aZ];omega),aZ,show 32+j-32=j by omega])
theorem fB (R:Nat):ay R=aJ (nb 32 R):=eB 32 R
def Ph.sls (n:Nat) (ls:List (List UInt8)):Ph:=⟨fun v w=>∃d,v=.slice d n n∧Sls w v ls,fun _ _ _ ⟨d,h1,h2⟩ hb=>⟨d,h1,h2.below hb⟩,false,fun h=>by cases h⟩
theorem aaR {w:World} {k R s:Nat} (h:Arr w k (mS R s)):Sl w (.slice (some ⟨k,0,none⟩) 32 64) (aJ (nb 32 R)):=by
 refine⟨some ⟨k,0,none⟩,64,by rw[ai,aC],by rw[ai,aC];decide,by decide,fun h=>zaa,fun x hx j u hu=>?_⟩;cases hx;rw[Addr.add_lit];rw[←fB]at hu;exact Yk h j u hu
theorem zR (K R s:Nat) (hK:K<256^32) (hR:R<256^32) (hs:s<256^32) (d:Option Addr) (n c:Nat) (ls:List (List UInt8)) (hl:ls.length≤100000) (w:World) (vA:Sls w (.slice d n c) ls):
 CB 127 #[.agg (ay K).toArray,.agg (mS R s).toArray,.slice d n c] w (.bool (AH K R s ls.flatten)):=by
 have cR:=zH (fun w=>Ez R hR w);have cK:=zH (fun w=>Ez K hK w);have okR:=xk R;have okK:=xk K;obtain⟨V,hV⟩:=zX (AH K R s ls.flatten);rw[hV];unfold AH at hV;obtain⟨RP,hRP⟩:=zX ((iZ R).1);obtain⟨KP,hKP⟩:=zX ((iZ K).1);obtain⟨o1,Ae⟩:=zX ((iZ R).2);obtain⟨o2,rJ⟩:=zX ((iZ K).2);rw[hRP,Ae]at cR;rw[hKP,rJ]at cK;rw[hRP]at okR;rw[hKP]at okK;rw[hRP,hKP,Ae,rJ]at hV;have cL:=fun w=>KC s hs w;obtain⟨o3,Ds⟩:=zX (decide (s<qN));rw[Ds]at cL hV;replace cL:=zH cL;replace hV:=zH hV;replace okR:=zH okR;replace okK:=zH okK;replace vA:=zH vA;replace hs:=zH hs;replace hl:=zH hl;clear hRP hKP Ae rJ Ds hK hR;go_enter Tryz.func127,Tryz.ntmps127;go_upto_region 1 with fail
 refine be (fun W aB k3 k4 kb=>?_);have k4:Arr W (w.heap.size+1) (mS R s):=k4;clear aB;have DJ:∀w o,(Instr.arrayAt 27 (.slice (some ⟨o,32,none⟩) 32 32)).run Tryz.prog w=.ok (.pointer (some ⟨o,32,none⟩)) w:=fun w o=>run_arrayAt w 27 5 32 _ 32 32 Tryz.underlying27 zDc;have acL:∀w o,(Instr.arrayAt 27 (.slice (some ⟨o,0,none⟩) 32 64)).run Tryz.prog w=.ok (.pointer (some ⟨o,0,none⟩)) w:=fun w o=>run_arrayAt w 27 5 32 _ 32 64 Tryz.underlying27 zDc;have kQ:=aez k4;go_upto_region 2 with(first|(refine aE rfl _ _ rfl _ _ rfl zKr _ kQ zLn ?_)|(refine aU ?_))
 clear kQ;obtain⟨BQ,su⟩:=IP k3 k4;refine aK (fun mU k7 aA=>?_);obtain⟨k3,k4⟩:=fZ k3 k4 aA;have kb:=az kb aA;clear aA;generalize (W).heap.size=wx at k7 BQ su⊢;have og:=Yk k4;go_wp2_with(refine aE rfl _ _ rfl _ _ rfl zKr _ og zLn ?_);clear og;refine zQ (cR.out _) fun i8 dA=>?_;obtain⟨k3,k4,k7⟩:=dZ k3 k4 k7 dA;have kb:=az kb dA;clear dA;go_upto_region 3 with(first|refine aR ?_|refine aU ?_)
 obtain⟨sz,oa,sD⟩:=GD k3 k4 k7;refine aK (fun jF k8 aA=>?_);obtain⟨k3,k4,k7⟩:=dZ k3 k4 k7 aA;have kb:=az kb aA;clear aA;generalize (i8).heap.size=xX at k8 sz oa sD⊢;go_upto_region 3 with(first|refine aR ?_|refine aU ?_)
 go_wp2_with(first|refine aR ?_|refine aU ?_);refine zQ (cK.out _) fun pJ fG=>?_;obtain⟨k3,k4,k7,k8⟩:=kJ k3 k4 k7 k8 fG;have kb:=az kb fG;clear fG;go_upto_region 4 with(first|refine aR ?_|refine aU ?_)
 obtain⟨Nq,mj,yl,ym⟩:=zJ4 k3 k4 k7 k8;refine aK (fun m9 k10 aA=>?_);obtain⟨k3,k4,k7,k8⟩:=kJ k3 k4 k7 k8 aA;have kb:=az kb aA;clear aA;generalize (pJ).heap.size=pU at k10 Nq mj yl ym⊢;clear cR cK;cases o1
 ·exact zdU
 cases o2
 ·exact zdU
 go_wp2_with(refine aR ?_);refine zQ (cL.out _) fun qD ia=>?_;obtain⟨k3,k4,k7,k8,k10⟩:=uk k3 k4 k7 k8 k10 ia;have kb:=az kb ia;clear ia;cases o3
 ·exact zdU
 have sR:=zH (aaR k4);have sK:=zH (show Sl qD (.slice (some ⟨w.heap.size,0,none⟩) 32 32) (aJ (nb 32 K))from Sl.ofArrN (by rw[←fB];exact k3) (aC _ _) zDc);have adi:=vA.out.below kb;have cS:=zH (fun d' (w':World) (hb:Below (qD).heap.size qD w') (h:Sls w' (.slice d' 2 2) [nb 32 R,nb 32 K])=>M8 w' d' d 2 n c [nb 32 R,nb 32 K] ls h (adi.below hb) zac hl.out);obtain⟨M,hM⟩:=zX (tm ([nb 32 R,nb 32 K]++ls).flatten%qN);rw[hM]at cS;have lM:M<256^32:=(by rw[←hM];exact zA25 (zA1 _ zDc) zDc);have hV2:decide (pP (iC bP s 256)=pP (oL RP (iC KP M 256)))=V:=by
  have h:=hV.out;simp only[Bool.true_and]at h;rw[←h,←hM];rfl
 have qe:=fun w=>YC (b:=V) hV2 (wt _) (wt _) w;have c1:=zH (fun w=>CK bP s Bk hs.out w);have c2:=zH (fun w=>CD (iC bP s 256) (tT _ _ _) w);have c3:=zH (fun w=>CK KP M okK.out lM w);have c4:=zH (fun w=>Cz RP (iC KP M 256) okR.out (tT _ _ _) w);have c5:=zH (fun w=>CD (oL RP (iC KP M 256)) (vX _ _) w);obtain⟨A,hA⟩:=zX (iC bP s 256);obtain⟨B,hB⟩:=zX (iC KP M 256);rw[hA]at c1 c2 qe;rw[hB]at c3 c4 c5 qe;obtain⟨C,hC⟩:=zX (oL RP B);rw[hC]at c4 c5 qe;obtain⟨x,hx⟩:=zX (pP A);obtain⟨y,hy⟩:=zX (pP C);rw[hx]at c2 qe;rw[hy]at c5 qe;replace qe:=zH qe;clear hM lM hV2 hA hB hC hx hy hV vA hl hs okR okK adi cL DJ acL;go_upto_region 6 with fail
 refine cH 6 7 fun iB=>?_;refine eZ ?_ 4 7 zbb [0,1,2] (fun _ _=>zRd) ?_;refine bG 1 63 [(3,42),(4,43),(5,12)] [(false,[]),(false,[(3,42)]),(false,[])] [(3,Ph.sls 2 [nb 32 R,nb 32 K]),(4,Ph.is (.agg (ay M).toArray)),(5,Ph.arr (qD).heap.size (ay 0))] zKr zKr zaA ?_ ?_
 ·refine⟨⟨_,rfl,?_⟩,⟨_,rfl,?_⟩,⟨_,rfl,?_⟩,trivial⟩
  ·intro vs w1 hS hE hD K hK;clear hD;simp only[aG,Act.put,zSa,zSz,zSs]at hK⊢;go_simp;exact hK _ _ ⟨_,rfl,Sls.new2 (sR.out.below hS) (sK.out.below hS) _⟩ (ae _ _) nofun
  ·intro vs w1 hS hE hD K hK;obtain⟨q3,-⟩:=hD;simp only[aG,Act.put,zSa,zSz,zSs]at hK⊢;obtain⟨d3,e3,Ek⟩:=q3;rw[e3]at hK⊢;rw[show vs _=_ from e3]at Ek;clear e3;go_simp;refine zQ (cS.out _ _ hS Ek) fun w2 hb2=>?_;exact zdH
  ·exact zcV
 intro vs ajv XB ahd hP hD;obtain⟨q3,q4,q5,-⟩:=hP;simp only[aG,Act.put,zSa,zSz,zSs];obtain⟨d3,e3,Ek⟩:=q3;rw[e3];rw[show vs _=_ from e3]at Ek;clear e3;rw[show vs 4=_ from q4];clear q4;obtain⟨g5,e5,jJ,mX⟩:=q5;rw[e5];clear e5 hD vs;have aiZ:=zI4 k3 k7 k8 k10 jJ;clear Ek;obtain⟨k7,k8,k10⟩:=dZ k7 k8 k10 XB;have kb:=az kb XB;refine kO 127 ?_;refine ap zKr ?_
 first|refine aV mX (fun rY mX ad ak=>?_)|refine eu mX (fun rY mX ad ak=>?_)
 obtain⟨k7,k8,k10⟩:=Dz ad k7 k8 k10;have kb:=ak _ _ zOm kb;clear ad ak;have k12:=mX;clear mX;generalize g5=LC at*;clear cS sR sK;go_upto_region 7 with fail
 refine cH 9999 12 fun hU=>?_;refine dz ?_ 8 114 zaF [1,4,5,6] (fun w' hB=>by obtain⟨y7,y8,y10,y12⟩:=kJ k7 k8 k10 k12 hB;exact zRd) ?_;refine eg 0 115 hU Ok fun kN eT=>?_;refine eg 2 119 eT c1.out fun xE gZ=>?_;refine eg 3 127 gZ c2.out fun tq kT=>?_;refine eg 7 255 kT c3.out fun rD iU=>?_;refine eg 8 511 iU c4.out fun rE iV=>?_;refine eg 9 1023 iV c5.out fun uj iA=>?_;refine dz ?_ 0 4095 (by exact iA) [10,11] (fun w' hB=>by have eqf:=qe.out w';exact zRd) ?_;refine ap zKr ?_;have kb:=az kb iA;clear iA;exact zc4
def Ti (K:Nat):Nat:=tm (nb 32 K)
def pE (K:Nat):Nat:=dD (Ti K%256^32)
theorem ME (K:Nat):pE K<256^32:=zA25 (Bq _) zDc
def tn (K:Nat):List UInt8:=nb 32 (Ti K/256^32)
def ev (K:Nat):Nat:=pP (iC bP (pE K) 256)
def HB (s:Nat) (name:List UInt8):Nat:=ql (nb 32 s) (name++[1])
theorem Sls.new3 {w:World} {v1 v2 v3:Value} {b1 b2 b3:List UInt8} (h1:Sl w v1 (aJ b1)) (h2:Sl w v2 (aJ b2)) (h3:Sl w v3 (aJ b3)) (T:TypeId):Sls (w.alloc (.cells #[v1,v2,v3] T)) (.slice (some ⟨w.heap.size,0,none⟩) 3 3) [b1,b2,b3]:=by
 refine⟨[v1,v2,v3],⟨_,3,rfl,zA0 _,by decide,fun h=>zaa,fun x hx=>?_⟩,rfl,?_⟩
 ·cases hx;intro j u hu;rw[Addr.add_lit,Nat.zero_add];exact(Arr.new w #[v1,v2,v3] T).cell hu
 ·intro j a b' ha jW
  match j with
  |0=>simp only[List.getElem?_cons_zero,Option.some.injEq]at ha jW;subst ha jW;exact h1.alloc _
  |1=>simp only[List.getElem?_cons_zero,zA33,Option.some.injEq]at ha jW;subst ha jW;exact h2.alloc _
  |2=>simp only[List.getElem?_cons_zero,zA33,Option.some.injEq]at ha jW;subst ha jW;exact h3.alloc _
  |j+3=>simp at ha
theorem gn {w:World} {base:Nat} {e:TypeId} {v:Value} {n:Nat} {xs:List Value} (h:w.ownsRow base e 1 v n xs) (hn:0<n):∃g cap,v=.slice (some ⟨g,0,none⟩) n cap∧base≤g∧n≤cap∧cap≤maxLen∧w.rangeAt g 0 xs:=by
 obtain⟨h1,⟨-,h2⟩|⟨g,cap,cur,rfl,hg,hh,h3,h4,h5,h6⟩⟩:=h
 ·omega
 ·refine⟨g,cap,rfl,hg,h3,h4,fun j v hv=>?_⟩;rw[cell_of_row w g _ _ _ _ hh];rw[←h6]at hv;rw[List.getElem?_take]at hv;split at hv
  ·simpa using hv
  ·cases hv
def ExJ (N:Nat) (ov lv iv:Value) (wr:World):Prop:=
 (iv=.int .i64 1∧ov=.slice none 0 0∧lv=.slice none 0 0)∨(iv=.int .i64 2∧∃g cap,ov=.slice (some ⟨g,0,none⟩) 32 cap∧32≤cap∧cap≤maxLen∧wr.rangeAt g 0 (ag 32 N))
theorem Ji (s:Nat) (a:Option Addr) (cap:Nat) (info:List UInt8) (w:World) (hs:Sl w (.slice a info.length cap) (aJ info)):
 Calls Tryz.prog 215 #[.agg (ag 32 s).toArray,.slice a info.length cap,.int .i64 32] w fun e w'=>
  ∃g,e=.returned (.tuple #[.slice (some ⟨g,0,none⟩) 32 32,.int .i64 0])∧w'.rangeAt g 0 (ag 32 (HB s info))∧Below w.heap.size w w':=by
 obtain⟨N,hN⟩:=zX (HB s info);have cm:=zH (show ∀w a2 d,Sl w (.slice a2 32 32) (aJ (nb 32 s))→Sls w (.slice d 3 3) [[],info,[1]]→CB 216 #[.slice a2 32 32,.slice d 3 3] w (.agg (ag 32 N).toArray) from fun w a2 d h1 h2=>by
  have q:=Cl a2 d 32 3 (nb 32 s) [[],info,[1]] zac w zbX h2;rw[aC,show([[],info,[1]]:List (List UInt8)).flatten=info++[1] by simp]at q;rw[←hN];exact q)
 rw[hN];obtain⟨n0,L5⟩:=zX info.length;rw[L5]at hs⊢;replace hs:=zH hs;clear hN L5;go_enter Tryz.func215,Tryz.ntmps215;go_upto_region 1 with fail
 refine aH (fun wA aB k3 kb=>?_);replace k3:Arr wA w.heap.size (ag 32 s):=k3;obtain⟨g3,kZ⟩:=zX w.heap.size;rw[kZ]at k3⊢;clear aB kZ;replace hs:=zH (hs.out.below kb);have h0:ExJ N (.slice none 0 0) (.slice none 0 0) (.int .i64 1) wA:=.inl ⟨rfl,rfl,rfl⟩;replace h0:=zH h0;go_wp2_with fail;go_loopw[8,9,10] (fun ov lv iv wr=>ExJ N ov lv iv wr∧Arr wr g3 (ag 32 s)∧Sl wr (.slice a n0 cap) (aJ info)∧Below w.heap.size w wr) (fun _ _ iv _=>(2-intOf iv).toNat)
 case atStart=>exact⟨h0.out,k3,hs.out,kb⟩
 case round=>
 clear k3 hs kb h0;obtain⟨hJ,k3,hs,kb⟩:=hrel;have hw0:=kb.size;rcases hJ with⟨rfl,rfl,rfl⟩|⟨rfl,g,cp,rfl,jX,pH,Q0⟩
 ·rw[eB]at k3;have h3:=Sl.ofArrN k3 (aC 32 s) zDc;have hS:Sls ((wr.alloc (.cells #[.int .u8 1] 5)).alloc (.cells #[.slice none 0 0,.slice a n0 cap,.slice (some ⟨wr.heap.size,0,none⟩) 1 1] 24)) (.slice (some ⟨wr.heap.size+1,0,none⟩) 3 3) [[],info,[1]]:=by
   have q:=Sls.new3 (b1:=[]) (b3:=[1]) (Sl.nil _) (hs.alloc (.cells #[.int .u8 1] 5)) (Sl.new1 wr (.int .u8 1) 5) 24;rw[show(wr.alloc (.cells #[.int .u8 1] 5)).heap.size=wr.heap.size+1 by simp]at q;exact q
  have np:=zH (cm.out _ _ _ ((h3.alloc _).alloc _) hS);have iG:Below wr.heap.size wr ((wr.alloc (.cells #[.int .u8 1] 5)).alloc (.cells #[.slice none 0 0,.slice a n0 cap,.slice (some ⟨wr.heap.size,0,none⟩) 1 1] 24)):=(ae _ _).alloc zac _;replace hs:=zH hs;clear hS h3;go_wp2_with fail;refine np.out.mono ?_;rintro e wB ⟨rfl,hb⟩;have mK:=az iG hb;rw[←eB]at k3;replace k3:=k3.below mK;replace hs:=zH (hs.out.below mK);replace kb:=az kb mK;clear hb iG mK np cm;go_upto_region 8 with(refine aD rfl _ _ _ rfl _ (ag 32 N) rfl rfl _ (Arr.new _ _ _) zbx zbR (bm _ _) (fun wC k11 hg aB=>?_))
  have hb:=a9 hg;replace k3:=k3.below hb;replace hs:=zH (hs.out.below hb);replace kb:=az kb hb;have hsC:w.heap.size≤wC.heap.size:=kb.size;obtain⟨g11,j8⟩:=zX wB.heap.size;rw[j8]at k11⊢;clear hb aB hg j8;obtain⟨i,hi,jN,jA,jB⟩:=info_parts ig;have Pe:Hid (Sl wC (.slice (some ⟨g11,0,none⟩) 32 32) (ag 32 N)):=zH (by rw[eB]at k11⊢;exact Sl.ofArrN k11 (aC 32 N) zDc);have fQ:=zH (bm 32 N);have fP:=zH (aa 32 N);clear k11;go_wp2_with(at_builtin;refine dO rfl _ _ 24 rfl wC.heap.size 5 Tryz.underlying24 hi jN jA jB rfl _ _ _ rfl (World.ownsRow_nil _ _ _ _) _ (ag 32 N) rfl Pe.out fQ.out ?c2 ?c3 (zA0 _) (fun v' wD cf hg=>?_))
  case c2=>rw[fP.out];decide
  case c3=>rw[fP.out];decide
  rw[fP.out]at cf;obtain⟨go,cpo,rfl,Pk,afJ,afK,hro⟩:=gn cf zDc;have hbD:Below wC.heap.size wC wD:=f9 (zA6 _ _) (World.ownsRow_nil _ _ 5 1) (zA0 _) hg;replace k3:=k3.below hbD;replace hs:=hs.out.below hbD;replace kb:=az kb hbD;clear cf hg hbD Pe;go_wp2_with fail;exact⟨⟨.inr ⟨rfl,go,cpo,rfl,afJ,afK,hro⟩,k3,hs,kb⟩,by simp[intOf]⟩
 ·clear cm hs k3;unfold maxLen at pH;replace Q0:=zH Q0;have hci:(32:Int)≤(cp:Int):=zOm;go_wp2_with fail;go_ret2;exact⟨g,rfl,Q0.out,kb⟩
theorem G1 (w:World) (str:ByteArray) (hl:str.size≤maxLen):∃c w',(convert 9 24 (.string str)).run Tryz.prog w=.ok (.slice (some ⟨w.heap.size,0,none⟩) str.size c) w'∧
 Sl w' (.slice (some ⟨w.heap.size,0,none⟩) str.size c) (aJ str.data.toList)∧Below w.heap.size w w':=by
 have hr:=run_bytes_of_string (P:=Tryz.prog) w 9 24 5 str Tryz.underlying9 Tryz.underlying24 Tryz.underlying5;have h1:=grownCap_ge w str.size 0 5;have h2:=grownCap_le_maxLen w str.size 0 5 hl;obtain⟨c,hc⟩:=zX (grownCap w str.size 0 5);rw[hc]at hr h1 h2;have aB:str.data.toList.length=str.size:=zac;refine⟨_,_,hr,⟨_,c,by rw[ai,aB],by rw[ai,aB];exact h1,h2,fun h=>zaa,fun x hx=>?_⟩,(zA6 _ _).drew.alloc (zA0 _) _⟩;cases hx;intro j u hu;rw[Addr.add_lit,Nat.zero_add];have hj:j<str.size:=by
  have:=(zA18.1 hu).1;rwa[ai,aB]at this
 have e:(w.drew.alloc (.cells (bytesRow str c) 5 ((bytesRow str c).size,(bytesRow str c).size+1))).heap[w.heap.size]? =some (.cells (bytesRow str c) 5 ((bytesRow str c).size,(bytesRow str c).size+1)):=by
  show(w.heap.push _)[w.heap.size]? =_
  simp
 rw[cell_of_row _ _ _ _ _ _ e,←hu];simp[bytesRow,aJ,Array.getElem?_append];intro h;omega
theorem Vs (s:Nat) (str:ByteArray) (aB:str.size≤maxLen) (w:World):
 CB 177 #[.agg (ag 32 s).toArray,.string str] w (.agg (ag 32 (HB s str.data.toList)).toArray):=by
 have ce:=zH (Ji s);obtain⟨L,hL⟩:=zX str.data.toList;obtain⟨n,hn⟩:=zX str.size;have hLn:Hid (L.length=n):=zH (by rw[←hL,←hn];simp);have cv:=zH (fun w=>G1 w str aB);rw[hL,hn]at cv;rw[hL];clear hL hn aB;go_enter Tryz.func177,Tryz.ntmps177;go_upto_region 1 with fail
 refine be (fun wA aB k2 k4 kb=>?_);replace k2:Arr wA w.heap.size (ag 32 s):=k2;replace k4:Arr wA (w.heap.size+1) (ag 32 0):=k4;obtain⟨c,wB,hr,hS,hb⟩:=cv.out wA;have np:=ce.out _ c L wB (by rw[hLn.out];exact hS);rw[hLn.out]at np;replace np:=zH np;obtain⟨g4,mT⟩:=zX (w.heap.size+1);rw[mT]at k4⊢;have X7:w.heap.size≤g4:=zOm;clear hS ce aB mT;go_wp2_with(refine ab rfl _ _ rfl _ rfl zDk _ k2 zbx ?_);replace k4:=k4.below hb;replace kb:=az kb hb;clear hr k2 hb cv;refine np.out.mono ?_;rintro e wC ⟨g,rfl,Q0,hb⟩;replace k4:=k4.below hb;replace kb:=az kb hb;clear np hb;have DJ:∀w,(Instr.arrayAt 27 (.slice (some ⟨g,0,none⟩) 32 32)).run Tryz.prog w=.ok (.pointer (some ⟨g,0,none⟩)) w:=fun w=>run_arrayAt w 27 5 32 _ 32 32 Tryz.underlying27 zDc
 go_wp2_with(first|(refine aE rfl _ _ rfl _ _ rfl zKr _ Q0 zbx ?_)|(refine aD rfl _ _ _ rfl g4 (ag 32 (HB s L)) rfl rfl _ k4 zbx za3 (bm _ _) (fun w9 k4 hg aB=>?_)));have qb:=aq kb hg X7 kb.size;exact bodyPost_ret (aj Tryz.results177 _ _ _ rfl zKr _ k4 zbx) rfl ⟨rfl,qb⟩
def SlA (w:World) (v:Value) (xs:List Value):Prop:=Sl w v xs
theorem SlA.below {w w':World} {v:Value} {xs:List Value} (h:SlA w v xs) (hb:Below w.heap.size w w'):SlA w' v xs:=Sl.below h hb
theorem SlA.lt {w:World} {v:Value} {xs:List Value} (_:SlA w v xs):0<1:=by decide
def SlsA (w:World) (v:Value) (ls:List (List UInt8)):Prop:=Sls w v ls
theorem SlsA.below {w w':World} {v:Value} {ls:List (List UInt8)} (h:SlsA w v ls) (hb:Below w.heap.size w w'):SlsA w' v ls:=Sls.below h hb
theorem SlsA.lt {w:World} {v:Value} {ls:List (List UInt8)} (_:SlsA w v ls):0<1:=by decide
def IZ (K:Nat) (L:List UInt8):Nat:=tm (tn K++L)%qN
def uF (K:Nat) (L:List UInt8):Nat:=pP (iC bP (IZ K L) 256)
def Tp (K:Nat) (L:List UInt8):Nat:=tm (nb 32 (uF K L)++(nb 32 (ev K)++L))%qN
def xv (K:Nat) (L:List UInt8):Nat:=(IZ K L+Tp K L*pE K%qN)%qN
theorem AU:qN<256^32:=by decide
theorem Sl.rng {w:World} {g n c:Nat} {xs:List Value} (h:Sl w (.slice (some ⟨g,0,none⟩) n c) xs):w.rangeAt g 0 xs:=by
 obtain⟨a,cap,he,h2,h3,h4,h5⟩:=h;cases he;intro j v hv;have:=h5 _ rfl j v hv;rwa[Addr.add_lit]at this
theorem Gp (R s:Nat):aJ (nb 32 R)++aJ (nb 32 s)=mS R s:=by rw[←fB,←fB];rfl
theorem tR (R s:Nat):∀v∈mS R s,v.oneCell'=true:=by
 intro v hv;rcases List.mem_append.1 hv with h|h
 ·exact jO _ v h
 ·exact jO _ v h
theorem GY (i:Int) (w:World):CB 146 #[.int .i64 i] w (.bool (decide (0≤i)&&decide (i≤2147483647))):=by
 obtain⟨V,hV⟩:=zX ((decide (0≤i)&&decide (i≤2147483647)));rw[hV];replace hV:=zH hV
 by_cases h:0≤i
 ·have d0:decide (0≤i)=true:=decide_eq_true h
  by_cases h2:i≤2147483647
  ·have hv:Hid (V=true):=zH (by rw[←hV.out,d0,decide_eq_true h2];rfl);exact zd8
  ·have hv:Hid (V=false):=zH (by rw[←hV.out,d0,decide_eq_false h2];rfl);exact zd8
 ·have hv:Hid (V=false):=zH (by rw[←hV.out,decide_eq_false h];rfl);exact zd8
theorem M5 (str:ByteArray) (aB:str.size≤1000) (i:Int) (w:World):
 Calls Tryz.prog 147 #[.string str,.int .i64 i] w fun e w'=>∃g c,e=.returned (.slice (some ⟨g,0,none⟩) (str.size+8) c)∧Sl w' (.slice (some ⟨g,0,none⟩) (str.size+8) c) (aJ (str.data.toList++bS [i]))∧Below w.heap.size w w':=by
 have cv:=zH (fun w=>G1 w str zbW);have hL:Hid (str.data.toList.length=str.size):=zH zac;obtain⟨L,hLe⟩:=zX str.data.toList;obtain⟨n,hn⟩:=zX str.size;rw[hLe,hn]at cv hL;rw[hLe,hn];rw[hn]at aB;clear hLe hn;go_enter Tryz.func147,Tryz.ntmps147;obtain⟨c,wB,hr,hS,hb⟩:=cv.out w;have hS2:=zH hS;clear hS cv;go_wp2_with fail;refine(mP _ _ L [i] _ (hS2.out.alloc _) (Sl.new1 wB (.int .i64 i) 3) (by rw[hL.out];simp;omega)).mono ?_;rintro e w1 ⟨v,rfl,cf,mK⟩;have kb:=az (az hb (ae wB _)) mK;have aI:(L++bS [i]).length=n+8:=(by rw[zA5,hL.out];rfl);rw[aI]at cf;obtain⟨g,cap,rfl,-,-,-,-⟩:=gn cf zOm;have dI:=zH (Sl.of_own cf);clear cf aI mK hr;go_wp2_with fail;go_ret;exact⟨g,cap,rfl,dI.out,kb⟩
def td (i:Int):Bool:=decide (0≤i)&&decide (i≤2147483647)
def jT:List UInt8:=[80,67,67,84]
def jZ (i:Int) (k R s:Nat):List Value:=.int .i64 i::(ay k++mS R s)
theorem UX {w:World} {g k R s:Nat} {i:Int} (h:Arr w g (jZ i k R s)):w.rangeAt g 33 (mS R s):=h.range (fun j hj=>by
 rw[jZ,show 33+j=(32+j)+1 by omega,zA33,zA2 (by rw[aZ];omega),aZ,show 32+j-32=j by omega])
theorem YA {w:World} {g k R s:Nat} {i:Int} (h:Arr w g (jZ i k R s)):Sl w (.slice (some ⟨g,1,none⟩) 32 32) (aJ (nb 32 k)):=by
 have hr:w.rangeAt g 1 (ay k):=h.range (fun j hj=>by rw[jZ,Nat.add_comm 1 j,zA33,zA12 hj]);refine⟨some ⟨g,1,none⟩,32,by rw[ai,aC],by rw[ai,aC];decide,by decide,fun h=>zaa,fun x hx j u hu=>?_⟩;cases hx;rw[Addr.add_lit];rw[←fB]at hu;exact hr j u hu
theorem Jc (K k R s:Nat) (i:Int) (hK:K<256^32) (hR:R<256^32) (hs:s<256^32) (w:World):
 CB 126 #[.agg (ay K).toArray,.agg (jZ i k R s).toArray] w (.bool (td i&&AH K R s (jT++(bS [i]++nb 32 k)))):=by
 have cM:=fun w=>GY i w;obtain⟨V,hV⟩:=zX ((td i&&AH K R s (jT++(bS [i]++nb 32 k))));rw[hV];unfold td at hV;obtain⟨m,hm⟩:=zX ((decide (0≤i)&&decide (i≤2147483647)));rw[hm]at cM hV;obtain⟨B,hB⟩:=zX (jT++bS [i]);have cB:=zH (fun w=>show Calls Tryz.prog 147 #[.string ⟨#[80,67,67,84]⟩,.int .i64 i] w fun e w'=>∃g c,e=.returned (.slice (some ⟨g,0,none⟩) 12 c)∧Sl w' (.slice (some ⟨g,0,none⟩) 12 c) (aJ B)∧Below w.heap.size w w' from by rw[←hB];exact M5 ⟨#[80,67,67,84]⟩ zDc i w);rw[show jT++(bS [i]++nb 32 k)=B++nb 32 k by rw[←hB,zA16]]at hV;obtain⟨X,hX⟩:=zX (AH K R s (B++nb 32 k));rw[hX]at hV;have XO:[B,nb 32 k].flatten=B++nb 32 k:=zac;have cV:=zH (fun(w:World) g (h:Sls w (.slice (some ⟨g,0,none⟩) 2 2) [B,nb 32 k])=>show CB 127 #[.agg (ay K).toArray,.agg (mS R s).toArray,.slice (some ⟨g,0,none⟩) 2 2] w (.bool X) from by
  have q:=zR K R s hK hR hs (some ⟨g,0,none⟩) 2 2 [B,nb 32 k] zac w h;rw[XO,hX]at q;exact q)
 replace hV:=zH hV;replace cM:=zH cM;clear hm hB hK hR hs hX XO;go_enter Tryz.func126,Tryz.ntmps126;go_upto_region 1 with fail
 refine be (fun W aB k2 k3 kb=>?_);have k3:Arr W (w.heap.size+1) (jZ i k R s):=k3;clear aB;refine cH 9999 16 fun aP=>?_;refine dz ?_ 14 3 zaD [0,1] (fun w' hB=>by have y0:=(k3.below hB).cell (j:=0) rfl;exact zRd) ?_;refine eg 2 7 aP cM.out fun i8 bn=>?_;cases m
 ·skip;refine dz ?_ 5 3583 za0 [3,4,5,6,7,8,10,11] (fun _ _=>zRd) ?_;refine aY 9 4095 rfl zDk (fun K hK=>?_);go_simp;refine hK (fun w'=>Below (W).heap.size (W) w') _ _ bn (fun _ h=>h) ?_;clear hK K;try simp only[Act.put,zSa,zSz,zSs]
  refine aY 12 8191 rfl zDk (fun K hK=>?_);go_simp;refine hK (fun w'=>Below (W).heap.size (W) w') _ _ bn (fun _ h=>h) ?_;clear hK K;try simp only[Act.put,zSa,zSz,zSs]
  refine aY 13 16383 rfl zDk (fun K hK=>?_);go_simp;refine hK (fun w'=>Below (W).heap.size (W) w') _ _ bn (fun _ h=>h) ?_;clear hK K;try simp only[Act.put,zSa,zSz,zSs]
  refine dz ?_ 0 65535 za0 [14,15] (fun _ _=>zRd) ?_;refine ap zKr ?_;have kb:=az kb bn;exact zdU
 refine dz ?_ 5 3583 za0 [3,4,5,6,7,8,10,11] (fun w' hB=>by have y0:=(k3.below hB).cell (j:=0) rfl;have hy:=UX (k3.below hB);have y2:=k2.below hB;exact zRm) ?_;refine aY 9 4095 rfl zDk (fun K hK=>?_);go_simp;refine(cB.out _).mono ?_;rintro e jF ⟨g,c,rfl,dI,dc⟩;have bB:=aW bn (zA0 _) dc;refine hK (fun w'=>Below (W).heap.size (W) w') _ _ bB (fun _ h=>h) ?_;clear hK K bn;try simp only[Act.put,zSa,zSz,zSs]
 refine aY 12 8191 rfl zDk (fun K hK=>?_);go_simp;refine hK (fun w'=>Below (W).heap.size (W) w') _ _ (aW bB (zA0 _) (ae _ _)) (fun _ h=>h) ?_;clear hK K;try simp only[Act.put,zSa,zSz,zSs]
 refine vT (F:=fun w'=>Sls w' (.slice (some ⟨(jF).heap.size,0,none⟩) 2 2) [B,nb 32 k]) (w0:=jF) (Sls.new2 dI (YA (k3.below bB)) _) (fun w1 h=>h.below (zA6 _ _).drew) zbS (fun pJ Um fG=>?_);have b9:Below (W).heap.size (W) pJ:=(by first|exact fG|exact aW bB (zA0 _) fG);clear bB;refine eg 13 16383 b9 (cV.out _ _ Um) fun m9 di=>?_;refine dz ?_ 0 65535 zaK [14,15] (fun _ _=>zRd) ?_;refine ap zKr ?_;have kb:=az kb di;exact zdU
theorem nO (i:Int) (k R s:Nat):(jZ i k R s).length=97:=by simp[jZ,aZ,fI]
theorem PU (i:Int) (k R s:Nat):∀v∈jZ i k R s,v.oneCell'=true:=by
 intro v hv;rcases List.mem_cons.1 hv with rfl|h
 ·rfl
 ·rcases List.mem_append.1 h with h|h
  ·exact jO _ v h
  ·exact tR _ _ v h
def Yz (K:Nat) (i:Int) (k:Nat):List Value:=jZ i k (uF K (jT++(bS [i]++nb 32 k))) (xv K (jT++(bS [i]++nb 32 k)))
theorem aaw {a b:Nat} (ha:a<256) (hb:b<256):bits .or .u8 (a:Int) (b:Int)=((a |||b:Nat):Int):=by
 have h8:∀ {a:Nat},a<256→(BitVec.ofInt 8 (a:Int)).toNat=a:=fun h=>by
  rw[BitVec.ofInt_natCast,BitVec.toNat_ofNat];exact zA4 h
 have hl:a |||b<256:=Nat.or_lt_two_pow (n:=8) ha hb;show IntKind.u8.wrap ((BitVec.ofInt 8 (a:Int) |||BitVec.ofInt 8 (b:Int)).toNat:Int)=_
 rw[BitVec.toNat_or,h8 ha,h8 hb,i7,zA4 hl]
def alk (xs ys:List UInt8) (i:Nat):Prop:=∀j,j<i→xs[j]? =ys[j]?
theorem UJ {xs ys:List UInt8} (h:xs.length=ys.length):alk xs ys xs.length↔xs=ys:=by
 constructor
 ·intro ha;apply List.ext_getElem?;intro j
  by_cases hj:j<xs.length
  ·exact ha j hj
  ·rw[zA13 zOm,zA13 zOm]
 ·rintro rfl j _;rfl
theorem Xd (a b:Nat):a ^^^b=0↔a=b:=by
 constructor
 ·intro h;have:(a ^^^b) ^^^b=0 ^^^b:=(by rw[h]);rwa[Nat.xor_assoc,Nat.xor_self,Nat.xor_zero,Nat.zero_xor]at this
 ·rintro rfl;exact Nat.xor_self a
theorem Py {xs ys:List UInt8} {i x y o:Nat} (hx:i<xs.length) (hy:i<ys.length) (ex:(xs[i]).toNat=x) (ey:(ys[i]).toNat=y) (ho:o=0↔alk xs ys i):(o |||(x ^^^y))=0↔alk xs ys (i+1):=by
 rw[Nat.or_eq_zero_iff,ho,Xd];constructor
 ·rintro⟨h1,h2⟩ j hj
  by_cases e:j=i
  ·subst e;rw[zA7 hx,zA7 hy];congr 1;exact UInt8.toNat_inj.1 (by rw[ex,ey,h2])
  ·exact h1 j zOm
 ·intro h;refine⟨fun j hj=>h j zOm,?_⟩;have:=h i zOm;rw[zA7 hx,zA7 hy]at this;injection this with this
  rw[←ex,←ey,this]
theorem Oc (a1 a2:Option Addr) (c1 c2:Nat) (xs ys:List UInt8) (w:World) (h1:Sl w (.slice a1 xs.length c1) (aJ xs)) (h2:Sl w (.slice a2 ys.length c2) (aJ ys)):
 CB 175 #[.slice a1 xs.length c1,.slice a2 ys.length c2] w (.bool (decide (xs=ys))):=by
 have s1:=zH h1;have s2:=zH h2;have lm1:xs.length≤maxLen:=(by have:=h1.len;rw[ai]at this;omega);clear h1 h2;have kb:=zA6 w.heap.size w
 by_cases hl:xs.length=ys.length
 rotate_left
 ·have hr:decide (xs=ys)=false:=decide_eq_false (fun e=>hl (by rw[e]));rw[hr];have dl:((xs.length:Int)==(ys.length:Int))=false:=zab;clear hr;go_enter Tryz.func175,Tryz.ntmps175;exact zc4
 obtain⟨r,hr⟩:=zX (decide (xs=ys));rw[hr];replace hr:=zH hr;obtain⟨n,hn⟩:=zX xs.length;have oO:ys.length=n:=zOm;rw[hn]at s1 lm1⊢;rw[oO]at s2⊢;replace hn:=zH hn;replace oO:=zH oO;clear hl;unfold maxLen at lm1;go_enter Tryz.func175,Tryz.ntmps175;go_wp2_with fail;go_loopw[14,5] (fun iv ov wr=>∃i o:Nat,i≤n∧iv=.int .i64 i∧ov=.int .u8 o∧o<256∧(o=0↔alk xs ys i)∧Below w.heap.size w wr) (fun iv _ _=>n-(intOf iv).toNat)
 case atStart=>exact⟨0,0,zA28 _,rfl,rfl,by decide,⟨fun _ j h=>absurd h zOm,fun _=>rfl⟩,kb⟩
 case round=>
 clear kb;obtain⟨i,o,hi,rfl,rfl,lo,ho,kb⟩:=hrel;replace ho:=zH ho;have mA:(0:Int)≤(i:Int):=zOm
 by_cases iS:i<n
 ·have ub:(i:Int)<(n:Int):=zOm;have q1:=zH (s1.out.below kb);have q2:=zH (s2.out.below kb);have qU:i<xs.length:=(by rw[hn.out];exact iS);have Dx:i<ys.length:=(by rw[oO.out];exact iS);obtain⟨b,o1,rfl,-,-,-,jX⟩:=q1.out.at zaV;obtain⟨b2,o2,rfl,-,-,-,pH⟩:=q2.out.at zaV;have cx:=jX i _ (eY xs i qU);have cy:=pH i _ (eY ys i Dx);clear jX pH;obtain⟨x,hx⟩:=zX ((xs[i]).toNat);obtain⟨y,hy⟩:=zX ((ys[i]).toNat);have lx:x<256:=(by rw[←hx];exact(xs[i]).toNat_lt);have ly:y<256:=(by rw[←hy];exact(ys[i]).toNat_lt);rw[hx]at cx;rw[hy]at cy;have hnx:=zH (Py qU Dx hx hy ho.out);have fx:=rG lx ly;obtain⟨z,hz⟩:=zX (x ^^^y);have lz:z<256:=(by rw[←hz];exact xJ lx ly);rw[hz]at fx hnx;have fo:=aaw lo lz;obtain⟨o3,Ds⟩:=zX (o |||z);have lo3:o3<256:=(by rw[←Ds];exact Nat.or_lt_two_pow (n:=8) lo lz);rw[Ds]at fo hnx;clear hx hy hz Ds qU Dx;go_upto_region 7 with fail
  obtain⟨wq,rfl⟩:∃wq:World,wq=wr:=⟨_,rfl⟩;refine cH 9999 12 fun aP=>?_;refine dz ?_ 0 4095 zaD [0,1,2,3,4,5,6,7,8,9,10,11] (fun w' hB=>by have e1:w'.cell? ⟨b,o1+i,none⟩=some (.int .u8 (x:Int)):=(by rw[hB.cell (p:=⟨b,o1+i,none⟩) (zA11 _ _ cx)];exact cx);have e2:w'.cell? ⟨b2,o2+i,none⟩=some (.int .u8 (y:Int)):=(by rw[hB.cell (p:=⟨b2,o2+i,none⟩) (zA11 _ _ cy)];exact cy);exact zRd) ?_;refine ap zKr ?_;go_wp2_with fail;exact⟨⟨i+1,o3,by omega,by go_num,rfl,lo3,hnx.out,az kb aP⟩,by simp[intOf];omega⟩
 ·have dj:decide ((i:Int)<(n:Int))=false:=decide_eq_false zOm;have hre:((o:Int)==0)=r:=by
   rw[←hr.out];have h1:=ho.out;rw[show i=xs.length by rw[hn.out];omega,UJ (by rw[hn.out,oO.out])]at h1
   by_cases e:xs=ys
   ·rw[decide_eq_true e];have:=h1.2 e;subst this;rfl
   ·rw[decide_eq_false e];have:o≠0:=fun h=>e (h1.1 h);simp;omega
  exact zc4
end Go.Proofs.YtgfkgolafkdjfaaGreatDoor
