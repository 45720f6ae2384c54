/- ModelWrong: part 38 of its proof: lemmas and contracts, each with its conditions in its own statement; the last part holds the law itself. -/
import Derived.Test.YtgfkgolafkdjfaaGreatDoorJv37
import Derived.Lib.UnsafeStr
import Derived.Laws.OwnMore

set_option maxHeartbeats 4000000
set_option maxRecDepth 100000
namespace Go.Proofs.YtgfkgolafkdjfaaGreatDoor
open Go.RowKit
theorem VG {w:World} {B:Nat} {a:Option Addr} {n c k:Nat} {xs:List Value} (h:w.ownsRow B 5 1 (.slice a n c) n xs) (hk:k≤n):w.ownsRow B 5 1 (.slice a k c) k (xs.take k):=by
 obtain⟨h1,h2⟩:=h;rcases h2 with⟨h3,h4⟩|⟨g,cap,cur,h3,h4,h5,h6,h7,h8,h9⟩
 ·cases h3;obtain rfl:k=0:=zOm;exact World.ownsRow_nil _ _ _ _
 ·cases h3;refine⟨by rw[zA15];omega,.inr ⟨g,_,cur,rfl,h4,h5,by omega,h7,h8,?_⟩⟩;rw[←h9,List.take_take];congr 1;omega
theorem TZ {α:Type} (l m:List α):(l++m).take l.length=l:=List.take_left
theorem kH {o:Oper} {T:Nat→Option Bool} {X Y:Prop} (h:o.guard=none) (hx:X):if Region.wanted o T=true then X else Y:=by
 rw[if_pos (by simp[Region.wanted,h])];exact hx
theorem TJ {w:World} {o:Oper} {a:Act} {K:Act→World→Prop} {Q:Exit→Act→World→Prop} {B g cap:Nat} {vx:Value} {bs cs:List UInt8} (s x:Operand)
 (ho:o.op=.call {callee:=.builtin .append,args:=#[s,x],argTypes:=#[24,24]}) (hs:a.eval s=.slice (some ⟨g,0,none⟩) bs.length cap) (hx:a.eval x=vx) (cf:OB B w (.slice (some ⟨g,0,none⟩) bs.length cap) bs) (dI:Sl w vx (aJ cs)) (hc:0<cs.length) (hl:bs.length+cs.length≤1000000)
 (h1:∀w',OB B w' (.slice (some ⟨g,0,none⟩) (bs++cs).length cap) (bs++cs)→OB B w' (.slice (some ⟨g,0,none⟩) bs.length cap) bs→w.grownBy w' (some g)→K (a.put o.dst (.slice (some ⟨g,0,none⟩) (bs++cs).length cap)) w')
 (h2:∀v' w',OB w.heap.size w' v' (bs++cs)→Below w.heap.size w w'→K (a.put o.dst v') w'):Oper.wp Tryz.prog o a w K Q:=by
 obtain⟨i,hi,jN,jA,jB⟩:=info_parts ig
 by_cases hr:cap<bs.length+cs.length
 ·obtain⟨v',w',hr,h3,h4⟩:=oC (P:=Tryz.prog) 24 o.type 5 Tryz.underlying24 hi jN jA jB rfl cf.sl dI (by rw[ai,ai];exact hr) (dr _) zbQ zaV;rw[ai,←bE]at h3;unfold Oper.wp execOp;simp only[ho,resolve,invoke,builtin,Sem.run_bind,Sem.run_pure,Result.andThen_ok,List.map_toArray,List.map_cons,List.map_nil,hs,hx,hr];exact h2 v' w' (by rw[OB,zA5];exact h3) h4
 ·obtain⟨ax,c,rfl,g2,g3,g4,g5⟩:=dI;rw[ai]at g2;cases ax with
  |none=>have:=g4 rfl;omega
  |some q=>
   rw[ai]at hx;have hrr:=run_append_fits (P:=Tryz.prog) w B 24 o.type 5 i 1 Tryz.underlying24 hi jA g bs.length cap (aJ bs) cf q cs.length c (aJ cs) (by rw[ai,Nat.mul_one]) (g5 q rfl) (dr _) zOm;obtain⟨w',zq,h3,h4⟩:=hrr;rw[←bE,←zA5]at h3;unfold Oper.wp execOp;simp only[ho,resolve,invoke,builtin,Sem.run_bind,Sem.run_pure,Result.andThen_ok,List.map_toArray,List.map_cons,List.map_nil,hs,hx,zq];rw[←zA5];refine h1 w' h3 ?_ h4;have:=VG h3 (k:=bs.length) zbF;rw[bE,←ai bs,TZ]at this;rw[ai]at this;exact this
def Ph.ob (B:Nat) (bs:List UInt8):Ph:=⟨fun v w=>∃d:Value,v=d∧OB B w d bs,fun _ _ _ ⟨d,h1,h2⟩ hb=>⟨d,h1,h2.below hb⟩,false,fun h=>by cases h⟩
def ExS (w:World) (gk K B gb cap:Nat) (bs:List UInt8) (w':World):Prop:=
 Arr w' gk (ag 32 K)∧OB B w' (.slice (some ⟨gb,0,none⟩) bs.length cap) bs∧Arr w' 0 (ws ju)∧Below w.heap.size w w'
def ExT (B gb cap:Nat) (bs:List UInt8) (w1 w2:World):Prop:=
 w1.grownBy w2 (some gb)∧(OB B w1 (.slice (some ⟨gb,0,none⟩) bs.length cap) bs→OB B w2 (.slice (some ⟨gb,0,none⟩) bs.length cap) bs)∧
  (OB B w1 (.slice (some ⟨gb,0,none⟩) (bs++[1]).length cap) (bs++[1])→OB B w2 (.slice (some ⟨gb,0,none⟩) (bs++[1]).length cap) (bs++[1]))
theorem ExS.ext {w w1 w2:World} {gk K B gb cap:Nat} {bs:List UInt8} (h:ExS w gk K B gb cap bs w1) (he:ExT B gb cap bs w1 w2) (h1:gk<gb∧0<gb∧w.heap.size≤gb):ExS w gk K B gb cap bs w2:=
 ⟨h.1.kept he.1 zOm,he.2.1 h.2.1,h.2.2.1.kept he.1 zOm,aq h.2.2.2 he.1 zOm h.2.2.2.size⟩
theorem ExT.of {B gb cap:Nat} {bs:List UInt8} {w1 w2:World} (h:Below w1.heap.size w1 w2):ExT B gb cap bs w1 w2:=⟨bO h,fun k=>k.below h,fun k=>k.below h⟩
def ExP (B gb cap:Nat) (bs:List UInt8) (N:Nat) (i:Nat) (v:Value) (w:World):Prop:=
 (i=5→∃g,g≠gb∧v=.slice (some ⟨g,0,none⟩) 1 1∧Arr w g (aJ [1]))∧
 (i=6→∃a c,v=.slice a (bs++[1]).length c∧((a=some ⟨gb,0,none⟩∧c=cap∧OB B w v (bs++[1]))∨(v.ownBlock≠some gb∧OB B w v (bs++[1]))))∧
 (i=7→v=.agg (ag 32 N).toArray)∧(i=8→∃g,g≠gb∧B≤g∧v=.pointer (some ⟨g,0,none⟩)∧Arr w g (ag 32 0))
theorem ExP.ext {B gb cap:Nat} {bs:List UInt8} {N i:Nat} {v:Value} {w1 w2:World} (h:ExP B gb cap bs N i v w1) (he:ExT B gb cap bs w1 w2):ExP B gb cap bs N i v w2:=by
 obtain⟨h5,h6,h7,h8⟩:=h;refine⟨fun e=>?_,fun e=>?_,h7,fun e=>?_⟩
 ·obtain⟨g,k1,k2,k3⟩:=h5 e;exact⟨g,k1,k2,k3.kept he.1 (Ne.symm k1)⟩
 ·obtain⟨a,c,rfl,⟨rfl,rfl,k⟩|⟨k1,k2⟩⟩:=h6 e
  ·exact⟨_,_,rfl,.inl ⟨rfl,rfl,he.2.2 k⟩⟩
  ·exact⟨_,_,rfl,.inr ⟨k1,fH k2 he.1 k1⟩⟩
 ·obtain⟨g,k1,k2,k3,k4⟩:=h8 e;exact⟨g,k1,k2,k3,k4.kept he.1 (Ne.symm k1)⟩
theorem Il (K:Nat) (a:Option Addr) (ca:Nat) (bs:List UInt8) (iG:0<bs.length) (fP:bs.length≤1000) (w:World) (hs:Sl w (.slice a bs.length ca) (aJ bs)) (kG:Arr w 0 (ws ju)):
 Calls Tryz.prog 109 #[.agg (ag 32 K).toArray,.slice a bs.length ca,.int .i64 32] w fun e w'=>∃v,e=.returned v∧OB w.heap.size w' v (nb 32 (HB K bs))∧Below w.heap.size w w':=by
 have hG:=kG.lt;obtain⟨N,hN⟩:=zX (HB K bs);have cM:Hid (∀(w:World) g d cd,Sl w (.slice (some ⟨g,0,none⟩) 32 32) (aJ (nb 32 K))→Sl w (.slice d (bs++[1]).length cd) (aJ (bs++[1]))→Arr w 0 (ws ju)→
  CB 162 #[.slice (some ⟨g,0,none⟩) 32 32,.slice d (bs++[1]).length cd] w (.agg (ag 32 N).toArray)):=zH (fun w g d cd h1 h2 h3=>by
  have:=Im (some ⟨g,0,none⟩) d 32 cd (nb 32 K) (bs++[1]) zck zac zab w zbX h2 h3;rw[aC,show ql (nb 32 K) (bs++[1])=N from hN]at this;exact this)
 rw[hN];replace hs:=zH hs;replace kG:=zH kG;replace iG:=zH iG;replace fP:=zH fP;clear hN;go_enter Tryz.func109,Tryz.ntmps109;go_upto_region 1 with fail
 refine aH (fun w1 aB k3 kb=>?_);replace k3:Arr w1 w.heap.size (ag 32 K):=k3;obtain⟨g3,kZ⟩:=zX w.heap.size;rw[kZ]at k3⊢;replace kZ:=zH kZ;clear aB;go_wp2_with fail;go_loopw[7,8,9] (fun ov tv iv wr=>((iv=.int .i64 1∧ov=.slice none 0 0∧tv=.slice none 0 0)∨(iv=.int .i64 2∧OB w.heap.size wr ov (nb 32 N)))∧Arr wr g3 (ag 32 K)∧Below w.heap.size w wr) (fun _ _ iv _=>(2-intOf iv).toNat)
 case atStart=>exact⟨.inl ⟨rfl,rfl,rfl⟩,k3,kb⟩
 case round=>
 clear k3 kb;obtain⟨⟨rfl,rfl,rfl⟩|⟨rfl,ob⟩,k3,kb⟩:=hrel
 ·have h3:=k3.lt;go_upto_region 7 with(at_builtin;refine jL (W:=wr) rfl _ _ rfl rfl rfl (OB.nil _ _) (hs.out.below kb) (zA6 _ _) (by have:=fP.out;simp;omega) (fun v w2 o1 hb _=>?_))
  rw[List.nil_append]at o1;obtain⟨gb,cap,rfl,ND,jX,pH,-⟩:=o1.rng iG.out;have Ek:=kb.size;replace k3:=k3.below hb;replace kb:=az kb hb;obtain⟨B,hB⟩:=zX wr.heap.size;rw[hB]at o1 ND h3 Ek;have bK:g3<gb∧0<gb∧w.heap.size≤gb:=zOm;have hS:ExS w g3 K B gb cap bs w2.drew:=⟨k3.below (zA6 _ _).drew,o1.below (zA6 _ _).drew,(kG.out.below kb).below (zA6 _ _).drew,az kb (zA6 _ _).drew⟩;clear hb k3 o1 kb jX pH hB ND;refine eC (ExS w g3 K B gb cap bs) 9 10 rfl zKr ?_;refine dz ?_ 5 31 zcr [0,1,2,3,4] (fun _ _=>zRd) ?_;refine Lg (ExT B gb cap bs) 1 511 (([(5,27),(6,28),(7,29),(8,11)]:List (Nat×Nat)).map (·.1)) [(false,[]),(false,[(5,27)]),(false,[(6,28)]),(false,[])] (ExP B gb cap bs N) (fun _ _ _=>True) (fun _ _ _ _=>True) zKr zKr zKr (fun w=>ExT.of (zA6 _ _))
   (fun _ _ _ h1 h2=>⟨aN h1.1 h2.1,fun k=>h2.2.1 (h1.2.1 k),fun k=>h2.2.2 (h1.2.2 k)⟩) hS (fun _ _ h1 h2=>h1.ext h2 bK) (fun _ _ _ _ h1 h2=>h1.ext h2) (fun _ _ _ _ _ _ _ _=>⟨trivial,trivial⟩) ⟨⟨_,rfl,?_⟩,⟨_,rfl,?_⟩,⟨_,rfl,?_⟩,⟨_,rfl,?_⟩,trivial⟩ ?_
  ·intro vs w1 hS hE hD K hK;have NH:=World.ownsRow.lt hS.2.1 gb rfl;clear hD;simp only[aG,Act.put,zSa,zSz,zSs]at hK⊢;go_simp;exact hK _ _ ⟨fun _=>⟨w1.heap.size,by omega,rfl,Arr.new _ _ _⟩,nofun,nofun,nofun⟩ (ExT.of (ae _ _)) trivial
  ·intro vs w1 hS hE hD K hK;have NH:=World.ownsRow.lt hS.2.1 gb rfl;obtain⟨⟨h5,-,-,-⟩,-⟩:=hD;obtain⟨g,hg,e5,a5⟩:=h5 rfl;simp only[aG,Act.put,zSa,zSz,zSs]at hK⊢;have s5:Sl w1 (.slice (some ⟨g,0,none⟩) 1 1) (aJ [1]):=Sl.ofArrN a5 (by rfl) zDc;rw[e5]at hK⊢;refine kH rfl ?_;refine TJ (cs:=[1]) _ _ rfl rfl rfl hS.2.1 s5 zDc (by have:=fP.out;simp;omega) (fun w2 o1 o2 hg=>?_) (fun v' w2 o1 hb=>?_)
   ·exact hK _ _ ⟨nofun,fun _=>⟨_,_,rfl,.inl ⟨rfl,rfl,o1⟩⟩,nofun,nofun⟩ ⟨hg,fun _=>o2,fun _=>o1⟩ trivial
   ·obtain⟨g',c,rfl,XP,-⟩:=o1.rng zac;exact hK _ _ ⟨nofun,fun _=>⟨_,c,rfl,.inr ⟨by simp[Value.ownBlock];omega,o1.mono zOm⟩⟩,nofun,nofun⟩ (ExT.of hb) trivial
  ·intro vs w1 hS hE hD K hK;obtain⟨⟨-,h6,-,-⟩,-⟩:=hD;obtain⟨d,c,e6,h6⟩:=h6 rfl;simp only[aG,Act.put,zSa,zSz,zSs]at hK⊢;have h6:Sl w1 (.slice d (bs++[1]).length c) (aJ (bs++[1])):=by
    rw[e6]at h6;rcases h6 with⟨-,-,h⟩|⟨-,h⟩<;>exact h.sl
   rw[e6]at hK⊢;have k3:=hS.1;rw[eB]at k3;have h3:=Sl.ofArrN k3 (aC 32 _) zDc;have np:=cM.out w1 g3 d c h3 h6 hS.2.2.1;clear k3 h3 h6 e6 cM;generalize (bs++[1]).length=n1 at np hK⊢;go_simp;refine np.mono ?_;rintro e w2 ⟨rfl,hb⟩;exact hK _ _ ⟨nofun,nofun,fun _=>rfl,nofun⟩ (ExT.of hb) trivial
  ·intro vs w1 hS hE hD K hK;have NH:=World.ownsRow.lt hS.2.1 gb rfl;clear hD;simp only[aG,Act.put,zSa,zSz,zSs]at hK⊢;go_simp;exact hK _ _ ⟨nofun,nofun,nofun,fun _=>⟨w1.heap.size,by omega,by omega,rfl,Arr.new _ _ _⟩⟩ (ExT.of (ae _ _)) trivial
  intro vs w4 hS4 hE4 hP _;have e7:=(hP 7 zac).2.2.1 rfl;obtain⟨g8,aiE,hB8,e8,k8⟩:=(hP 8 zac).2.2.2 rfl;rw[pR [(5,27),(6,28),(7,29),(8,11)] _ zKr];simp only[aG,Act.put,zSa,zSz,zSs];rw[e7,e8];generalize vs 5=v5;generalize vs 6=v6;obtain⟨k3,-,-,kb⟩:=hS4;clear hP hE4 hS e7 e8 vs cM;refine bf 1023 rfl zDk (fun K hK=>?_);refine gg rfl _ _ _ rfl g8 (ag 32 N) rfl rfl _ k8 zbx za3 (bm _ _) (fun w5 k8 hg aB=>?_);replace k3:=k3.kept hg zOm;replace kb:=aq kb hg zOm kb.size;refine hK (fun _=>True) 9999 _ _ ?_;clear hK K;try simp only[Act.put]
  try simp only[zSa,zSz,zSs]
  refine ap zKr ?_;have h8:Sl w5 (.slice (some ⟨g8,0,none⟩) 32 32) (aJ (nb 32 N)):=by
   rw[eB]at k8;exact Sl.ofArrN k8 (aC 32 _) zDc
  go_upto_region 9 with(at_builtin;refine jL (W:=w5) rfl _ _ rfl rfl rfl (OB.nil _ _) h8 (zA6 _ _) zck (fun v w6 o1 hb _=>?_))
  clear h8;rw[List.nil_append]at o1;have h1:=o1.sl;go_wp2_with(at_builtin;refine jL (W:=w5) rfl _ _ rfl rfl rfl (OB.nil _ _) h1 hb zck (fun v2 w7 o2 hb _=>?_));rw[List.nil_append]at o2;exact⟨⟨.inr ⟨rfl,o2.mono kb.size⟩,k3.below hb,az kb hb⟩,by simp[intOf]⟩
 ·obtain⟨g,c,rfl,hg,jX,pH,-⟩:=ob.rng zck;have dI:=zH ob.sl;rw[aC]at dI jX⊢;have hci:(32:Int)≤(c:Int):=zOm;clear ob;go_wp2_with(at_builtin;refine jL (W:=wr) rfl _ _ rfl rfl rfl (OB.nil _ _) dI.out (zA6 _ _) zck (fun v w2 o1 hb _=>?_));go_ret;exact⟨v,rfl,o1.mono kb.size,az kb hb⟩
theorem GU (w:World) (p:Addr) (n:Nat) (a:Addr):(w.freeze p n).cell? a=w.cell? a:=by
 unfold World.freeze;split
 ·rfl
 ·unfold World.cell?
  by_cases e:p.block=a.block
  ·simp only[Array.getElem?_modify,e,if_true];cases w.heap[a.block]? with
   |none=>rfl
   |some o=>cases o<;>rfl
  ·simp only[Array.getElem?_modify,e,if_false]
def ExF (n:Nat) (w1 w2:World):Prop:=Below n w1 w2∧∀v xs,Sl w1 v xs→Sl w2 v xs
theorem ExF.refl (n:Nat) (w:World):ExF n w w:=⟨zA6 _ _,fun _ _ k=>k⟩
theorem ExF.of {n:Nat} {w1 w2:World} (h:Below w1.heap.size w1 w2) (hn:n≤w1.heap.size):ExF n w1 w2:=⟨h.mono hn,fun _ _ k=>k.below h⟩
theorem ExF.trans {n:Nat} {w1 w2 w3:World} (h1:ExF n w1 w2) (h2:ExF n w2 w3):ExF n w1 w3:=⟨h1.1.trans h2.1,fun v xs k=>h2.2 v xs (h1.2 v xs k)⟩
theorem D9 (w:World) (g n c N:Nat) (hg:N≤g):∃w',(convert 24 24 (.slice (some ⟨g,0,none⟩) n c)).run Tryz.prog w=.ok (.slice (some ⟨g,0,none⟩) n c) w'∧ExF N w w':=by
 have hr:∀k,ExF N w (w.freeze ⟨g,k,none⟩ 1):=fun k=>⟨Lib.below_freeze (zA6 _ _) hg 1,fun v xs ⟨a,c,h1,h2,h3,h4,h5⟩=>⟨a,c,h1,h2,h3,h4,fun x hx j u hu=>by rw[GU];exact h5 x hx j u hu⟩⟩;cases Uy:w.shape? g with
 |none=>exact⟨w,by simp[convert,run_underlying Tryz.underlying24,run_underlying Tryz.underlying5,markStringish,Uy],ExF.refl _ _⟩
 |some x=>exact⟨w.freeze ⟨g,x.2,none⟩ 1,by simp[convert,run_underlying Tryz.underlying24,run_underlying Tryz.underlying5,markStringish,Uy],hr _⟩
def WkP (n M N:Nat) (i:Nat) (v:Value) (w:World):Prop:=
 (i=3→v=.agg (ag 32 M).toArray)∧(i=4∨i=5→∃g,n≤g∧v=.slice (some ⟨g,0,none⟩) 4 4∧Sl w v (aJ IN))∧(i=6→Sl w v (aJ (nb 32 N)))
theorem WkP.ext {n M N i:Nat} {v:Value} {w1 w2:World} (h:WkP n M N i v w1) (he:ExF n w1 w2):WkP n M N i v w2:=
 ⟨h.1,fun e=>by obtain⟨g,h1,h2,h3⟩:=h.2.1 e;exact⟨g,h1,h2,he.2 _ _ h3⟩,fun e=>he.2 _ _ (h.2.2 e)⟩
theorem OT (e z:Nat) (w:World) (kG:Arr w 0 (ws ju)):
 Calls Tryz.prog 65 #[.agg (ag 32 e).toArray,.agg (ag 32 z).toArray] w fun r w'=>r=.returned (.agg (ag 32 (I0 e z)).toArray)∧Below w.heap.size w w':=by
 obtain⟨M,hM⟩:=zX (ql (nb 32 e) (nb 32 z));obtain⟨N,hN⟩:=zX (I0 e z);have hl:=kG.lt;have cE:Hid (∀(w:World) g g2,Sl w (.slice (some ⟨g,0,none⟩) 32 32) (aJ (nb 32 e))→Sl w (.slice (some ⟨g2,0,none⟩) 32 32) (aJ (nb 32 z))→Arr w 0 (ws ju)→
  CB 110 #[.slice (some ⟨g,0,none⟩) 32 32,.slice (some ⟨g2,0,none⟩) 32 32] w (.agg (ag 32 M).toArray)):=zH (fun w g g2 h1 h2 h3=>by
  have:=Gd (some ⟨g,0,none⟩) (some ⟨g2,0,none⟩) 32 32 (nb 32 e) (nb 32 z) zck zck zck w zbX zcc h3;rw[aC,aC,hM]at this;exact this)
 have cX:Hid (∀(w:World) d,Sl w (.slice d 4 4) (aJ IN)→Arr w 0 (ws ju)→
  Calls Tryz.prog 109 #[.agg (ag 32 M).toArray,.slice d 4 4,.int .i64 32] w fun e w'=>∃v,e=.returned v∧OB w.heap.size w' v (nb 32 N)∧Below w.heap.size w w'):=zH (fun w d h1 h2=>by
  have:=Il M d 4 IN zDc zDc w h1 h2;rw[show HB M IN=N by rw[←hN,I0,hM]]at this;exact this)
 rw[hN];replace kG:=zH kG;clear hM hN;go_enter Tryz.func65,Tryz.ntmps65;go_upto_region 1 with fail
 refine bZ (fun w1 aB k2 k3 k4 kb=>?_);have h2:Sl w1 (.slice (some ⟨w.heap.size,0,none⟩) 32 32) (aJ (nb 32 e)):=Sl.ofArrN (by rw[←eB];exact k2) (aC _ _) zDc;have h3:Sl w1 (.slice (some ⟨w.heap.size+1,0,none⟩) 32 32) (aJ (nb 32 z)):=Sl.ofArrN (by rw[←eB];exact k3) (aC _ _) zDc;replace k4:Arr w1 (w.heap.size+1+1) (ag 32 0):=k4;clear aB k2 k3;go_upto_region 2 with fail
 refine aH (fun w2 aB k5 hb=>?_);replace k5:Arr w2 w1.heap.size (ag 32 0):=k5;have l4:=k4.lt;replace h2:=zH (h2.below hb);replace h3:=zH (h3.below hb);replace k4:=k4.below hb;replace kb:=az kb hb;obtain⟨g5,jJ⟩:=zX w1.heap.size;rw[jJ]at k5 l4⊢;clear aB hb jJ;have hS:Below w2.heap.size w2 w2.drew:=(zA6 _ _).drew;refine eC (fun w'=>Below w2.heap.size w2 w') 7 8 rfl zKr ?_;refine eZ ?_ 5 7 zcr [0,1,2] (fun _ _=>zRd) ?_;refine Ba (ExF w2.heap.size) 1 127 (([(3,9),(4,10),(5,11),(6,12)]:List (Nat×Nat)).map (·.1)) [(false,[]),(false,[]),(false,[(4,10)]),(false,[(3,9),(5,11)])] (WkP w2.heap.size M N) (fun _ _ _=>True) (fun _ _ _ _=>True) zKr zKr zKr (ExF.refl _)
  (fun _ _ _ h1 h2=>h1.trans h2) hS (fun _ _ h1 h2=>h1.trans h2.1) (fun _ _ _ _ h1 h2=>h1.ext h2) (fun _ _ _ _ _ _ _ _=>⟨trivial,trivial⟩) ⟨⟨_,rfl,?_⟩,⟨_,rfl,?_⟩,⟨_,rfl,?_⟩,⟨_,rfl,?_⟩,trivial⟩ ?_
 ·intro vs w3 hS hE hD K hK;clear hD;simp only[aG,Act.put,zSa,zSz,zSs]at hK⊢;go_simp;refine zQ (cE.out _ _ _ (h2.out.below hS) (h3.out.below hS) ((kG.out.below kb).below hS)) fun w4 hb=>?_;exact hK _ _ ⟨fun _=>rfl,nofun,nofun⟩ (ExF.of hb hS.size) trivial
 ·intro vs w3 hS hE hD K hK;clear hD;have aB:=hS.size;simp only[aG,Act.put,zSa,zSz,zSs]at hK⊢;go_simp;exact hK _ _ ⟨nofun,fun _=>⟨_,aB,rfl,Sl.ofArrN (Arr.new _ _ _) rfl zDc⟩,nofun⟩ (ExF.of (ae _ _) aB) trivial
 ·intro vs w3 hS hE hD K hK;obtain⟨g,hg,e4,s4⟩:=hD.1.2.1 (.inl rfl);clear hD;rw[e4]at s4;simp only[aG,Act.put,zSa,zSz,zSs]at hK⊢;rw[e4]at hK⊢;obtain⟨w4,hcv,hx⟩:=D9 w3 g 4 4 _ hg;go_simp;exact hK _ _ ⟨nofun,fun _=>⟨g,hg,rfl,hx.2 _ _ s4⟩,nofun⟩ hx trivial
 ·intro vs w3 hS hE hD K hK;have e3:=hD.1.1 rfl;obtain⟨g,hg,e5,s5⟩:=hD.2.1.2.1 (.inr rfl);clear hD;rw[e5]at s5;simp only[aG,Act.put,zSa,zSz,zSs]at hK⊢;rw[e3,e5]at hK⊢;go_simp;refine(cX.out _ _ s5 ((kG.out.below kb).below hS)).mono ?_;rintro e w4 ⟨v,rfl,ho,hb⟩;exact hK _ _ ⟨nofun,nofun,fun _=>ho.sl⟩ (ExF.of hb hS.size) trivial
 intro vs w3 hS3 hE3 hP _;have h6:=(hP 6 zac).2.2 rfl;rw[pR [(3,9),(4,10),(5,11),(6,12)] _ zKr];simp only[aG,Act.put,zSa,zSz,zSs];generalize vs 3=v3;generalize vs 4=v4;generalize vs 5=v5;generalize vs 6=v6 at h6⊢;replace k4:=k4.below hS3;replace k5:=k5.below hS3;replace kb:=az kb hS3;clear hP hE3 hS3 hS h2 h3 cE cX kG vs;refine bf 255 rfl zDk (fun K hK=>?_);refine gf rfl _ _ 24 24 rfl 5 Tryz.underlying24 zKr g5 0 32 32 rfl _ k5 zb8 _ rfl _ h6 (dr _) ?_;rw[List.take_zero,List.nil_append,zA8 (by rw[ai,aC];decide),ai,aC,List.drop_eq_nil_of_le zb8,zA31,←eB];have hg:=mW w3 g5 (ag 32 N).toArray;replace k5:=k5.setRow (ag 32 N);replace k4:=k4.kept hg zOm;replace kb:=aq kb hg zOm kb.size;generalize w3.setRow g5 (ag 32 N).toArray=w4 at*;refine hK (fun _=>True) 9999 _ _ ?_;clear hK K;try simp only[Act.put]
 try simp only[zSa,zSz,zSs]
 refine ap zKr ?_;go_wp2_with(first|refine aR ?_|refine aU ?_);exact bodyPost_ret (aj Tryz.results65 _ _ _ rfl zKr _ zaE zLn) rfl ⟨rfl,ah kb zOm _⟩
theorem ab9 (x:Int):bits .and .i64 x 3=x%4:=jx x 2 zDc 3 zDc
def nF (V:Nat):List Nat:=bF 256 16 V++[V/2^128%4]
def rM (V:Nat):List Nat:=(nF V).set 0 (V%256+5*(V/2^130))
def uh (xs:List Nat):Nat→List Nat
 |0=>xs
 |p+1=>rM (val 256 (uh xs p))
theorem IC (V:Nat):(nF V).length=17:=by simp[nF,bj]
theorem Oi (V:Nat):(rM V).length=17:=by simp[rM,IC]
theorem Df {V i:Nat} (h:i<16):(nF V)[i]? =some (V/256^i%256):=by
 rw[nF,zA12 (by rw[bj];exact h),eG _ _ _ _ h]
theorem T6 (V:Nat):val 256 (nF V)=V%2^130:=by
 rw[nF,kl,ir,bj,val,val];omega
theorem zy (V:Nat):val 256 (rM V)=bR V:=by
 have:=rC 256 (nF V) 0 _ (V%256+5*(V/2^130)) (Df zDc);rw[T6]at this;unfold rM bR;omega
theorem WY (V:Nat):Le 255 (nF V):=by
 intro m;rw[zA10];cases h:(nF V)[m]? with
 |none=>simp
 |some d=>
  have hd:=List.mem_of_getElem? h;rw[nF]at hd;rcases List.mem_append.1 hd with hd|hd
  ·have:=nD 256 16 V zDc d hd;simp;omega
  ·simp at hd;simp;omega
theorem Sk {V:Nat} (h:V<2^130*2^45):Le (2^48) (rM V):=by
 intro m;have h1:=WY V m;rw[zA10]at h1;rw[rM,zA10,List.getElem?_set];split
 ·split
  ·simp;omega
  ·simp
 ·omega
theorem Oj {V:Nat} (h:V<2^130):rM V=bF 256 17 V:=by
 have e:nF V=bF 256 17 V:=by
  rw[nF,bF,bF,show List.range 17=List.range 16++[16]from rfl,List.map_append];congr 1;simp only[List.map_cons,List.map_nil];rw[show V/2^128%4=V/256^16%256 by omega]
 rw[rM,e];apply List.ext_getElem?;intro j;rw[List.getElem?_set];split
 ·rename_i h0;subst h0;rw[if_pos (by rw[bj];decide),eG _ _ _ _ zDc];congr 1;omega
 ·rfl
theorem Sw {xs:List Nat} (h:xs.length=17):∀p,(uh xs p).length=17
 |0=>h
 |_+1=>Oi _
theorem F0 {xs:List Nat} (h:val 256 xs<2^130*2^45):∀p,val 256 (uh xs p)<2^130*2^45
 |0=>h
 |p+1=>by rw[uh,zy];exact zA9 (pT _) (F0 h p)
theorem V0 {xs:List Nat} (hl:Le (2^48) xs) (h:val 256 xs<2^130*2^45):∀p,Le (2^48) (uh xs p)
 |0=>hl
 |p+1=>Sk (F0 h p)
theorem Kj {xs:List Nat} (h:val 256 xs<2^130*2^45):uh xs 3=bF 256 17 (bR (bR (val 256 xs))):=by
 rw[uh,uh,zy,uh,zy,uh];exact Oj (qI (zA25 h zDc))
theorem W0 {ys:List Nat} (h:ys.length=17):val 256 (ys.take 16)/256^16+ys.getD 16 0=val 256 ys/2^128:=by
 have h2:=tU 256 ys 17 zOm;rw[List.drop_of_length_le zOm,val,Nat.mul_zero,Nat.add_zero,jg zOm]at h2;rw[h2,show(2:Nat)^128=256^16 by decide,zA30 _ _ zDc]
theorem xg (xs:List Nat) (hl:xs.length=17) (DL:Le (2^48) xs) (hv:val 256 xs<2^130*2^45) (w:World):
 CB 164 #[.agg (iu xs).toArray] w (.agg (iu (bF 256 17 (bR (bR (val 256 xs))))).toArray):=by
 have h3:=Kj hv;have aI:=fun p=>Sw hl p;have ZE:=fun p=>V0 DL hv p;have ZG:=fun p=>F0 hv p;have XS:(iu xs)=iu (uh xs 0):=rfl;have fR:∀p,uh xs (p+1)=rM (val 256 (uh xs p)):=fun p=>rfl;have Qw:∀p,(iu (uh xs p)).length=17:=fun p=>by rw[mz];exact aI p
 have As:∀p,p=3→uh xs p=bF 256 17 (bR (bR (val 256 xs))):=(by rintro p rfl;exact h3);obtain⟨F,hF⟩:=zX (bF 256 17 (bR (bR (val 256 xs))));rw[hF]at As⊢;generalize uh xs=ps at*;rw[XS];clear hl DL hv h3 hF XS;replace aI:=zH aI;replace ZE:=zH ZE;replace ZG:=zH ZG;replace fR:=zH fR;replace As:=zH As;replace Qw:=zH Qw;go_enter Tryz.func164,Tryz.ntmps164;go_upto_region 1 with fail
 refine be (fun W aB k1 k2 kb=>?_);have k2:Arr W (w.heap.size+1) (iu (List.replicate 17 0)):=k2;have lt1:=k1.lt;clear aB;go_wp2_with fail;go_loopw[3] (fun pv wr=>∃p:Nat,p≤3∧pv=.int .i64 p∧Arr wr w.heap.size (iu (ps p))∧Arr wr (w.heap.size+1) (iu (List.replicate 17 0))∧Below w.heap.size w wr) (fun pv _=>3-(intOf pv).toNat)
 case atStart=>exact⟨0,by omega,rfl,k1,k2,kb⟩
 case round=>
  clear k1 k2 kb;obtain⟨p,hp,rfl,k1,k2,kb⟩:=hrel
  by_cases bK:p<3
  ·have hsu:=fR.out p;have hl:=aI.out p;have DL:=ZE.out p;have hv:=ZG.out p;obtain⟨ys,GI⟩:=zX (ps p);rw[GI]at hsu hl DL hv k1;have ep:=fun k (hk:k<16)=>Ug ys (k:=k) zOm;have FM:=W0 hl;obtain⟨V,hV⟩:=zX (val 256 ys);rw[hV]at hsu hv ep FM;have dF:(nF V).length=ys.length:=(by rw[IC,hl]);have lZ:=eO (nF V) ys;clear hV GI;rw[←lZ]at k1;have z0:val 256 (ys.take 0)/256^0=0:=(by simp[val]);replace hsu:=zH hsu;replace hl:=zH hl;replace DL:=zH DL;replace ep:=zH ep;replace FM:=zH FM;replace dF:=zH dF;replace z0:=zH z0;clear lZ;have lP:V/2^130<35184372088832:=zOm;have hv3:V/2^128<140737488355328:=zOm;clear hv;replace lP:=zH lP;replace hv3:=zH hv3;go_wp2_with fail
   go_loopw[5,4] (fun iv cv wr=>∃i c:Nat,i≤16∧iv=.int .i64 i∧cv=.int .i64 c∧val 256 (ys.take i)/256^i=c∧c≤281474976710656∧Arr wr w.heap.size (iu (ea i (nF V) ys))∧Arr wr (w.heap.size+1) (iu (List.replicate 17 0))∧Below w.heap.size w wr) (fun iv _ _=>16-(intOf iv).toNat)
   case atStart=>exact⟨0,0,by omega,rfl,rfl,z0.out,by omega,k1,k2,kb⟩
   case round=>
    clear k1 k2 kb;obtain⟨i,c,hi,rfl,rfl,hc,qQ,k1,k2,kb⟩:=hrel
    by_cases hlti:i<16
    ·obtain⟨x,hx⟩:∃x,ys.getD i 0=x:=⟨_,rfl⟩;have GE:x≤281474976710656:=(by have:=DL.out i;omega);obtain⟨hd,hs⟩:=ep.out i hlti;rw[hc,hx]at hd hs;have gx:(ea i (nF V) ys)[i]? =some x:=by
      rw[eh dF.out zcG,if_neg (Nat.lt_irrefl i),dE zcG,hx]
     have gV:=Df (V:=V) hlti;rw[←hd]at gV;have aL:=fE dF.out gV;have gx:=eH gx;have bo:=k1.cell gx;have bT:=k1.frozen i;have mJ:=nC ((c:Int)+(x:Int));have iw1:IntKind.i64.wrap ((c:Int)+(x:Int))=(c:Int)+(x:Int):=i64_in zOm;have e9:((c:Int)+x)%256=(((c+x)%256:Nat):Int):=zOm;replace e9:=zH e9;replace gx:=zH gx;replace gV:=zH gV;replace aL:=zH aL;replace hd:=zH hd;replace hs:=zH hs;replace hc:=zH hc;replace hx:=zH hx;go_wp2_with fail;refine⟨⟨i+1,(c+x)/256,by omega,by go_num,by rw[show((c:Int)+x)/256=(((c+x)/256:Nat):Int) by omega],hs.out,by omega,?_,k2.other zac _,kb.setCell zac _⟩,by simp[intOf];omega⟩;have:=k1.set i (.int .i64 (((c:Int)+x)%256));rw[e9.out,iD,aL.out]at this;rw[e9.out];exact this
    ·obtain rfl:i=16:=zOm;obtain⟨x,hx⟩:=zX (ys.getD 16 0);have GE:x≤281474976710656:=(by have:=DL.out 16;omega);have FM:=FM.out;rw[hc,hx]at FM;have gx:(ea 16 (nF V) ys)[16]? =some x:=by
      rw[eh dF.out zcG,if_neg zOm,dE zcG,hx]
     have gV:(nF V)[16]? =some (V/2^128%4):=by
      rw[nF,zA2 (by rw[bj];omega),bj];rfl
     have aL:=fE dF.out gV;have dB:ea 17 (nF V) ys=nF V:=(by have:=ij dF.out;rwa[hl.out]at this);rw[dB]at aL;have g0:=Df (V:=V) (i:=0) zDc;rw[Nat.pow_zero,Nat.div_one]at g0;have gx:=eH gx;have g0:=eH g0;have bo:=k1.cell gx;have bT:=k1.frozen 16;have IV:V/2^128/4=V/2^130:=zOm;obtain⟨t,ht⟩:=zX (V/2^128);obtain⟨q,hq⟩:=zX (V/2^130);have ue:t<140737488355328:=(by have:=hv3.out;omega);have hql:q<35184372088832:=(by have:=lP.out;omega);rw[ht]at FM IV aL;rw[hq]at IV;have GH:rM V=(nF V).set 0 (V%256+5*q):=(by rw[rM,hq]);obtain⟨d,hd⟩:=zX (V%256);have Ur:d<256:=hd▸zA1 _ zDc;rw[hd]at g0 GH;have mJ:=ab9 (t:Int);have et:(c:Int)+(x:Int)=(t:Int):=zOm;have iw1:IntKind.i64.wrap (t:Int)=(t:Int):=i64_in zOm;have iw2:(t:Int)/4=(q:Int):=zOm;have iw3:IntKind.i64.wrap (5*(q:Int))=5*(q:Int):=i64_in zOm;have iw4:IntKind.i64.wrap ((d:Int)+5*(q:Int))=(d:Int)+5*(q:Int):=i64_in zOm;replace gx:=zH gx;replace g0:=zH g0
     replace gV:=zH gV;replace aL:=zH aL;replace dB:=zH dB;replace GH:=zH GH;replace hc:=zH hc;replace hx:=zH hx;replace FM:=zH FM;replace IV:=zH IV;replace ht:=zH ht;replace hq:=zH hq;replace hd:=zH hd;go_upto_region 13 with fail
     clear bo bT;have k1:Arr (wr.setCell ⟨w.heap.size,16,none⟩ (.int .i64 ((t:Int)%4))) w.heap.size (iu (nF V)):=by
      have:=k1.set 16 (.int .i64 ((t%4:Nat):Int));exact ze1
     have k2:=k2.other (a:=⟨w.heap.size,16,none⟩) zac (.int .i64 ((t:Int)%4));have kb:=kb.setCell (p:=⟨w.heap.size,16,none⟩) zac (.int .i64 ((t:Int)%4));generalize wr.setCell ⟨w.heap.size,16,none⟩ (.int .i64 ((t:Int)%4))=w3 at*;have bo:=k1.cell g0.out;have bT:=k1.frozen 0;go_wp2_with fail;refine⟨⟨p+1,by omega,by go_num,?_,k2.other zac _,kb.setCell zac _⟩,by simp[intOf];omega⟩;have:=k1.set 0 (.int .i64 ((d+5*q:Nat):Int));rw[iD,←GH.out,←hsu.out,Int.natCast_add,Int.natCast_mul]at this;exact this
  ·have hp3:p=3:=zOm;have Qw:=Qw.out p;rw[As.out p hp3]at k1 Qw;subst hp3;replace Qw:=zH Qw;go_wp2_with(first|(refine ab rfl _ _ rfl _ rfl zKr _ k1 zcH ?_)|(refine aQ rfl _ _ _ rfl _ _ rfl rfl _ k2 zcH (by rw[Qw.out];rfl) (tE _) ?_));exact bodyPost_ret (aj Tryz.results164 _ _ _ rfl zKr _ (k2.setRow _) zcH) rfl ⟨rfl,ah kb zOm _⟩
theorem Kz (xs ys:List Nat) (hx:xs.length=17) (hy:ys.length=17) (bx:Le 600 xs) (by':Le 255 ys) (w:World):
 CB 116 #[.agg (iu xs).toArray,.agg (iu ys).toArray] w (.agg (iu (bF 256 17 (bR (bR (val 256 (mw xs ys)))))).toArray):=by
 have ue:=vO xs ys;have FL:=EO bx by'
 have htv:=Ue FL;rw[ue]at htv;have c1:=fun w=>xg (mw xs ys) ue (FL.mono zDc) (zA9 htv zDc) w;have lU:=PL bx by'
 have NL:∀i,i<17→(mw xs ys)[i]? =some (cS xs ys i 17):=(by intro i hi;rw[mw,List.getElem?_map,List.getElem?_range hi];rfl);have nq:∀i j,cS xs ys i (j+1)=cS xs ys i j+xs.getD j 0*MA ys j i:=fun i j=>rfl;have Aa:∀i,cS xs ys i 0=0:=fun i=>rfl;have Q5:∀i j,j≤i→MA ys j i=ys.getD (i-j) 0:=fun i j h=>by rw[MA,if_pos h]
 have Q6:∀i j,¬j≤i→MA ys j i=320*ys.getD (i+17-j) 0:=fun i j h=>by rw[MA,if_neg h]
 have Rd:(iu (mw xs ys)).length=17:=(by rw[mz,ue]);have lZ:=eO (mw xs ys) (List.replicate 17 0);have LZ:(iu xs).length=17:=(by rw[mz,hx]);have hly:(iu ys).length=17:=(by rw[mz,hy]);obtain⟨F,hF⟩:=zX (bF 256 17 (bR (bR (val 256 (mw xs ys)))));have hFl:(iu F).length=17:=(by rw[←hF,mz,bj]);rw[hF]at c1⊢;generalize cS xs ys=C at*;generalize mw xs ys=T at*;generalize MA ys=ro at*;clear FL htv hF;replace ue:=zH ue;replace c1:=zH c1;replace lU:=zH lU;replace NL:=zH NL;replace nq:=zH nq;replace Aa:=zH Aa;replace Q5:=zH Q5;replace Q6:=zH Q6;replace Rd:=zH Rd;replace lZ:=zH lZ;replace LZ:=zH LZ;replace hly:=zH hly;replace hFl:=zH hFl;replace hx:=zH hx;replace hy:=zH hy;replace bx:=zH bx;replace by':=zH by'
 go_enter Tryz.func116,Tryz.ntmps116;go_upto_region 1 with fail
 refine bZ (fun W aB k1 k2 k4 kb=>?_);have k4:Arr W (w.heap.size+1+1) (iu (List.replicate 17 0)):=k4;have lt1:=k1.lt;have lt2:=k2.lt;have lt4:=k4.lt;clear aB;go_upto_region 2 with fail
 refine aH (fun w9 ie k5 fO=>?_);obtain⟨k1,k2,k4⟩:=dZ k1 k2 k4 fO;have kb:=az kb fO;generalize W.heap.size=g at k5 lt1 lt2 lt4⊢;have k5:Arr w9 g (iu (ea 0 T (List.replicate 17 0))):=(by rw[lZ.out];exact k5);clear ie fO;go_wp2_with fail;go_loopw[6] (fun iv wr=>∃i:Nat,i≤17∧iv=.int .i64 i∧Arr wr w.heap.size (iu xs)∧Arr wr (w.heap.size+1) (iu ys)∧Arr wr (w.heap.size+1+1) (iu (List.replicate 17 0))∧Arr wr g (iu (ea i T (List.replicate 17 0)))∧Below w.heap.size w wr) (fun iv _=>17-(intOf iv).toNat)
 case atStart=>exact⟨0,by omega,rfl,k1,k2,k4,k5,kb⟩
 case round=>
  clear k1 k2 k4 k5 kb;obtain⟨i,hi,rfl,k1,k2,k4,k5,kb⟩:=hrel
  by_cases bK:i<17
  ·have Aa:=Aa.out i;have nq:=nq.out i;have lU:=lU.out i;have NL:=NL.out i bK;have og:=fun j=>Q5.out i j;have Du:=fun j=>Q6.out i j;generalize C i=c at*;replace Aa:=zH Aa;replace nq:=zH nq;replace lU:=zH lU;replace NL:=zH NL;replace og:=zH og;replace Du:=zH Du;have iw0:(i:Int)<17:=zOm;go_wp2_with fail;go_loopw[8,7] (fun jv uv wr=>∃j:Nat,j≤i+1∧jv=.int .i64 j∧uv=.int .i64 (c j:Nat)∧Arr wr w.heap.size (iu xs)∧Arr wr (w.heap.size+1) (iu ys)∧Arr wr (w.heap.size+1+1) (iu (List.replicate 17 0))∧Arr wr g (iu (ea i T (List.replicate 17 0)))∧Below w.heap.size w wr) (fun jv _ _=>i+1-(intOf jv).toNat)
   case atStart=>exact⟨0,by omega,rfl,by rw[Aa.out];rfl,k1,k2,k4,k5,kb⟩
   case round=>
    clear k1 k2 k4 k5 kb;obtain⟨j,hj,rfl,rfl,k1,k2,k4,k5,kb⟩:=hrel
    by_cases hltj:j≤i
    ·have hs:=nq.out j;rw[og.out j hltj]at hs;have qQ:=lU.out j;obtain⟨x,Vo⟩:=zX (xs.getD j 0);obtain⟨y,Hy⟩:=zX (ys.getD (i-j) 0);rw[Vo,Hy]at hs;have GE:x≤600:=(by have:=bx.out j;omega);have tG:y≤255:=(by have:=by'.out (i-j);omega);have gx:=eH (dE (xs:=xs) (i:=j) (by rw[hx.out];omega));have gy:=eH (dE (xs:=ys) (i:=i-j) (by rw[hy.out];omega));rw[Vo]at gx;rw[Hy]at gy;obtain⟨u,hu⟩:=zX (c j);rw[hu]at hs qQ⊢;have qk:x*y≤600*255:=Nat.mul_le_mul GE tG;obtain⟨p,hp⟩:=zX (x*y);rw[hp]at qk hs;have QX:(x:Int)*(y:Int)=(p:Int):=zcI;have hub:u≤832320000:=zOm;have iw1:IntKind.i64.wrap (p:Int)=(p:Int):=i64_in zOm;have iw2:IntKind.i64.wrap ((u:Int)+(p:Int))=(u:Int)+(p:Int):=i64_in zOm;have iw3:IntKind.i64.wrap ((i:Int)-(j:Int))=(i:Int)-(j:Int):=i64_in zOm;have iw4:((i:Int)-(j:Int)).toNat=i-j:=zOm;have iw5:(0:Int)≤(i:Int)-(j:Int):=zOm
     have iw6:(i:Int)-(j:Int)<17:=zOm;have iw7:(j:Int)<17:=zOm;have iw8:(j:Int)≤(i:Int):=zOm;clear qQ qk;replace QX:=zH QX;replace hs:=zH hs;replace Vo:=zH Vo;replace Hy:=zH Hy;replace hu:=zH hu;replace hp:=zH hp;replace gx:=zH gx;replace gy:=zH gy;go_upto_region 9 with(first|refine aR ?_|refine aU ?_)
     refine cH 9999 12 fun aP=>?_;refine dz ?_ 0 4095 zaD [0,1,2,3,4,5,6,7,8,9,10,11] (fun w' hB=>by have e0:=k1.below hB;have e1:=k2.below hB;have e2:=k4.below hB;have e3:=k5.below hB;have c1:=(k1.below hB).cell gx.out;have c2:=(k2.below hB).cell gy.out;have c4:=QX.out;exact zRd) ?_;refine ap zKr ?_;obtain⟨k1,k2,k4,k5⟩:=kJ k1 k2 k4 k5 aP;have kb:=az kb aP;clear aP;clear iw1 iw2 iw3 iw4 iw5 iw6;go_wp2_with fail;exact⟨⟨j+1,by omega,by go_num,by rw[hs.out,Int.natCast_add],k1,k2,k4,k5,kb⟩,by simp[intOf];omega⟩
    ·obtain rfl:j=i+1:=zOm;have iw9:¬((i+1:Nat):Int)≤(i:Int):=zOm;have iw10:IntKind.i64.wrap ((i:Int)+1)=((i+1:Nat):Int):=zaY;go_wp2_with fail;clear iw9 iw10;go_loopw[9,7] (fun jv uv wr=>∃j:Nat,i+1≤j∧j≤17∧jv=.int .i64 j∧uv=.int .i64 (c j:Nat)∧Arr wr w.heap.size (iu xs)∧Arr wr (w.heap.size+1) (iu ys)∧Arr wr (w.heap.size+1+1) (iu (List.replicate 17 0))∧Arr wr g (iu (ea i T (List.replicate 17 0)))∧Below w.heap.size w wr) (fun jv _ _=>17-(intOf jv).toNat)
     case atStart=>exact⟨i+1,by omega,by omega,by go_num,rfl,k1,k2,k4,k5,kb⟩
     case round=>
      clear k1 k2 k4 k5 kb hj hltj;obtain⟨j,rS,hj,rfl,rfl,k1,k2,k4,k5,kb⟩:=hrel
      by_cases hltj:j<17
      ·have hs:=nq.out j;rw[Du.out j zOm]at hs;have qQ:=lU.out j;obtain⟨x,Vo⟩:=zX (xs.getD j 0);obtain⟨y,Hy⟩:=zX (ys.getD (i+17-j) 0);rw[Vo,Hy]at hs;have GE:x≤600:=(by have:=bx.out j;omega);have tG:y≤255:=(by have:=by'.out (i+17-j);omega);have gx:=eH (dE (xs:=xs) (i:=j) (by rw[hx.out];omega));have gy:=eH (dE (xs:=ys) (i:=i+17-j) (by rw[hy.out];omega));rw[Vo]at gx;rw[Hy]at gy;obtain⟨u,hu⟩:=zX (c j);rw[hu]at hs qQ⊢;have qk:x*(320*y)≤600*(320*255):=Nat.mul_le_mul GE zOm;obtain⟨p,hp⟩:=zX (x*(320*y));rw[hp]at qk hs;have QX:(320*(x:Int))*(y:Int)=(p:Int):=(by rw[←hp,Int.natCast_mul,Int.natCast_mul,←Int.mul_assoc,Int.mul_comm (x:Int)];rfl);have hub:u≤832320000:=zOm;have iw0:IntKind.i64.wrap (320*(x:Int))=320*(x:Int):=i64_in zOm;have iw1:IntKind.i64.wrap (p:Int)=(p:Int):=i64_in zOm;have iw2:IntKind.i64.wrap ((u:Int)+(p:Int))=(u:Int)+(p:Int):=i64_in zOm
       have iw3:IntKind.i64.wrap ((i:Int)+17)=(i:Int)+17:=i64_in zOm;have iw11:IntKind.i64.wrap ((i:Int)+17-(j:Int))=(i:Int)+17-(j:Int):=i64_in zOm;have iw4:((i:Int)+17-(j:Int)).toNat=i+17-j:=zOm;have iw5:(j:Int)≤(i:Int)+17:=zOm;have iw6:(i:Int)+17-(j:Int)<17:=zOm;have iw7:(j:Int)<17:=zOm;clear qQ qk;replace QX:=zH QX;replace hs:=zH hs;replace Vo:=zH Vo;replace Hy:=zH Hy;replace hu:=zH hu;replace hp:=zH hp;replace gx:=zH gx;replace gy:=zH gy;go_upto_region 13 with(first|refine aR ?_|refine aU ?_)
       refine cH 9999 14 fun bn=>?_;refine dz ?_ 0 16383 za0 [0,1,2,3,4,5,6,7,8,9,10,11,12,13] (fun w' hB=>by have e0:=k1.below hB;have e1:=k2.below hB;have e2:=k4.below hB;have e3:=k5.below hB;have c1:=(k1.below hB).cell gx.out;have c2:=(k2.below hB).cell gy.out;have c4:=QX.out;exact zRd) ?_;refine ap zKr ?_;obtain⟨k1,k2,k4,k5⟩:=kJ k1 k2 k4 k5 bn;have kb:=az kb bn;clear bn;clear iw0 iw1 iw2 iw3 iw4 iw5 iw6 iw11;go_wp2_with fail;exact⟨⟨j+1,by omega,by omega,by go_num,by rw[hs.out,Int.natCast_add],k1,k2,k4,k5,kb⟩,by simp[intOf];omega⟩
      ·obtain rfl:j=17:=zOm;have dF:T.length=(List.replicate 17 0).length:=(by rw[ue.out,List.length_replicate]);have g5:(ea i T (List.replicate 17 0))[i]? =some 0:=by
        rw[eh dF (by simpa using bK),if_neg (Nat.lt_irrefl i),List.getElem?_replicate,if_pos bK]
       have aL:=fE dF NL.out;have g5:=eH g5;have bo:=k5.cell g5;have bT:=k5.frozen i;clear dF g5;replace aL:=zH aL;go_wp2_with fail;refine⟨⟨i+1,by omega,by go_num,k1.other zab _,k2.other zab _,k4.other zab _,?_,kb.setCell zab _⟩,by simp[intOf];omega⟩;have:=k5.set i (.int .i64 (c 17:Nat));exact ze1
  ·obtain rfl:i=17:=zOm;have dB:ea 17 T (List.replicate 17 0)=T:=(by have:=ij (xs:=T) (ys:=List.replicate 17 0) (by rw[ue.out,List.length_replicate]);rwa[List.length_replicate]at this);rw[dB]at k5;clear dB;go_wp2_with(refine ab rfl _ _ rfl _ rfl zKr _ k5 (by rw[Rd.out];kernel_rfl) ?_);refine zQ (c1.out _) fun jF dc=>?_;have k4:=k4.below dc;have kb:=az kb dc;clear dc;go_wp2_with(refine aQ rfl _ _ _ rfl _ _ rfl rfl _ k4 (by rw[hFl.out];kernel_rfl) (by rw[hFl.out];rfl) (tE _) ?_);exact bodyPost_ret (aj Tryz.results116 _ _ _ rfl zKr _ (k4.setRow _) (by rw[hFl.out];kernel_rfl)) rfl ⟨rfl,ah kb zOm _⟩
end Go.Proofs.YtgfkgolafkdjfaaGreatDoor
