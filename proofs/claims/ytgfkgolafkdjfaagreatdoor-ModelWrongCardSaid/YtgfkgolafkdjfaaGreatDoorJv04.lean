/- ModelWrong: part 4 of its proof: lemmas and contracts, each with its conditions in its own statement; the last part holds the law itself. -/
import Derived.Test.YtgfkgolafkdjfaaGreatDoorJv02

set_option maxHeartbeats 4000000
set_option maxRecDepth 100000
namespace Go.Proofs.YtgfkgolafkdjfaaGreatDoor
open Go.RowKit
section
variable {P:Program} {ops:Array Oper} {Q:Exit→Act→World→Prop} {md:Region.Mode} {S:World→Prop} {B:Nat}
def jK (P:Program) (md:Region.Mode) (ops:Array Oper) (Q:Exit→Act→World→Prop) (S:World→Prop) (B:Nat):Nat→Array Bool→Act→World→Prop
 |0,listed,a,w=>Region.ready md ops listed=[]∧Q .normal a w
 |fuel+1,listed,a,w=>
  (Region.ready md ops listed=[]→Q .normal a w)∧
  ∀i∈Region.ready md ops listed,wpOp P ops Q i (fun a' w'=>if i=B then wpAny P md ops Q fuel (listed.setIfInBounds i true) a' w' else S w'∧jK P md ops Q S B fuel (listed.setIfInBounds i true) a' w') a w
theorem vQ:∀(fuel:Nat) (listed:Array Bool) (a:Act) (w:World),jK P md ops Q S B fuel listed a w→wpAny P md ops Q fuel listed a w
 |0,_,_,_,h=>h
 |fuel+1,_,_,_,h=>⟨h.1,fun i hi=>wpOp_mono (fun a' w' h'=>by
  by_cases e:i=B
  ·rw[if_pos e]at h';exact h'
  ·rw[if_neg e]at h';exact vQ fuel _ a' w' h'.2) (h.2 i hi)⟩
theorem GA {i:Nat} {oi:Oper} {v:Value} (hi:ops[i]? =some oi) (oh:∀(j:Nat) (o:Oper) cs b,ops[j]? =some o→o.op≠.select cs b)
 (hQ:∀c a w,Q (.panic c) (a.put oi.dst v) w→Q (.panic c) a w) (AO:i≠B) (hBw:∀oB,ops[B]? =some oB→∃e∈oB.after,Region.binds md e=true∧e.on=i):
 ∀(fuel:Nat) (listed:Array Bool) (a:Act) (w:World),
  (∀j oj,ops[j]? =some oj→j≠i→listed.getD j true=false→(∀e∈oj.after,Region.binds md e=true→e.on≠i)→oi.apart ops oj=true)→
  i∈Region.ready md ops listed→YieldsIf P ops S oi v a→S w→
  jK P md ops Q S B fuel (listed.setIfInBounds i true) (a.put oi.dst v) w→jK P md ops Q S B (fuel+1) listed a w:=by
 intro fuel
 induction fuel with
 |zero=>
  intro listed a w _ hr hy hS H;refine⟨fun h=>zap,fun j hj=>?_⟩
  by_cases rS:j=i
  ·exact zeb
  ·exact zfe
 |succ fuel ih=>
  intro listed a w wG hr hy hS H;refine⟨fun h=>zap,fun j hj=>?_⟩
  by_cases rS:j=i
  ·exact zeb
  ·have h1:=H.2 j (ready_mono hj rS);obtain⟨po,oj,JP,dB⟩:=mem_ready.1 hj;have JM:∀e∈oj.after,Region.binds md e=true→e.on≠i:=fun e he hb Jv=>by
    have h1:=dB e he hb;have h0:=(mem_ready.1 hr).1;rw[Jv]at h1;rcases Nat.lt_or_ge i listed.size with h'|h'
    ·simp[h']at h0 h1;rw[h0]at h1;cases h1
    ·simp[Array.getElem?_eq_none h']at h1
   have hjB:¬j=B:=fun e=>by
    subst e;obtain⟨e,he,hb,Jv⟩:=hBw oj JP;exact JM e he hb Jv
   simp only[if_neg hjB]at h1⊢;have h2:=wpOp_putIf JP (wG j oj JP rS po JM) (fun cs b=>oh i oi cs b hi) (fun cs b=>oh j oj cs b JP) hQ hy h1;have yg:∀k ok,ops[k]? =some ok→k≠i→(listed.setIfInBounds j true).getD k true=false→
    (∀e∈ok.after,Region.binds md e=true→e.on≠i)→oi.apart ops ok=true:=fun k ok hk QN xP vC=>by
    refine wG k ok hk QN ?_ vC
    by_cases AP:j=k
    ·subst AP;exact po
    ·exact zfG
   exact zd6
theorem tr {i:Nat} {oi:Oper} {v:Value} (hi:ops[i]? =some oi) (oh:∀(j:Nat) (o:Oper) cs b,ops[j]? =some o→o.op≠.select cs b)
 (hQ:∀c a w,Q (.panic c) (a.put oi.dst v) w→Q (.panic c) a w) (AO:i≠B):
 ∀(fuel:Nat) (listed:Array Bool) (a:Act) (w:World),
  (∀j oj,ops[j]? =some oj→j≠i→listed.getD j true=false→(∀e∈oj.after,Region.binds md e=true→e.on≠i)→oi.apart ops oj=true)→
  i∈Region.ready md ops listed→Yields P ops oi v a→S w→
  jK P md ops Q S B fuel (listed.setIfInBounds i true) (a.put oi.dst v) w→jK P md ops Q S B (fuel+1) listed a w:=by
 intro fuel
 induction fuel with
 |zero=>
  intro listed a w _ hr hy hS H;refine⟨fun h=>zap,fun j hj=>?_⟩
  by_cases rS:j=i
  ·exact zfx
  ·exact zfe
 |succ fuel ih=>
  intro listed a w wG hr hy hS H;refine⟨fun h=>zap,fun j hj=>?_⟩
  by_cases rS:j=i
  ·exact zfx
  ·have h1:=H.2 j (ready_mono hj rS);obtain⟨po,oj,JP,dB⟩:=mem_ready.1 hj;have JM:∀e∈oj.after,Region.binds md e=true→e.on≠i:=fun e he hb Jv=>by
    have h1:=dB e he hb;have h0:=(mem_ready.1 hr).1;rw[Jv]at h1;rcases Nat.lt_or_ge i listed.size with h'|h'
    ·simp[h']at h0 h1;rw[h0]at h1;cases h1
    ·simp[Array.getElem?_eq_none h']at h1
   have yg:∀k ok,ops[k]? =some ok→k≠i→(listed.setIfInBounds j true).getD k true=false→
    (∀e∈ok.after,Region.binds md e=true→e.on≠i)→oi.apart ops ok=true:=fun k ok hk QN xP vC=>by
    refine wG k ok hk QN ?_ vC
    by_cases AP:j=k
    ·subst AP;exact po
    ·exact zfG
   by_cases hjB:j=B
   ·simp only[if_pos hjB]at h1⊢;have h2:=wpOp_put JP (wG j oj JP rS po JM) (fun cs b=>oh i oi cs b hi) (fun cs b=>oh j oj cs b JP) hQ hy h1;refine wpOp_mono (fun a' w' h3=>wpAny_first hi oh hQ fuel (listed.setIfInBounds j true) a' w' yg (ready_mono hr (Ne.symm rS)) h3.1 ?_) h2;rw[Array.setIfInBounds_comm _ _ rS];exact h3.2
   ·simp only[if_neg hjB]at h1⊢;have h2:=wpOp_put JP (wG j oj JP rS po JM) (fun cs b=>oh i oi cs b hi) (fun cs b=>oh j oj cs b JP) hQ hy h1;exact zd6
theorem uH {S':World→Prop} (hSS:∀w,S' w→S w):∀(fuel:Nat) (listed:Array Bool) (a:Act) (w:World),jK P md ops Q S' B fuel listed a w→jK P md ops Q S B fuel listed a w
 |0,_,_,_,h=>h
 |fuel+1,_,_,_,h=>⟨h.1,fun i hi=>wpOp_mono (fun a' w' h'=>by
  by_cases e:i=B
  ·rw[if_pos e]at h'⊢;exact h'
  ·rw[if_neg e]at h'⊢;exact⟨hSS w' h'.1,uH hSS fuel _ a' w' h'.2⟩) (h.2 i hi)⟩
end
section
variable {P:Program} {Q:Exit→Act→World→Prop}
def Tx (P:Program) (l:List Oper) (Q:Exit→Act→World→Prop) (S:World→Prop) (B f d:Nat) (a:Act) (w:World):Prop:=
 jK P .any l.toArray (NoP Q) S B f (jr l.length d) a w
theorem eC {l:List Oper} {id:Nat} {a:Act} {w:World} (S:World→Prop) (B n:Nat) (hn:l.length=n) (hm:P.follows .mixedOrders=true) (h:Tx P l Q S B n 0 a w.drew):(Code.region id l.toArray true).wp P Q a w:=by
 refine Code.wp_mono NoP.imp (wp_region_any hm ?_);subst hn;have e:l.toArray.size=l.length:=zac;rw[e,Er];exact vQ _ _ _ _ h
def PC (l:List Oper) (B i:Nat):Bool:=i != B&&(match l[B]? with|some o=>o.after.any (fun e=>Region.binds .any e&&e.on==i)|none=>true)
theorem gF {l:List Oper} {S:World→Prop} {B:Nat} {w:World} {A:Act} (f' d':Nat) (hs:Region.noSelect l.toArray=true) (hS:S w):
 ∀(is:List Nat) {f d:Nat} {a:Act},(lJ l a.tmps.size f' f d is d'&&is.all (PC l B))=true→(∀w',S w'→rd P l w' is a A)→Tx P l Q S B f' d' A w→Tx P l Q S B f d a w
 | [],f,d,a,ee,h,H=>by
  exact zeO
 |i::is,0,d,a,ee,h,H=>by simp[lJ]at ee
 |i::is,f+1,d,a,ee,h,H=>by
  simp only[lJ,Bool.and_eq_true,List.all_cons]at ee;obtain⟨⟨⟨⟨Ca,hf⟩,hr⟩,hd⟩,mK,hb2⟩:=ee;cases hi:l[i]? with
  |none=>rw[hi]at hd;cases hd
  |some o=>
   rw[hi]at hd;cases jR:o.dst with
   |none=>simp[jR]at hd
   |some e=>
    simp only[jR]at hd;simp only[Bool.and_eq_true,decide_eq_true_eq,Bool.not_eq_true']at hd;obtain⟨v,hy,Pk⟩:=AW (P:=P) hi jR hd.1 hd.2 hS h;have ih:=gF f' d' hs hS is (f:=f) (d:=d |||2^i) (a:=a.put o.dst v) (by rw[ox,Ca,hb2];rfl) Pk H;unfold Tx;simp only[PC,Bool.and_eq_true,bne_iff_ne,ne_eq]at mK;refine GA (oi:=o) (v:=v) zag (Region.noSelect_spec hs) (fun c a w hq=>hq) mK.1 (fun oB hoB=>?_) f _ a w (Region.free_spec zag hf) (by simpa using hr) hy hS ?_
    ·have h2:=mK.2;rw[show l[B]? =some oB by simpa using hoB]at h2;obtain⟨k,hk,sH⟩:=Array.any_eq_true.1 h2;simp only[Bool.and_eq_true,beq_iff_eq]at sH;exact⟨_,Array.getElem_mem hk,sH.1,sH.2⟩
    ·rw[jt];exact ih
theorem vU {l:List Oper} {S:World→Prop} {B:Nat} {w:World} {A:Act} (f' d':Nat) (hs:Region.noSelect l.toArray=true) (hS:S w):
 ∀(is:List Nat) {f d:Nat} {a:Act},(lJ l a.tmps.size f' f d is d'&& !is.contains B)=true→(∀w',rd P l w' is a A)→Tx P l Q S B f' d' A w→Tx P l Q S B f d a w
 | [],f,d,a,ee,h,H=>by
  simp only[lJ,Bool.and_eq_true,beq_iff_eq]at ee;obtain⟨⟨rfl,rfl⟩,-⟩:=ee;rw[show a=A from h w];exact H
 |i::is,0,d,a,ee,h,H=>by simp[lJ]at ee
 |i::is,f+1,d,a,ee,h,H=>by
  simp only[lJ,Bool.and_eq_true,List.contains_cons,Bool.not_or,Bool.not_eq_true',beq_eq_false_iff_ne]at ee;obtain⟨⟨⟨⟨Ca,hf⟩,hr⟩,hd⟩,mK,hb2⟩:=ee;cases hi:l[i]? with
  |none=>rw[hi]at hd;cases hd
  |some o=>
   rw[hi]at hd;cases jR:o.dst with
   |none=>simp[jR]at hd
   |some e=>
    simp only[jR]at hd;simp only[Bool.and_eq_true,decide_eq_true_eq,Bool.not_eq_true']at hd;obtain⟨v,hy,Pk⟩:=AW (P:=P) (S:=fun _=>True) (w:=w) hi jR hd.1 hd.2 trivial (fun w' _=>h w');have ih:=vU f' d' hs hS is (f:=f) (d:=d |||2^i) (a:=a.put o.dst v) (by rw[ox,Ca,hb2];rfl) (fun w'=>Pk w' trivial) H;have Vp:Yields P l.toArray o v a:=hy.imp (fun⟨h1,h2⟩=>⟨h1,fun w'=>h2 w' trivial⟩) id;unfold Tx;refine tr (oi:=o) (v:=v) zag (Region.noSelect_spec hs) (fun c a w hq=>hq) (fun e=>mK e.symm) f _ a w (Region.free_spec zag hf) (by simpa using hr) Vp hS ?_;rw[jt];exact ih
theorem aY {l:List Oper} {S:World→Prop} {B:Nat} {w:World} {f d:Nat} {a:Act} {o:Oper} (i d':Nat) (ho:l[i]? =some o) (hr:(Region.ready .any l.toArray (jr l.length d)== [i]&&(d |||2^i)==d'&&i != B)=true)
 (h:∀K:Act→World→Prop,(∀(S':World→Prop) a' w',S w'→(∀w'',S' w''→S w'')→Tx P l Q S' B f d' a' w'→K a' w')→if Region.wanted o (yielded l.toArray a.tmps)=true then Oper.wp P o a w K (NoP Q)else K (a.put o.dst undef) w):Tx P l Q S B (f+1) d a w:=by
 simp only[Bool.and_eq_true,beq_iff_eq,bne_iff_ne,ne_eq]at hr;obtain⟨⟨hr,rfl⟩,AO⟩:=hr;unfold Tx;refine⟨fun h0=>(by rw[hr]at h0;cases h0),?_⟩;rw[hr];intro j hj;simp only[List.mem_singleton]at hj;subst hj;refine wpOp_step (o:=o) zai fun K hK=>?_;refine h K fun S' a' w' h1 h2 h3=>hK _ _ ?_;rw[if_neg AO];refine⟨h1,?_⟩;rw[jt];exact uH h2 _ _ _ _ h3
theorem bf {l:List Oper} {S:World→Prop} {B:Nat} {w:World} {f d:Nat} {a:Act} {o:Oper} (d':Nat) (ho:l[B]? =some o) (hr:(Region.ready .any l.toArray (jr l.length d)== [B]&&(d |||2^B)==d')=true)
 (h:∀K:Act→World→Prop,(∀(S':World→Prop) (B':Nat) a' w',Tx P l Q S' B' f d' a' w'→K a' w')→if Region.wanted o (yielded l.toArray a.tmps)=true then Oper.wp P o a w K (NoP Q)else K (a.put o.dst undef) w):Tx P l Q S B (f+1) d a w:=by
 simp only[Bool.and_eq_true,beq_iff_eq]at hr;obtain⟨hr,rfl⟩:=hr;unfold Tx;refine⟨fun h0=>(by rw[hr]at h0;cases h0),?_⟩;rw[hr];intro j hj;simp only[List.mem_singleton]at hj;subst hj;refine wpOp_step (o:=o) zai fun K hK=>?_;refine h K fun S' B' a' w' h3=>hK _ _ ?_;rw[if_pos rfl,jt];exact vQ _ _ _ _ h3
theorem IL {md:Region.Mode} {ops:Array Oper} {S:World→Prop} {B:Nat} {listed:Array Bool} {a:Act} {w:World} (hr:Region.ready md ops listed=[]) (h:Q .normal a w):
 ∀fuel,jK P md ops Q S B fuel listed a w
 |0=>⟨hr,h⟩
 |_+1=>⟨fun _=>h,by rw[hr];simp⟩
theorem ap {l:List Oper} {S:World→Prop} {B:Nat} {w:World} {f d:Nat} {a:Act} (hk:Region.ready .any l.toArray (jr l.length d)=[]) (h:Q .normal a w):Tx P l Q S B f d a w:=
 IL (Q:=NoP Q) hk h _
def Aq (P:Program) (ty:TypeId):Bool:=match P.underlying ty with|some (.struct _)=>true|some (.array _ _)=>true|_=>false
def afk (d:TypeDesc):Bool:=match d with| .struct _| .array _ _=>true|_=>false
theorem pM {ty:TypeId} (h:Aq P ty=true):∃d,P.underlying ty=some d∧afk d=true:=by
 unfold Aq at h;cases hu:P.underlying ty with
 |none=>rw[hu]at h;cases h
 |some d=>rw[hu]at h;exact⟨d,rfl,by cases d<;>first|rfl|cases h⟩
theorem bN {l:List Oper} {w:World} {i:Nat} {is:List Nat} {a A:Act} {o:Oper} (hi:l[i]? =some o) (hw:Region.wanted o (yielded l.toArray a.tmps)=true) (ty:TypeId) (x:Operand) (ho:o.op=.load ty x)
 (g:Nat) (hx:a.eval x=.pointer (some ⟨g,0,none⟩)) (ha:Aq P ty=true) (xs:List Value) (hg:Arr w g xs) (hz:(P.info? ty).map (·.size)=some xs.length)
 (h:rd P l w is (a.put o.dst (.agg xs.toArray)) A):rd P l w (i::is) a A:=by
 obtain⟨d,hu,hd⟩:=pM ha;obtain⟨T,hg⟩:=hg;refine cj hi hw ?_ h;unfold execOp;simp only[ho,hx,Instr.loadAt,Instr.sureAddr,Sem.run_bind,Sem.run_pure,Result.andThen_ok,run_loadVar_row w g T ty _ (0,0) d hg hu zaq (by simpa using hz)]
theorem ab {ops:Array Oper} {rest:List Oper} {o:Oper} {a:Act} {w:World} (hw:Region.wanted o (yielded ops a.tmps)=true) (ty:TypeId) (x:Operand) (ho:o.op=.load ty x)
 (g:Nat) (hx:a.eval x=.pointer (some ⟨g,0,none⟩)) (ha:Aq P ty=true) (xs:List Value) (hg:Arr w g xs) (hi:(P.info? ty).map (·.size)=some xs.length)
 (h:wpList P ops Q rest (a.put o.dst (.agg xs.toArray)) w):wpList P ops Q (o::rest) a w:=by
 obtain⟨d,hu,hd⟩:=pM ha;obtain⟨T,hg⟩:=hg;refine wpList_step fun K hK=>?_;rw[if_pos hw];exact wp_load_row ty x ho g hx T _ (0,0) d hg hu zaq zag (hK _ _ h)
theorem aR {ops:Array Oper} {rest:List Oper} {o:Oper} {a:Act} {w:World} {ty:TypeId} {x:Operand} {g:Nat} {xs:List Value} (h:wpList P ops Q rest (a.put o.dst (.agg xs.toArray)) w)
 (hw:Region.wanted o (yielded ops a.tmps)=true:=by exact rfl) (ho:o.op=.load ty x:=by exact rfl) (hx:a.eval x=.pointer (some ⟨g,0,none⟩):=by exact rfl) (ha:Aq P ty=true:=by decide+kernel) (hg:Arr w g xs:=by assumption) (hi:(P.info? ty).map (·.size)=some xs.length:=by exact zLn):
 wpList P ops Q (o::rest) a w:=ab hw ty x ho g hx ha xs hg hi h
theorem bJ {l:List Oper} {o:Oper} {a:Act} {w:World} {K:Act→World→Prop} {E:Prop} (qi:o.guard=none) (ty:TypeId) (x y:Operand) (ho:o.op=.store ty x y)
 (g:Nat) (ys:List Value) (hx:a.eval x=.pointer (some ⟨g,0,none⟩)) (hy:a.eval y=.agg ys.toArray) (xs:List Value) (hg:Arr w g xs) (hi:(P.info? ty).map (·.size)=some ys.length)
 (FJ:xs.length=ys.length) (h1:∀v∈ys,v.oneCell'=true) (h:K (a.put o.dst undef) (w.setRow g ys.toArray)):
 if Region.wanted o (yielded l.toArray a.tmps)=true then Oper.wp P o a w K Q else E:=by
 rw[if_pos zad];obtain⟨T,hg⟩:=hg;exact wp_store_row ty x y ho g _ hx hy T _ hg zag (by simpa using FJ) zah h
theorem aU {ops:Array Oper} {rest:List Oper} {o:Oper} {a:Act} {w:World} {ty:TypeId} {x y:Operand} {g:Nat} {ys xs:List Value} (h:wpList P ops Q rest (a.put o.dst undef) (w.setRow g ys.toArray))
 (hg:o.guard=none:=by exact rfl) (ho:o.op=.store ty x y:=by exact rfl) (hx:a.eval x=.pointer (some ⟨g,0,none⟩):=by exact rfl) (hy:a.eval y=.agg ys.toArray:=by exact rfl) (hr:Arr w g xs:=by first|assumption|exact Arr.new _ _ _)
 (hi:(P.info? ty).map (·.size)=some ys.length:=by exact zLn) (hl:xs.length=ys.length:=by exact zLm) (h1:∀v∈ys,v.oneCell'=true:=by exact zOn):wpList P ops Q (o::rest) a w:=aQ hg ty x y ho g ys hx hy xs hr hi hl h1 h
theorem aj {fn:Func} {p:Tmp} {ty:TypeId} (h:fn.results=#[.cell p ty]) (tmps:Array Value) (w:World) (g:Nat)
 (hp:tmps.getD p undef=.pointer (some ⟨g,0,none⟩)) (ha:Aq P ty=true) (xs:List Value) (hg:Arr w g xs) (hi:(P.info? ty).map (·.size)=some xs.length):
 (results fn tmps).run P w=.ok (.agg xs.toArray) w:=by
 obtain⟨d,hu,hd⟩:=pM ha;exact kF h tmps w g d hp hu zaq xs hg hi
def gd (l:List Oper) (i:Nat):Option Tmp:=(l[i]?).bind (·.dst)
def iy (l:List Oper) (m:Nat) (vs:Nat→Value):List Nat→Act→Act
 | [],a=>a
 |i::is,a=>iy l m vs is (if m.testBit i then a.put (gd l i) (vs i)else a)
def aG (vs:Nat→Value):List (Nat×Nat)→Act→Act
 | [],a=>a
 |(i,t)::is,a=>aG vs is (a.put (some t) (vs i))
def upd (vs:Nat→Value) (i:Nat) (v:Value):Nat→Value:=fun j=>if j=i then v else vs j
theorem EC {a:Act} {d:Option Tmp} {v:Value} {t:Nat} (h:d≠some t):(a.put d v).tmps[t]? =a.tmps[t]? :=by
 cases d with
 |none=>rfl
 |some e=>exact Ak (fun he=>h (by rw[he]))
theorem nI {l:List Oper} {m:Nat} {vs:Nat→Value} {t:Nat}:∀(is:List Nat) (a:Act),(∀i∈is,m.testBit i=true→gd l i≠some t)→(iy l m vs is a).tmps[t]? =a.tmps[t]?
 | [],_,_=>rfl
 |i::is,a,h=>by
  rw[iy,nI is _ (fun j hj=>h j (List.mem_cons_of_mem _ hj))];split
  ·rename_i hb;exact EC (h i zac hb)
  ·rfl
def I1 (l:List Oper) (is:List Nat):Prop:=is.Pairwise fun i j=>i≠j∧∀t,gd l i=some t→gd l j≠some t
theorem pS {l:List Oper} {m:Nat} {vs:Nat→Value} {t i:Nat}:∀(is:List Nat) (a:Act),I1 l is→i∈is→m.testBit i=true→gd l i=some t→t<a.tmps.size→(iy l m vs is a).tmps[t]? =some (vs i)
 | [],_,_,h,_,_,_=>by cases h
 |j::is,a,hd,h,hb,ht,bK=>by
  unfold I1 at hd;rw[List.pairwise_cons]at hd;rw[iy];rcases List.mem_cons.1 h with rfl|h
  ·rw[if_pos hb,nI is _ (fun k hk _=>(hd.1 k hk).2 t ht),ht,mQ bK]
  ·refine pS is _ hd.2 h hb ht ?_;split
   ·rw[ox];exact bK
   ·exact bK
theorem Ec {l:List Oper} {m:Nat} {vs:Nat→Value} {d:Option Tmp} {v:Value}:∀(is:List Nat) (a:Act),(∀j∈is,∀t,d=some t→gd l j≠some t)→(iy l m vs is a).put d v=iy l m vs is (a.put d v)
 | [],_,_=>rfl
 |j::is,a,h=>by
  rw[iy,iy,Ec is _ (fun k hk=>h k (List.mem_cons_of_mem _ hk))];congr 1;split
  ·exact(Act.put_comm a v (vs j) (h j zac)).symm
  ·rfl
theorem Bv {l:List Oper} {m m':Nat} {vs vs':Nat→Value}:∀(is:List Nat) (a:Act),(∀j∈is,m.testBit j=m'.testBit j∧vs j=vs' j)→iy l m vs is a=iy l m' vs' is a
 | [],_,_=>rfl
 |j::is,a,h=>by
  rw[iy,iy,Bv is _ (fun k hk=>h k (List.mem_cons_of_mem _ hk)),(h j zac).1,(h j zac).2]
theorem aM (m i k:Nat):(m |||2^i).testBit k=(m.testBit k ||decide (i=k)):=by
 rw[Nat.testBit_or,Nat.testBit_two_pow]
theorem sk {l:List Oper} {m i:Nat} {vs:Nat→Value} {v:Value}:∀(is:List Nat) (a:Act),I1 l is→i∈is→m.testBit i=false→(iy l m vs is a).put (gd l i) v=iy l (m |||2^i) (upd vs i v) is a
 | [],_,_,h,_=>by cases h
 |j::is,a,hd,h,hb=>by
  unfold I1 at hd;rw[List.pairwise_cons]at hd
  by_cases e:i=j
  ·subst e;rw[iy,iy,hb,aM,hb];simp only[Bool.false_eq_true,if_false,decide_true,Bool.or_true,if_true,upd];rw[Ec is _ (fun k hk t ht=>(hd.1 k hk).2 t ht)];refine Bv is _ (fun k hk=>⟨?_,?_⟩)
   ·rw[aM,decide_eq_false (hd.1 k hk).1,Bool.or_false]
   ·show vs k=(if k=i then v else vs k)
    rw[if_neg (fun e=>(hd.1 k hk).1 e.symm)]
  ·have hi:i∈is:=by
    rcases List.mem_cons.1 h with h|h
    ·exact absurd h e
    ·exact h
   rw[iy,iy,aM,decide_eq_false e,Bool.or_false,sk is _ hd.2 hi hb];have e2:upd vs i v j=vs j:=(by unfold upd;rw[if_neg (Ne.symm e)]);rw[e2]
def df (l:List Oper) (k j:Nat):Bool:=match l[k]? with|some o=>o.after.any (fun e=>Region.binds .any e&&e.on==j)|none=>false
def lL (l:List Oper):Nat→List Nat→Bool
 |_,[]=>true
 |d,i::is=>(match l[i]? with|some o=>o.after.all (fun e=>!Region.binds .any e ||(d.testBit e.on&&decide (e.on<l.length)))|none=>false)&& !d.testBit i&&lL l (d |||2^i) is
def xW (l:List Oper) (is:List Nat) (i:Nat) (deps:List (Nat×Nat)):Bool:=
 deps.all (fun p=>is.contains p.1&&gd l p.1==some p.2&&df l i p.1)&&
 is.all (fun j=>match l[i]?,gd l j with|some o,some t=>!(o.looksAt l.toArray).contains t ||deps.contains (j,t)|_,_=>true)
def G4 (l:List Oper):List Nat→Bool
 | []=>true
 |i::is=>is.all (fun j=>i != j&&(match gd l i with|some t=>gd l j != some t|none=>true))&&G4 l is
theorem Fn {l:List Oper}:∀(is:List Nat),G4 l is=true→I1 l is
 | [],_=>List.Pairwise.nil
 |i::is,h=>by
  simp only[G4,Bool.and_eq_true]at h;refine List.Pairwise.cons (fun j hj=>?_) (Fn is h.2);have h1:=zA19.1 h.1 j hj;simp only[Bool.and_eq_true,bne_iff_ne,ne_eq]at h1;refine⟨h1.1,fun t ht=>?_⟩;rw[ht]at h1;simpa using h1.2
def qB:List (Nat×Nat)→Bool
 | []=>true
 |p::ps=>ps.all (fun q=>p.2 != q.2)&&qB ps
theorem lN:∀(ps:List (Nat×Nat)),qB ps=true→ps.Pairwise fun x y=>x.2≠y.2
 | [],_=>List.Pairwise.nil
 |p::ps,h=>by
  simp only[qB,Bool.and_eq_true]at h;refine List.Pairwise.cons (fun q hq=>?_) (lN ps h.2);simpa using zA19.1 h.1 q hq
def Ef (l:List Oper) (d i:Nat):Bool:=
 match l[i]? with
 |none=>false
 |some oi=>(List.range l.length).all fun j=>j==i ||d.testBit j ||df l j i ||df l i j ||(match l[j]? with|some oj=>Oper.apart l.toArray oi oj|none=>true)
def Kh (l:List Oper) (size f d:Nat) (is:List Nat) (deps:List (Bool×List (Nat×Nat))) (f' d':Nat):Bool:=
 f==f'+is.length&&is.foldl (fun m i=>m |||2^i) d==d'&&lL l d is&&
 G4 l is&&
 is.all (fun i=>match gd l i with|some t=>decide (t<size)|none=>true)&&
 deps.length==is.length&&(is.zip deps).all (fun p=>xW l is p.1 p.2.2&&qB p.2.2&&(!p.2.1 ||Ef l d p.1))&&
 (List.range l.length).all (fun k=>d.testBit k ||is.contains k ||(is.zip deps).all (fun p=>p.2.1 ||df l k p.1 ||is.any (fun q=>df l k q&&df l q p.1)) ||(List.range l.length).any (fun k'=>!d.testBit k'&& !is.contains k'&&df l k k'))
def rZ (Φ:Nat→Value→World→Prop) (vs:Nat→Value) (w:World):List (Nat×Nat)→Prop
 | []=>True
 |p::ps=>Φ p.1 (vs p.1) w∧rZ Φ vs w ps
theorem pO {Φ:Nat→Value→World→Prop} {vs:Nat→Value} {w:World}:∀(ps:List (Nat×Nat)),(∀p∈ps,Φ p.1 (vs p.1) w)→rZ Φ vs w ps
 | [],_=>trivial
 |p::ps,h=>⟨h p zac,pO ps (fun q hq=>h q (List.mem_cons_of_mem _ hq))⟩
def Ob (P:Program) (l:List Oper) (Q:Exit→Act→World→Prop) (S:World→Prop) (Ext:World→World→Prop) (Φ N:Nat→Value→World→Prop) (a:Act) (W:World) (i:Nat) (deps:List (Nat×Nat)):Prop:=
 ∃o,l[i]? =some o∧∀(vs:Nat→Value) (w:World),S w→Ext W w→rZ Φ vs w deps→∀K:Act→World→Prop,
  (∀v w',Φ i v w'→Ext w w'→N i v w→K ((aG vs deps a).put o.dst v) w')→
  if Region.wanted o (yielded l.toArray (aG vs deps a).tmps)=true then Oper.wp P o (aG vs deps a) w K (NoP Q)else K ((aG vs deps a).put o.dst undef) w
def ObE (P:Program) (l:List Oper) (S:World→Prop) (Ext:World→World→Prop) (Φ N:Nat→Value→World→Prop) (a:Act) (W:World) (i:Nat) (deps:List (Nat×Nat)):Prop:=
 ∃o,l[i]? =some o∧∀(vs:Nat→Value) (w:World),S w→Ext W w→rZ Φ vs w deps→
  ∃v,Region.wanted o (yielded l.toArray (aG vs deps a).tmps)=true∧(∀w',(execOp (aG vs deps a).eval o).run P w'=.ok (.value v) w')∧Φ i v w∧N i v w
def A9 (P:Program) (l:List Oper) (Q:Exit→Act→World→Prop) (S:World→Prop) (Ext:World→World→Prop) (Φ N:Nat→Value→World→Prop) (a:Act) (W:World):List Nat→List (Bool×List (Nat×Nat))→Prop
 |i::is,(false,ds)::dss=>Ob P l Q S Ext Φ N a W i ds∧A9 P l Q S Ext Φ N a W is dss
 |i::is,(true,ds)::dss=>ObE P l S Ext Φ N a W i ds∧A9 P l Q S Ext Φ N a W is dss
 | [],_=>True
 |_::_,[]=>False
theorem kn {l:List Oper} {S:World→Prop} {Ext:World→World→Prop} {Φ N:Nat→Value→World→Prop} {a:Act} {W:World}:
 ∀(is:List Nat) (dss:List (Bool×List (Nat×Nat))),A9 P l Q S Ext Φ N a W is dss→∀i∈is,∃b ds,(i,(b,ds))∈is.zip dss∧if b=true then ObE P l S Ext Φ N a W i ds else Ob P l Q S Ext Φ N a W i ds
 | [],_,_,i,hi=>by cases hi
 |j::is,[],h,_,_=>h.elim
 |j::is,(false,ds)::dss,h,i,hi=>by
  rcases List.mem_cons.1 hi with rfl|hi
  ·exact⟨false,ds,by simp,by simpa using h.1⟩
  ·exact zfr
 |j::is,(true,ds)::dss,h,i,hi=>by
  rcases List.mem_cons.1 hi with rfl|hi
  ·exact⟨true,ds,by simp,by simpa using h.1⟩
  ·exact zfr
theorem uN {vs:Nat→Value}:∀(ds:List (Nat×Nat)) (a:Act),(aG vs ds a).tmps.size=a.tmps.size
 | [],_=>rfl
 |(i,t)::ds,a=>by rw[aG,uN ds,ox]
theorem mf {vs:Nat→Value} {t:Nat}:∀(ds:List (Nat×Nat)) (a:Act),(∀p∈ds,p.2≠t)→(aG vs ds a).tmps[t]? =a.tmps[t]?
 | [],_,_=>rfl
 |(i,e)::ds,a,h=>by
  rw[aG,mf ds _ (fun p hp=>h p (List.mem_cons_of_mem _ hp))];exact EC (fun he=>h (i,e) zac (Option.some.inj he))
theorem nQ {vs:Nat→Value} {i t:Nat}:∀(ds:List (Nat×Nat)) (a:Act),(ds.Pairwise fun x y=>x.2≠y.2)→(i,t)∈ds→t<a.tmps.size→(aG vs ds a).tmps[t]? =some (vs i)
 | [],_,_,h,_=>by cases h
 |(j,e)::ds,a,hd,h,bK=>by
  rw[List.pairwise_cons]at hd;rw[aG];rcases List.mem_cons.1 h with h|h
  ·cases h;rw[mf ds _ (fun p hp he=>hd.1 p hp he.symm),mQ bK]
  ·exact nQ ds _ hd.2 h (by rw[ox];exact bK)
theorem Nc {a b:Act} {x:Operand} (h:∀t,x=.tmp t→a.tmps[t]? =b.tmps[t]?):a.eval x=b.eval x:=by
 cases x with
 |tmp t=>
  have:=h t rfl;simp only[Act.eval,Array.getD_eq_getD_getElem?,this]
 |_=>rfl
theorem pn {ops:Array Oper} {o:Oper} {a b:Act} (h:∀t∈o.looksAt ops,a.tmps[t]? =b.tmps[t]?):Region.wanted o (yielded ops a.tmps)=Region.wanted o (yielded ops b.tmps):=by
 unfold Region.wanted;cases hg:o.guard with
 |none=>rfl
 |some gw=>
  obtain⟨g,want⟩:=gw;have hy:yielded ops a.tmps g=yielded ops b.tmps g:=by
   unfold yielded;cases ht:(ops[g]?).bind (·.dst)with
   |none=>rfl
   |some t=>
    have:=h t (by simp[Oper.looksAt,hg,ht]);simp only[Option.bind_some,this]
  simp only[hy]
theorem tF {ops:Array Oper} {o:Oper} {a b:Act} (hs:∀cs c,o.op≠.select cs c) (h:∀t∈o.looksAt ops,a.tmps[t]? =b.tmps[t]?):execOp a.eval o=execOp b.eval o:=
 execOp_congr o hs fun x hx=>Nc fun t ht=>h t (by
  subst ht;exact List.mem_append_left _ (List.mem_filterMap.2 ⟨.tmp t,by simpa using hx,rfl⟩))
theorem Ga {a:Act} {d:Option Tmp} {v u:Value} (hd:∀t,d=some t→t<a.tmps.size) (h:a.put d v=a.put d u):d=none∨v=u:=by
 cases d with
 |none=>exact .inl rfl
 |some t=>
  refine .inr ?_;have h1:=mQ (a:=a) (v:=v) (hd t rfl);rw[h,mQ (hd t rfl)]at h1;exact(Option.some.inj h1).symm
theorem MP {o:Oper} {a b:Act} {w:World} {R:Value→World→Prop} {K:Act→World→Prop} (hd:∀t,o.dst=some t→t<a.tmps.size) (he:execOp b.eval o=execOp a.eval o)
 (h:Oper.wp P o a w (fun c w'=>∃v,c=a.put o.dst v∧R v w') (NoP Q)) (hK:∀v w',R v w'→K (b.put o.dst v) w'):Oper.wp P o b w K (NoP Q):=by
 have key:∀v w',(∃u,a.put o.dst v=a.put o.dst u∧R u w')→K (b.put o.dst v) w':=by
  rintro v w' ⟨u,h1,h2⟩;have h3:=hK u w' h2;rcases Ga hd h1 with h4|h4
  ·rw[h4]at h3⊢;exact h3
  ·rw[h4];exact h3
 unfold Oper.wp at*;rw[he];generalize (execOp a.eval o).run P w=r at*;cases r with
 |ok n w'=>
  cases n<;>simp only[Oper.upon]at h⊢
  case value v=>exact key v w' h
  case skip=>exact key _ w' h
  case defer d=>
   obtain⟨u,h1,-⟩:=h;cases jR:o.dst<;>rw[jR]at h1<;>(have h2:=congrArg (fun x=>x.defers.length) h1;simp[Act.put]at h2)
  case enter f args=>
   refine Calls.mono h fun e w'' hq=>?_;cases e with
   |returned v=>exact key v w'' hq
   |panicked c=>exact hq
   |outgrown=>exact hq
  case row row args=>exact Rows.mono h fun v w'' hq=>key v w'' hq
 |halt x w'=>
  cases x<;>simp only[Oper.upon]at h⊢
  case panic v=>exact h
theorem eM {n m i:Nat} {b:Bool} (hi:i<n):(jr n m).getD i b=m.testBit i:=by
 simp[jr,hi]
theorem mB {n m i:Nat} (hi:¬i<n) {b:Bool}:(jr n m).getD i b=b:=by
 simp[jr,hi]
theorem oF {l:List Oper} {m:Nat}:∀(is:List Nat) (d:Nat),lL l d is=true→(∀k,d.testBit k=true→m.testBit k=true)→(∃i∈is,m.testBit i=false)→∃i∈is,i∈Region.ready .any l.toArray (jr l.length m)
 | [],_,_,_,⟨i,hi,_⟩=>by cases hi
 |j::is,d,h,hm,⟨i,hi,hb⟩=>by
  simp only[lL,Bool.and_eq_true]at h;obtain⟨⟨h1,h2⟩,h3⟩:=h;cases hj:m.testBit j with
  |true=>
   have Zs:i∈is:=by
    rcases List.mem_cons.1 hi with rfl|hi
    ·rw[hj]at hb;cases hb
    ·exact hi
   obtain⟨k,hk,hr⟩:=oF is _ h3 (fun k hk=>by
    rw[aM,Bool.or_eq_true,decide_eq_true_eq]at hk;rcases hk with hk|rfl
    ·exact hm k hk
    ·exact hj) ⟨i,Zs,hb⟩
   exact⟨k,List.mem_cons_of_mem _ hk,hr⟩
  |false=>
   refine⟨j,by simp,?_⟩;cases ho:l[j]? with
   |none=>rw[ho]at h1;cases h1
   |some o=>
    rw[ho]at h1;have bK:j<l.length:=(zA18.1 ho).1;rw[mem_ready];refine⟨by rw[eM bK];exact hj,o,by simpa using ho,fun e he XF=>?_⟩;have:=(Array.all_eq_true_iff_forall_mem.1 h1) e he;simp only[Bool.or_eq_true,Bool.not_eq_true',XF,Bool.and_eq_true,decide_eq_true_eq,Bool.true_eq_false,false_or]at this;rw[eM this.2];exact hm _ this.1
theorem uO:∀(is:List Nat) (d k:Nat),(is.foldl (fun m i=>m |||2^i) d).testBit k=(d.testBit k ||is.contains k)
 | [],d,k=>by simp
 |i::is,d,k=>by
  rw[List.foldl_cons,uO is,aM,List.contains_cons,Bool.or_assoc];congr 2
  by_cases h:i=k
  ·subst h;simp
  ·rw[decide_eq_false h];simp[Ne.symm h]
theorem Dr {α β:Type}:∀(is:List α) (ds:List (Bool×β)),ds.length=is.length→is.Pairwise (· ≠ ·)→∀ {i:α} {b b':Bool} {x x':β},(i,(b,x))∈is.zip ds→(i,(b',x'))∈is.zip ds→b=b'
 | [],_,_,_=>fun h=>by simp at h
 |j::is,[],h,_=>by simp at h
 |j::is,d::ds,h,hp=>by
  rw[List.pairwise_cons]at hp;intro h1 h2;simp only[List.zip_cons_cons,List.mem_cons]at h1 h2;have no:∀(y:Bool×β),(j,y)∉is.zip ds:=fun y hy=>hp.1 j (List.of_mem_zip hy).1 rfl;rcases h1 with h1|h1
  ·rcases h2 with h2|h2
   ·rw[←h1]at h2;cases h2;rfl
   ·cases h1;exact absurd h2 (no _)
  ·rcases h2 with h2|h2
   ·cases h2;exact absurd h1 (no _)
   ·exact Dr is ds zar hp.2 h1 h2
theorem Lg {l:List Oper} {S:World→Prop} {B:Nat} {w:World} {f d:Nat} {a:Act} (Ext:World→World→Prop) (f' d':Nat) (is:List Nat) (deps:List (Bool×List (Nat×Nat))) (Φ N:Nat→Value→World→Prop) (Pr:Nat→Value→Nat→Value→Prop)
 (ee:Kh l a.tmps.size f d is deps f' d'=true) (oh:Region.noSelect l.toArray=true) (hBp:is.contains B=false) (Hw:∀w,Ext w w) (Cd:∀w1 w2 w3,Ext w1 w2→Ext w2 w3→Ext w1 w3)
 (hS:S w) (hSE:∀w1 w2,S w1→Ext w1 w2→S w2) (hΦ:∀i v w1 w2,Φ i v w1→Ext w1 w2→Φ i v w2)
 (hN:∀i j v u w,i≠j→N i v w→Φ j u w→Pr i v j u∧Pr j u i v)
 (BY:A9 P l Q S Ext Φ N a w is deps)
 (H:∀(vs:Nat→Value) w',S w'→Ext w w'→(∀i∈is,Φ i (vs i) w')→(∀i∈is,∀j∈is,i≠j→Pr i (vs i) j (vs j))→Tx P l Q S B f' d' (iy l d' vs is a) w'):Tx P l Q S B f d a w:=by
 simp only[Kh,Bool.and_eq_true,beq_iff_eq]at ee;obtain⟨⟨⟨⟨⟨⟨⟨hf,Uq⟩,Q9⟩,hpw⟩,aB⟩,Ur⟩,Hl⟩,Nk⟩:=ee;have nX:I1 l is:=Fn is hpw;have IU:∀i∈is,d.testBit i=false:=by
  have key:∀(js:List Nat) (e:Nat),lL l e js=true→∀i∈js,e.testBit i=false:=by
   intro js
   induction js with
   |nil=>intro e _ i hi;cases hi
   |cons j js ih=>
    intro e h i hi;simp only[lL,Bool.and_eq_true,Bool.not_eq_true']at h;rcases List.mem_cons.1 hi with rfl|hi
    ·exact h.1.2
    ·exact zfE
  exact key is d Q9
 have main:∀(n m:Nat) (vs:Nat→Value) (w1:World),(is.filter fun i=>!m.testBit i).length=n→(∀k,k∉is→m.testBit k=d.testBit k)→S w1→Ext w w1→
  (∀i∈is,m.testBit i=true→Φ i (vs i) w1)→(∀i∈is,∀j∈is,m.testBit i=true→m.testBit j=true→i≠j→Pr i (vs i) j (vs j))→(∀i∈is,m.testBit i=true→∀j,df l i j=true→m.testBit j=true)→Tx P l Q S B (f'+n) m (iy l m vs is a) w1:=by
  intro n
  induction n with
  |zero=>
   intro m vs w1 hn hm hS1 hE hP hR hW;have dB:∀i∈is,m.testBit i=true:=by
    exact zeI
   have em:m=d':=by
    apply Nat.eq_of_testBit_eq;intro k;rw[←Uq,uO]
    by_cases hk:k∈is
    ·rw[dB k hk];simp[hk]
    ·rw[hm k hk];simp[hk]
   exact zeK
  |succ n ih=>
   intro m vs w1 hn hm hS1 hE hP hR hW;have NM:∃i∈is,m.testBit i=false:=by
    exact zd0
   have Ju:∀k,d.testBit k=true→m.testBit k=true:=by
    intro k hk
    by_cases QN:k∈is
    ·rw[IU k QN]at hk;cases hk
    ·rw[hm k QN];exact hk
   obtain⟨i1,QT,og⟩:=oF is d Q9 Ju NM
   by_cases hEx:∃i ds,(i,(true,ds))∈is.zip deps∧i∈Region.ready .any l.toArray (jr l.length m)
   ·obtain⟨i,ds0,jN,hi⟩:=hEx;have iO:i∈is:=(List.of_mem_zip jN).1;obtain⟨bb,ds,hz,BZ⟩:=kn is deps BY i iO;have kK:bb=true:=Dr is deps Ur (nX.imp (fun h=>h.1)) hz jN;rw[if_pos kK]at BZ;obtain⟨o2,rJ,JN⟩:=BZ;obtain⟨xP,o,ho,Zl⟩:=mem_ready.1 hi;have sS:l[i]? =some o:=zai;have FF:i<l.length:=(zA18.1 sS).1;rw[eM FF]at xP;have nY:∀j,df l i j=true→m.testBit j=true:=by
     intro j hj;unfold df at hj;rw[sS]at hj;simp only[Array.any_eq_true]at hj;obtain⟨x,hx,hb⟩:=hj;simp only[Bool.and_eq_true,beq_iff_eq]at hb;have:=Zl _ (Array.getElem_mem hx) hb.1;rw[hb.2]at this
     by_cases Av:j<l.length
     ·exact zfL
     ·exact zfK
    rw[sS]at rJ;have Ds:=Option.some.inj rJ;subst Ds;have Qt:=zA19.1 Hl (i,(bb,ds)) hz;simp only[Bool.and_eq_true,xW]at Qt;obtain⟨⟨⟨tH,xM⟩,Jt⟩,oZ⟩:=Qt;have Jt:=lN ds Jt;have sV:∀t∈o.looksAt l.toArray,(iy l m vs is a).tmps[t]? =(aG vs ds a).tmps[t]? :=by
     intro t ht
     by_cases hex:∃j∈is,gd l j=some t
     ·obtain⟨j,hj,BV⟩:=hex;have h1:=zA19.1 xM j hj;rw[sS,BV]at h1;simp only[Bool.or_eq_true,Bool.not_eq_true']at h1;have h2:(j,t)∈ds:=by
       rcases h1 with h1|h1
       ·exact zeJ
       ·simpa using h1
      have h3:=zA19.1 tH _ h2;simp only[Bool.and_eq_true]at h3;have bK:t<a.tmps.size:=by
       exact zep
      exact zen
     ·exact zc7
    have ZO:∀cs b,o.op≠.select cs b:=fun cs b=>Region.noSelect_spec oh i o cs b ho;have JQ:rZ Φ vs w1 ds:=pO ds (fun p hp=>by
     have h3:=zA19.1 tH p hp;simp only[Bool.and_eq_true]at h3;exact hP p.1 zas (nY p.1 h3.2))
    have wH:∀v w2,Φ i v w2∧Ext w1 w2∧N i v w1→if i=B then wpAny P .any l.toArray (NoP Q) (f'+n) ((jr l.length m).setIfInBounds i true) ((iy l m vs is a).put o.dst v) w2 else S w2∧jK P .any l.toArray (NoP Q) S B (f'+n) ((jr l.length m).setIfInBounds i true) ((iy l m vs is a).put o.dst v) w2:=by
     rintro v w2 ⟨hv,hE2,hNv⟩;have AO:¬i=B:=fun e=>by rw[e]at iO;rw[List.contains_iff_mem.2 iO]at hBp;cases hBp
     rw[if_neg AO];refine⟨hSE _ _ hS1 hE2,?_⟩;have jR:gd l i=o.dst:=zat;rw[jt,←jR,sk is a nX iO xP];refine ih (m |||2^i) (upd vs i v) w2 ?_ ?_ (hSE _ _ hS1 hE2) (Cd _ _ _ hE hE2) ?_ ?_ (fun j0 uz hb j hj=>by
      rw[aM]at hb⊢
      by_cases e:i=j0
      ·exact ze3
      ·rw[decide_eq_false e,Bool.or_false]at hb;rw[hW j0 uz hb j hj,Bool.true_or])
     ·have key:∀(js:List Nat),js.Nodup→(js.filter fun k=>!(m |||2^i).testBit k).length+(if i∈js then 1 else 0)=(js.filter fun k=>!m.testBit k).length:=by
       intro js
       induction js with
       |nil=>intro _;rfl
       |cons j js ihj=>
        intro vB;rw[List.nodup_cons]at vB;have h6:=ihj vB.2
        by_cases e:i=j
        ·exact zdj
        ·have e2:(i∈j::js)=(i∈js):=(by simp[e]);have e3:(m |||2^i).testBit j=m.testBit j:=zau;rw[List.filter_cons,List.filter_cons,e3];have e2:(if i∈j::js then 1 else 0)=(if i∈js then 1 else 0):=by
          by_cases xN:i∈js
          ·exact zez
          ·exact zfa
         exact zdl
      exact zdJ
     ·exact zdG
     ·intro j hj zo;unfold upd
      by_cases e:j=i
      ·exact zfq
      ·exact zdx
     ·intro j hj k hk zo sH AP;unfold upd
      by_cases e:j=i
      ·exact zdb
      ·rw[if_neg e];rw[aM,decide_eq_false (Ne.symm e),Bool.or_false]at zo
       by_cases e2:k=i
       ·exact zdR
       ·exact zdB
    obtain⟨v,hwd,zq,hv,hNv⟩:=JN vs w1 hS1 hE JQ;have hl:=wH v w1 ⟨hv,Hw w1,hNv⟩;have AO:¬i=B:=fun e=>by rw[e]at iO;rw[List.contains_iff_mem.2 iO]at hBp;cases hBp
    rw[if_neg AO]at hl;have FD:Ef l d i=true:=(by rw[kK]at oZ;simpa using oZ);refine tr ho (Region.noSelect_spec oh) (fun c a w hq=>hq) AO (f'+n) _ _ _ (fun j oj hj rS po vC=>?_) hi (.inl ⟨by rw[pn sV];exact hwd,fun w'=>by rw[tF ZO sV];exact zq w'⟩) hS1 hl.2;have Av:j<l.length:=zaw;have LY:l[j]? =some oj:=zax;rw[eM Av]at po;unfold Ef at FD;rw[sS]at FD;have h1:=zA19.1 FD j (List.mem_range.2 Av);rw[LY]at h1;simp only[Bool.or_eq_true,beq_iff_eq]at h1;rcases h1 with(((h1|h1)|h1)|h1)|h1
    ·exact absurd h1 rS
    ·rw[Ju j h1]at po;cases po
    ·exact zd9
    ·rw[nY j h1]at po;cases po
    ·exact h1
   ·unfold Tx;refine⟨fun h0=>(by rw[h0]at og;cases og),fun i hi=>?_⟩;obtain⟨xP,o,ho,Zl⟩:=mem_ready.1 hi;have sS:l[i]? =some o:=zai;have FF:i<l.length:=(zA18.1 sS).1;rw[eM FF]at xP;have nY:∀j,df l i j=true→m.testBit j=true:=by
     intro j hj;unfold df at hj;rw[sS]at hj;simp only[Array.any_eq_true]at hj;obtain⟨x,hx,hb⟩:=hj;simp only[Bool.and_eq_true,beq_iff_eq]at hb;have:=Zl _ (Array.getElem_mem hx) hb.1;rw[hb.2]at this
     by_cases Av:j<l.length
     ·exact zfL
     ·exact zfK
    have iO:i∈is:=by
     by_cases iO:i∈is
     ·exact iO
     ·exfalso;have h1:=zA19.1 Nk i (List.mem_range.2 FF);simp only[Bool.or_eq_true]at h1;rcases h1 with((h1|h1)|h1)|h1
      ·rw[←hm i iO,xP]at h1;cases h1
      ·exact iO (by simpa using h1)
      ·obtain⟨b1,ds1,jA,-⟩:=kn is deps BY i1 QT;have h2:=zA19.1 h1 _ jA;simp only[Bool.or_eq_true]at h2;rcases h2 with(h2|h2)|h2
       ·exact hEx ⟨i1,ds1,by rw[←h2];exact jA,og⟩
       rotate_left
       ·obtain⟨q,hq,h5⟩:=List.any_eq_true.1 h2;rw[Bool.and_eq_true]at h5;have h3:=hW q hq (nY q h5.1) i1 h5.2;exact zdp
       ·have h3:=nY i1 h2;exact zdp
      ·exact zea
    obtain⟨bb,ds,hz,BZ⟩:=kn is deps BY i iO;have kK:¬bb=true:=fun e=>hEx ⟨i,ds,by rw[←e];exact hz,hi⟩;rw[if_neg kK]at BZ;obtain⟨o2,rJ,JN⟩:=BZ;rw[sS]at rJ;have Ds:=Option.some.inj rJ;subst Ds;have Qt:=zA19.1 Hl (i,(bb,ds)) hz;simp only[Bool.and_eq_true,xW]at Qt;obtain⟨⟨⟨tH,xM⟩,Jt⟩,oZ⟩:=Qt;have Jt:=lN ds Jt;have sV:∀t∈o.looksAt l.toArray,(iy l m vs is a).tmps[t]? =(aG vs ds a).tmps[t]? :=by
     intro t ht
     by_cases hex:∃j∈is,gd l j=some t
     ·obtain⟨j,hj,BV⟩:=hex;have h1:=zA19.1 xM j hj;rw[sS,BV]at h1;simp only[Bool.or_eq_true,Bool.not_eq_true']at h1;have h2:(j,t)∈ds:=by
       rcases h1 with h1|h1
       ·exact zeJ
       ·simpa using h1
      have h3:=zA19.1 tH _ h2;simp only[Bool.and_eq_true]at h3;have bK:t<a.tmps.size:=by
       exact zep
      exact zen
     ·exact zc7
    have ZO:∀cs b,o.op≠.select cs b:=fun cs b=>Region.noSelect_spec oh i o cs b ho;have JQ:rZ Φ vs w1 ds:=pO ds (fun p hp=>by
     have h3:=zA19.1 tH p hp;simp only[Bool.and_eq_true]at h3;exact hP p.1 zas (nY p.1 h3.2))
    have wH:∀v w2,Φ i v w2∧Ext w1 w2∧N i v w1→if i=B then wpAny P .any l.toArray (NoP Q) (f'+n) ((jr l.length m).setIfInBounds i true) ((iy l m vs is a).put o.dst v) w2 else S w2∧jK P .any l.toArray (NoP Q) S B (f'+n) ((jr l.length m).setIfInBounds i true) ((iy l m vs is a).put o.dst v) w2:=by
     rintro v w2 ⟨hv,hE2,hNv⟩;have AO:¬i=B:=fun e=>by rw[e]at iO;rw[List.contains_iff_mem.2 iO]at hBp;cases hBp
     rw[if_neg AO];refine⟨hSE _ _ hS1 hE2,?_⟩;have jR:gd l i=o.dst:=zat;rw[jt,←jR,sk is a nX iO xP];refine ih (m |||2^i) (upd vs i v) w2 ?_ ?_ (hSE _ _ hS1 hE2) (Cd _ _ _ hE hE2) ?_ ?_ (fun j0 uz hb j hj=>by
      rw[aM]at hb⊢
      by_cases e:i=j0
      ·exact ze3
      ·rw[decide_eq_false e,Bool.or_false]at hb;rw[hW j0 uz hb j hj,Bool.true_or])
     ·have key:∀(js:List Nat),js.Nodup→(js.filter fun k=>!(m |||2^i).testBit k).length+(if i∈js then 1 else 0)=(js.filter fun k=>!m.testBit k).length:=by
       intro js
       induction js with
       |nil=>intro _;rfl
       |cons j js ihj=>
        intro vB;rw[List.nodup_cons]at vB;have h6:=ihj vB.2
        by_cases e:i=j
        ·exact zdj
        ·have e2:(i∈j::js)=(i∈js):=(by simp[e]);have e3:(m |||2^i).testBit j=m.testBit j:=zau;rw[List.filter_cons,List.filter_cons,e3];have e2:(if i∈j::js then 1 else 0)=(if i∈js then 1 else 0):=by
          by_cases xN:i∈js
          ·exact zez
          ·exact zfa
         exact zdl
      exact zdJ
     ·exact zdG
     ·intro j hj zo;unfold upd
      by_cases e:j=i
      ·exact zfq
      ·exact zdx
     ·intro j hj k hk zo sH AP;unfold upd
      by_cases e:j=i
      ·exact zdb
      ·rw[if_neg e];rw[aM,decide_eq_false (Ne.symm e),Bool.or_false]at zo
       by_cases e2:k=i
       ·exact zdR
       ·exact zdB
    have FG:=JN vs w1 hS1 hE JQ (fun c w'=>∃v,c=(aG vs ds a).put o.dst v∧Φ i v w'∧Ext w1 w'∧N i v w1) (fun v w' h1 h2 h3=>⟨v,rfl,h1,h2,h3⟩);unfold wpOp;simp only[ho];rw[pn sV];have Qv:∀t,o.dst=some t→t<(aG vs ds a).tmps.size:=by
     exact zeC
    split
    ·exact zfF
    ·rename_i hw;rw[if_neg hw]at FG;obtain⟨v,h1,h2,h3,As⟩:=FG;have h4:=wH v w1 ⟨h2,h3,As⟩;rcases Ga Qv h1 with h5|h5
     ·rw[h5]at h4⊢;exact h4
     ·rw[h5];exact h4
 have h0:=main is.length d (fun _=>undef) w (by
  rw[List.filter_eq_self.2];intro i hi;rw[IU i hi];rfl) (fun _ _=>rfl) hS (Hw w) (fun i hi hb=>by rw[IU i hi]at hb;cases hb) (fun i hi _ _ hb _ _=>by rw[IU i hi]at hb;cases hb) (fun i hi hb=>by rw[IU i hi]at hb;cases hb)
 rw[hf];have e:iy l d (fun _=>undef) is a=a:=by
  have key:∀(js:List Nat) (b:Act),(∀i∈js,d.testBit i=false)→iy l d (fun _=>undef) js b=b:=by
   intro js
   induction js with
   |nil=>intro b _;rfl
   |cons j js ihj=>
    exact zfm
  exact key is a IU
 rw[e]at h0;exact h0
structure Ph where
 p:Value→World→Prop
 mono:∀v w1 w2,p v w1→Below w1.heap.size w1 w2→p v w2
 fresh:Bool
 lt:fresh=true→∀v w,p v w→∃g,v=.pointer (some ⟨g,0,none⟩)∧g<w.heap.size
def Ph.is (x:Value):Ph:=⟨fun v _=>v=x,fun _ _ _ h _=>h,false,fun h=>by cases h⟩
def Ph.arr (base:Nat) (xs:List Value):Ph:=⟨fun v w=>∃g,v=.pointer (some ⟨g,0,none⟩)∧base≤g∧Arr w g xs,fun _ _ _ ⟨g,h1,h2,h3⟩ hb=>⟨g,h1,h2,h3.below hb⟩,true,fun _ _ _ ⟨g,h1,_,h3⟩=>⟨g,h1,h3.lt⟩⟩
def Pq:List (Nat×Ph)→Nat→Value→World→Prop
 | [],_,_,_=>True
 |(j,p)::ps,i,v,w=>if i=j then p.p v w else Pq ps i v w
def Cw:List (Nat×Ph)→Nat→Value→World→Prop
 | [],_,_,_=>True
 |(j,p)::ps,i,v,w=>if i=j then(p.fresh=true→∃g,v=.pointer (some ⟨g,0,none⟩)∧w.heap.size≤g)else Cw ps i v w
def gT:List (Nat×Ph)→Nat→Bool
 | [],_=>false
 |(j,p)::ps,i=>if i=j then p.fresh else gT ps i
theorem vH {v:Value} {w:World} {i:Nat}:∀(ps:List (Nat×Ph)),Cw ps i v w→gT ps i=true→∃g,v=.pointer (some ⟨g,0,none⟩)∧w.heap.size≤g
 | [],_,h=>by cases h
 |(j,p)::ps,h,hf=>by
  unfold Cw at h;unfold gT at hf;split at h
  ·rename_i e;rw[if_pos e]at hf;exact h hf
  ·rename_i e;rw[if_neg e]at hf;exact vH ps h hf
theorem Kf {v:Value} {w:World} {i:Nat}:∀(ps:List (Nat×Ph)),Pq ps i v w→gT ps i=true→∃g,v=.pointer (some ⟨g,0,none⟩)∧g<w.heap.size
 | [],_,h=>by cases h
 |(j,p)::ps,h,hf=>by
  unfold Pq at h;unfold gT at hf;split at h
  ·rename_i e;rw[if_pos e]at hf;exact p.lt hf v w h
  ·rename_i e;rw[if_neg e]at hf;exact Kf ps h hf
theorem CE {v:Value} {w1 w2:World} {i:Nat} (hb:Below w1.heap.size w1 w2):∀(ps:List (Nat×Ph)),Pq ps i v w1→Pq ps i v w2
 | [],_=>trivial
 |(j,p)::ps,h=>by
  unfold Pq at h⊢;split
  ·rename_i e;rw[if_pos e]at h;exact p.mono _ _ _ h hb
  ·rename_i e;rw[if_neg e]at h;exact CE hb ps h
theorem aW {w1 w2 w3:World} {n:Nat} (h1:Below n w1 w2) (hn:n≤w1.heap.size) (h2:Below w2.heap.size w2 w3):Below n w1 w3:=
 h1.trans (h2.mono (zA14 hn h1.size))
theorem az {w w1 w2:World} (h1:Below w.heap.size w w1) (h2:Below w1.heap.size w1 w2):Below w.heap.size w w2:=aW h1 (zA0 _) h2
theorem aK {C:Code} {a:Act} {w:World} {c:Array Value} {T:TypeId} {ys:List Value}
 (h:∀W,Arr W w.heap.size ys→Below w.heap.size w W→Code.wp P C Q a W):Code.wp P C Q a ((w.alloc (.cells c T)).setRow w.heap.size ys.toArray):=
 h _ ((Arr.new w c T).setRow ys) (ah (ae w _) (zA0 _) _)
theorem ci {C:Code} {a:Act} {w:World} {g:Nat} {xs ys:List Value} (hg:Arr w g xs)
 (h:∀W,Arr W g ys→(∀k zs,k≠g→Arr w k zs→Arr W k zs)→(∀n w0,n≤g→Below n w0 w→Below n w0 W)→Code.wp P C Q a W):Code.wp P C Q a (w.setRow g ys.toArray):=
 h _ (hg.setRow ys) (fun _ _ hk h=>h.row_other hk _) (fun _ _ hn h=>ah h hn _)
theorem aV {K:Act→World→Prop} {e:Exit} {a:Act} {w:World} {g:Nat} {xs ys:List Value} (hg:Arr w g xs)
 (h:∀W,Arr W g ys→(∀k zs,k≠g→Arr w k zs→Arr W k zs)→(∀n w0,n≤g→Below n w0 w→Below n w0 W)→Exit.then K Q e a W):Exit.then K Q e a (w.setRow g ys.toArray):=
 h _ (hg.setRow ys) (fun _ _ hk h=>h.row_other hk _) (fun _ _ hn h=>ah h hn _)
theorem ck {C:Code} {a:Act} {w:World} {g j:Nat} {xs:List Value} {u:Value} (hg:Arr w g xs)
 (h:∀W,Arr W g (xs.set j u)→(∀k zs,k≠g→Arr w k zs→Arr W k zs)→(∀n w0,n≤g→Below n w0 w→Below n w0 W)→Code.wp P C Q a W):Code.wp P C Q a (w.setCell ⟨g,j,none⟩ u):=
 h _ (hg.set j u) (fun _ _ hk h=>h.other (a:=⟨g,j,none⟩) hk _) (fun _ _ hn h=>h.setCell (p:=⟨g,j,none⟩) hn _)
theorem pR {l:List Oper} {m:Nat} {vs:Nat→Value}:∀(ps:List (Nat×Nat)) (a:Act),(ps.all fun p=>m.testBit p.1&&gd l p.1==some p.2)=true→iy l m vs (ps.map (·.1)) a=aG vs ps a
 | [],_,_=>rfl
 |p::ps,a,h=>by
  rw[List.all_cons,Bool.and_eq_true,Bool.and_eq_true,beq_iff_eq]at h;rw[List.map_cons,iy,if_pos h.1.1,h.1.2,pR ps _ h.2];rfl
def UE (ps:List (Nat×Ph)) (vs:Nat→Value) (w:World):List (Nat×Ph)→Prop
 | []=>True
 |q::qs=>Pq ps q.1 (vs q.1) w∧UE ps vs w qs
theorem EY {ps:List (Nat×Ph)} {vs:Nat→Value} {w:World}:∀(qs:List (Nat×Ph)),(∀q∈qs,Pq ps q.1 (vs q.1) w)→UE ps vs w qs
 | [],_=>trivial
 |q::qs,h=>⟨h q zac,EY qs (fun x hx=>h x (List.mem_cons_of_mem _ hx))⟩
theorem bG {l:List Oper} {W w:World} {B f d:Nat} {a:Act} (f' d':Nat) (slots:List (Nat×Nat)) (deps:List (Bool×List (Nat×Nat))) (Φ:List (Nat×Ph))
 (ee:(Kh l a.tmps.size f d (slots.map (·.1)) deps f' d'&&(slots.all fun p=>d'.testBit p.1&&gd l p.1==some p.2)&&(Φ.map (·.1)==slots.map (·.1))&& !(slots.map (·.1)).contains B)=true) (oh:Region.noSelect l.toArray=true)
 (hS:Below W.heap.size W w)
 (BY:A9 P l Q (fun w'=>Below W.heap.size W w') (fun w1 w2=>Below w1.heap.size w1 w2) (Pq Φ) (Cw Φ) a w (slots.map (·.1)) deps)
 (H:∀(vs:Nat→Value) w',Below W.heap.size W w'→Below w.heap.size w w'→UE Φ vs w' Φ→(∀i j,(slots.map (·.1)).contains i=true→(slots.map (·.1)).contains j=true→(i != j)=true→gT Φ i=true→gT Φ j=true→vs i≠vs j)→Tx P l Q (fun w'=>Below W.heap.size W w') B f' d' (aG vs slots a) w'):Tx P l Q (fun w'=>Below W.heap.size W w') B f d a w:=by
 simp only[Bool.and_eq_true,beq_iff_eq,Bool.not_eq_true']at ee;refine Lg _ f' d' _ deps (Pq Φ) (Cw Φ) (fun i v j u=>gT Φ i=true→gT Φ j=true→v≠u) ee.1.1.1 oh ee.2 (fun w=>zA6 _ _) (fun w1 w2 w3 h1 h2=>aW h1 (zA0 _) h2) hS (fun w1 w2 h1 h2=>aW h1 (zA0 _) h2)
  (fun i v w1 w2 h1 h2=>CE h2 Φ h1) (fun i j v u w _ h1 h2=>?_) BY ?_
 ·have key:gT Φ i=true→gT Φ j=true→v≠u:=by
   exact zed
  exact⟨key,fun h3 h4 h5=>key h4 h3 h5.symm⟩
 exact zdX
end
section
variable {P:Program} {Q:Exit→Act→World→Prop}
theorem dz {l:List Oper} {S:World→Prop} {B:Nat} {w:World} {f d:Nat} {a:Act} (A:Act) (f' d':Nat) (hS:S w) (is:List Nat) (h:∀w',S w'→rd P l w' is a A) (H:Tx P l Q S B f' d' A w) (hs:Region.noSelect l.toArray=true:=by kernel_rfl) (ee:(lJ l a.tmps.size f' f d is d'&&is.all (PC l B))=true:=by kernel_rfl):Tx P l Q S B f d a w:=gF f' d' hs hS is ee h H
theorem cH {l:List Oper} {id:Nat} {a:Act} {w:World} (B n:Nat) (h:Below w.heap.size w w.drew→Tx P l Q (fun w'=>Below w.heap.size w w') B n 0 a w.drew) (hm:P.follows .mixedOrders=true:=by kernel_rfl) (hn:l.length=n:=by exact rfl):(Code.region id l.toArray true).wp P Q a w:=eC _ B n hn hm (h (zA6 _ _).drew)
theorem eg {l:List Oper} {n0:Nat} {W w:World} {B f d:Nat} {a a':Act} {o:Oper} {c:Prop} (i d':Nat) (hS:Below n0 W w) (hc:c) (h:∀w',Below n0 W w'→Tx P l Q (fun w'=>Below n0 W w') B f d' a' w') (hn:n0≤W.heap.size:=by exact zA0 _) (ho:l[i]? =some o:=by exact rfl) (hr:(Region.ready .any l.toArray (jr l.length d)== [i]&&(d |||2^i)==d'&&i != B)=true:=by decide+kernel)
 (hx:c→∀K:Act→World→Prop,(∀w',Below w.heap.size w w'→K a' w')→if Region.wanted o (yielded l.toArray a.tmps)=true then Oper.wp P o a w K (NoP Q)else K (a.put o.dst undef) w:=by
  intro hc K hK;go_simp
  first|(refine(hc _).mono ?_)|(refine(hc _ _).mono ?_)|(refine(hc _ _ _).mono ?_)|(refine hc.mono ?_)
  rintro e w2 ⟨rfl,hb⟩;try simp only[Act.put,zSa,zSz,zSs]
  exact hK _ hb):Tx P l Q (fun w'=>Below n0 W w') B (f+1) d a w:=
 aY i d' ho hr (fun K hK=>hx hc K (fun w' hb=>hK _ _ _ (aW hS hn hb) (fun _ h=>h) (h w' (aW hS hn hb))))
theorem oT {c p:Prop} (hc:c) (h:c→p:=by
 intro hc vs w1 hS hE hD K hK;simp only[aG,Act.put,zSa,zSz,zSs]at hK⊢;go_simp
 first|(refine(hc _).mono ?_)|(refine(hc _ _).mono ?_)|(refine(hc _ _ _).mono ?_)|(refine hc.mono ?_)
 rintro e w2 ⟨rfl,hb2⟩;exact hK _ _ rfl hb2 nofun):p:=h hc
theorem DB {c p:Prop} (hc:c) (h:c→p:=by
 intro hc vs w1 hS hE hD K hK;obtain⟨q1,-⟩:=hD;simp only[aG,Act.put,zSa,zSz,zSs]at hK⊢;rw[show vs _=_ from q1]at hK⊢;go_simp
 first|(refine(hc _).mono ?_)|(refine(hc _ _).mono ?_)|(refine(hc _ _ _).mono ?_)|(refine hc.mono ?_)
 rintro e w2 ⟨rfl,hb2⟩;exact hK _ _ rfl hb2 nofun):p:=h hc
theorem zP2 {c p:Prop} (hc:c) (h:c→p:=by
 intro hc vs w1 hS hE hD K hK;obtain⟨q1,q2,-⟩:=hD;simp only[aG,Act.put,zSa,zSz,zSs]at hK⊢;rw[show vs _=_ from q1]at hK⊢;clear q1;rw[show vs _=_ from q2]at hK⊢;go_simp
 first|(refine(hc _).mono ?_)|(refine(hc _ _).mono ?_)|(refine(hc _ _ _).mono ?_)|(refine hc.mono ?_)
 rintro e w2 ⟨rfl,hb2⟩;exact hK _ _ rfl hb2 nofun):p:=h hc
theorem kO {l:List Oper} {S:World→Prop} {B f d:Nat} {a a':Act} {w w':World} {o:Oper} (d':Nat) (h:Tx P l Q (fun _=>True) 9999 f d' a' w') (ho:l[B]? =some o:=by exact rfl) (hr:(Region.ready .any l.toArray (jr l.length d)== [B]&&(d |||2^B)==d')=true:=by decide+kernel)
 (hx:∀K:Act→World→Prop,K a' w'→if Region.wanted o (yielded l.toArray a.tmps)=true then Oper.wp P o a w K (NoP Q)else K (a.put o.dst undef) w:=by
  intro K hK;refine bJ rfl _ _ _ rfl _ _ rfl rfl _ zAm zLn zLm zOn ?_;try simp only[Act.put]
  try simp only[zSa,zSz,zSs]
  exact hK):Tx P l Q S B (f+1) d a w:=
 bf d' ho hr (fun K hK=>hx K (hK _ _ _ _ h))
end
end Go.Proofs.YtgfkgolafkdjfaaGreatDoor
