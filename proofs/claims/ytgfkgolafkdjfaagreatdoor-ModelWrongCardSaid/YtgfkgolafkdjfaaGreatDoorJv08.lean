/- ModelWrong: part 8 of its proof: lemmas and contracts, each with its conditions in its own statement; the last part holds the law itself. -/
import Derived.Laws.CopyRow
import Derived.BigFrame
import Derived.Test.YtgfkgolafkdjfaaGreatDoorJv07
import Derived.Deep.MidRow
import Derived.WalkSpells
import Derived.WalkKit
import Derived.Deep.CutRange
import Derived.Deep.CutBlock
import Derived.RegionTactic
import Derived.ScopeJumps
import Derived.WalkLawsBesides
import Derived.StillTailTactics
import Derived.ProofKit
import Derived.Test.YtgfkgolafkdjfaaGreatDoorRows

set_option maxHeartbeats 4000000
set_option maxRecDepth 100000
namespace Go.Proofs.YtgfkgolafkdjfaaGreatDoor
open Go.RowKit
theorem oC {P:Program} {w:World} (t ty e:TypeId) {i:TypeInfo} {z:Value} {bytes:Nat} (ht:P.underlying t=some (.slice e)) (hi:P.info? e=some i) (hz:i.zero=some z)
 (qj:i.size=1) (tG:i.bytes=bytes) (Pp:z.cells.size=1) {a:Option Addr} {n cap:Nat} {xs:List Value} (hs:Sl w (.slice a n cap) xs) {vx:Value} {news:List Value} (hx:Sl w vx news)
 (Nm:cap<xs.length+news.length) (h1:∀u∈news,u.oneCell'=true) (Nh:n+news.length≤maxLen) (mY:(n+news.length)*bytes≤140737488355328):
 ∃v' w',(Builtin.append_ #[t,t] ty #[.slice a n cap,vx]).run P w=.ok v' w'∧w'.ownsRow w.heap.size e 1 v' (n+news.length) (xs++news)∧Below w.heap.size w w':=by
 obtain⟨a',cap',e1,h2,h3,h4,h5⟩:=hs;simp only[Value.slice.injEq]at e1;obtain⟨rfl,rfl,rfl⟩:=e1;cases a with
 |none=>
  obtain rfl:=h4 rfl;obtain rfl:xs=[]:=List.eq_nil_of_length_eq_zero zOm;obtain⟨v',w',r1,r2,r3⟩:=mG (P:=P) (w:=w) (base:=w.heap.size) t ty e ht hi hz qj tG Pp (World.ownsRow_nil w w.heap.size e 1) hx h1 (by simpa using Nh) (by simpa using mY) (zA0 _);exact⟨v',w',r1,by simpa using r2,(zA6 _ _).grown r3 (zA0 _) (fun k hk=>by cases hk)⟩
 |some b=>
  obtain⟨a2,cap2,rfl,g2,g3,g4,g5⟩:=hx;cases a2 with
  |none=>
   obtain rfl:=g4 rfl;omega
  |some x=>
   subst tG;have h6:((xs.length+news.length:Nat):Int)≤9223372036854775807:=(by simp only[maxLen]at Nh;omega);have hr:=run_append_grow (P:=P) (w:=w) t ty e i z ht hi hz b xs.length cap xs (by rw[qj,Nat.mul_one]) (h5 b rfl) x news.length cap2 news (by rw[qj,Nat.mul_one]) (g5 x rfl) Nm h6 (growslice_fits Nm mY);refine⟨_,_,hr,?_,((zA6 _ _).drew).alloc (zA0 _) _⟩;refine⟨by simp,.inr ⟨w.heap.size,_,_,rfl,zA0 _,heap_alloc_new w.drew _,grownCap_ge _ _ _ _,grownCap_le_maxLen _ _ _ _ Nh,?_,?_⟩⟩
   ·have:=grownCap_ge w (xs.length+news.length) cap e;simp only[Array.size_append,List.size_toArray,size_zeroCells,Pp,Nat.mul_one];omega
   ·rw[Nat.mul_one];simp only[Array.toList_append,zA16];rw[←zA16,List.take_append_of_le_length zac,zA8 zac]
theorem Lb {P:Program} {w:World} {ops:Array Oper} {rest:List Oper} {o:Oper} {a:Act} {Q:Exit→Act→World→Prop} (hw:Region.wanted o (yielded ops a.tmps)=true) (s x:Operand) (t:TypeId)
 (ho:o.op=.call {callee:=.builtin .append,args:=#[s,x],argTypes:=#[t,t]})
 (base:Nat) (e:TypeId) {i:TypeInfo} {z:Value} {bytes:Nat} (ht:P.underlying t=some (.slice e)) (hi:P.info? e=some i) (hz:i.zero=some z)
 (qj:i.size=1) (tG:i.bytes=bytes) (Pp:z.cells.size=1) (v:Value) (n:Nat) (xs:List Value) (hs:a.eval s=v) (cf:w.ownsRow base e 1 v n xs) (vx:Value) (news:List Value) (hx:a.eval x=vx) (dI:Sl w vx news)
 (h1:∀u∈news,u.oneCell'=true) (Nh:n+news.length≤maxLen) (mY:(n+news.length)*bytes≤140737488355328) (ut:base≤w.heap.size)
 (h:∀v' w',w'.ownsRow base e 1 v' (n+news.length) (xs++news)→w.grownBy w' v.ownBlock→wpList P ops Q rest (a.put o.dst v') w'):wpList P ops Q (o::rest) a w:=by
 refine wpList_step fun K hK=>?_;rw[if_pos hw];exact zdC
theorem nc {P:Program} {w:World} {ops:Array Oper} {rest:List Oper} {o:Oper} {a:Act} {Q:Exit→Act→World→Prop} (hw:Region.wanted o (yielded ops a.tmps)=true) (d s:Operand) (dT sT:TypeId)
 (ho:o.op=.call {callee:=.builtin .copy,args:=#[d,s],argTypes:=#[dT,sT]}) (elem:TypeId) (hu:P.underlying dT=some (.slice elem)) (aB:(P.info? elem).map (·.size)=some 1)
 (g off dLen dCap:Nat) (hd:a.eval d=.slice (some ⟨g,off,none⟩) dLen dCap) (xs:List Value) (hg:Arr w g xs) (uV:off+dLen≤xs.length) (vs:Value) (hs:a.eval s=vs) (full:List Value) (dI:Sl w vs full) (h1:∀v∈full,v.oneCell'=true)
 (h:wpList P ops Q rest (a.put o.dst (goInt (full.take dLen).length)) (w.setRow g (xs.take off++full.take dLen++xs.drop (off+(full.take dLen).length)).toArray)):wpList P ops Q (o::rest) a w:=by
 refine wpList_step fun K hK=>?_;rw[if_pos hw];obtain⟨sp,cap,rfl,h2,h3,h4,h5⟩:=dI;obtain⟨T,hg⟩:=hg;cases sp with
 |none=>
  obtain rfl:=h4 rfl;obtain rfl:full=[]:=List.eq_nil_of_length_eq_zero zOm;have zq:=run_copy_nil (P:=P) w dT sT o.type elem ⟨g,off,none⟩ dLen dCap hu (by cases hq:P.info? elem<;>simp[hq]at aB⊢);unfold Oper.wp;simp only[execOp,ho,resolve,invoke,builtin,Sem.run_bind,Sem.run_pure,Result.andThen_ok,List.map_toArray,List.map_cons,List.map_nil,hd,hs,List.length_nil,zq];refine hK _ _ ?_;exact zev
 |some x=>
  have hl:(full.take dLen).length=Nat.min full.length dLen:=(by rw[zA15];exact Nat.min_comm _ _);have zq:=run_copy_row (P:=P) w dT sT o.type elem g off dLen dCap x full.length cap xs.toArray T (full.take dLen) hu aB hg hl (fun j v hj=>h5 x rfl j v (by
   rw[List.getElem?_take]at hj;split at hj
   ·exact hj
   ·cases hj)) zaO (fun v hv=>h1 v (List.mem_of_mem_take hv))
  unfold Oper.wp;simp only[execOp,ho,resolve,invoke,builtin,Sem.run_bind,Sem.run_pure,Result.andThen_ok,List.map_toArray,List.map_cons,List.map_nil,hd,hs,zq];exact hK _ _ h
theorem xG {P:Program} {w:World} {ops:Array Oper} {rest:List Oper} {o:Oper} {a:Act} {Q:Exit→Act→World→Prop} (qi:o.guard=none) (s x:Operand) (t:TypeId)
 (ho:o.op=.call {callee:=.builtin .append,args:=#[s,x],argTypes:=#[t,t]})
 (e:TypeId) {i:TypeInfo} {z:Value} {bytes:Nat} (ht:P.underlying t=some (.slice e)) (hi:P.info? e=some i) (hz:i.zero=some z)
 (qj:i.size=1) (tG:i.bytes=bytes) (Pp:z.cells.size=1) {d:Option Addr} {n cap:Nat} {xs:List Value} (NK:a.eval s=.slice d n cap) (hs:Sl w (.slice d n cap) xs) {vx:Value} {news:List Value} (hx:a.eval x=vx) (dI:Sl w vx news)
 (Nm:cap<xs.length+news.length) (h1:∀u∈news,u.oneCell'=true) (Nh:n+news.length≤maxLen) (mY:(n+news.length)*bytes≤140737488355328)
 (h:∀v' w',w'.ownsRow w.heap.size e 1 v' (n+news.length) (xs++news)→Below w.heap.size w w'→wpList P ops Q rest (a.put o.dst v') w'):wpList P ops Q (o::rest) a w:=by
 refine wpList_plain qi fun K hK=>?_;obtain⟨v',w',hr,h2,h3⟩:=oC (P:=P) t o.type e ht hi hz qj tG Pp hs dI Nm h1 Nh mY;unfold Oper.wp execOp;simp only[ho,resolve,invoke,builtin,Sem.run_bind,Sem.run_pure,Result.andThen_ok,List.map_toArray,List.map_cons,List.map_nil,NK,hx,hr];exact hK _ _ (h v' w' h2 h3)
section
variable {P:Program}
theorem Arr.range {w:World} {g:Nat} {xs:List Value} (h:Arr w g xs) {o:Nat} {cs:List Value} (nq:∀j,j<cs.length→xs[o+j]? =cs[j]?):w.rangeAt g o cs:=by
 intro j v hv;have hj:j<cs.length:=(zA18.1 hv).1;exact h.cell (by rw[nq j hj,hv])
theorem GK {ty:TypeId} (h:Aq P ty=true):∃d,P.underlying ty=some d∧d.isRow=true:=by
 obtain⟨d,h1,h2⟩:=pM h;exact⟨d,h1,by cases d<;>first|rfl|cases h2⟩
theorem Yj {l:List Oper} {w:World} {i:Nat} {is:List Nat} {a A:Act} {o:Oper} (hi:l[i]? =some o) (hw:Region.wanted o (yielded l.toArray a.tmps)=true) (ty:TypeId) (x:Operand) (ho:o.op=.load ty x)
 (g off:Nat) (hx:a.eval x=.pointer (some ⟨g,off,none⟩)) (ha:Aq P ty=true) (cs:List Value) (hg:w.rangeAt g off cs) (hz:(P.info? ty).map (·.size)=some cs.length)
 (h:rd P l w is (a.put o.dst (.agg cs.toArray)) A):rd P l w (i::is) a A:=by
 obtain⟨d,hu,hd⟩:=GK ha;refine cj hi hw ?_ h;unfold execOp;simp only[ho,hx,Instr.loadAt,Instr.sureAddr,Sem.run_bind,Sem.run_pure,Result.andThen_ok,run_loadVar_mid w g off ty cs d hg hu hd hz]
theorem aE {ops:Array Oper} {rest:List Oper} {o:Oper} {a:Act} {w:World} {Q:Exit→Act→World→Prop} (hw:Region.wanted o (yielded ops a.tmps)=true) (ty:TypeId) (x:Operand) (ho:o.op=.load ty x)
 (g off:Nat) (hx:a.eval x=.pointer (some ⟨g,off,none⟩)) (ha:Aq P ty=true) (cs:List Value) (hg:w.rangeAt g off cs) (hi:(P.info? ty).map (·.size)=some cs.length)
 (h:wpList P ops Q rest (a.put o.dst (.agg cs.toArray)) w):wpList P ops Q (o::rest) a w:=by
 obtain⟨d,hu,hd⟩:=GK ha;refine wpList_step fun K hK=>?_;rw[if_pos hw];exact wp_load_mid ty x ho g off hx cs d hg hu hd hi (hK _ _ h)
def gJ (o:Nat) (cs xs:List Value):List Value:=xs.take o++(cs++xs.drop (o+cs.length))
theorem OC (o:Nat) (xs:List Value):gJ o [] xs=xs:=by simp[gJ]
theorem Kk {o:Nat} {c:Value} {cs xs:List Value} (h:o+(c::cs).length≤xs.length):gJ (o+1) cs (xs.set o c)=gJ o (c::cs) xs:=by
 simp only[List.length_cons]at h;have e:(xs.set o c).drop (o+1+cs.length)=xs.drop (o+1+cs.length):=(by rw[List.drop_set_of_lt zOm]);have e2:(xs.set o c).take (o+1)=xs.take o++[c]:=by
  rw[List.take_succ_eq_append_getElem zab,List.take_set_of_le (zA0 _)];simp
 rw[gJ,gJ,e,e2,List.length_cons,show o+(cs.length+1)=o+1+cs.length by omega,zA16];rfl
theorem Arr.setCells {g:Nat}:∀(cs:List Value) (o:Nat) {w:World} {xs:List Value},Arr w g xs→o+cs.length≤xs.length→Arr (w.setCells g o cs) g (gJ o cs xs)
 | [],o,w,xs,h,_=>by rw[OC];exact h
 |c::cs,o,w,xs,h,hl=>by
  rw[World.setCells,←Kk hl];exact Arr.setCells cs (o+1) (h.set o c) (by simp at hl⊢;omega)
theorem Arr.there {w:World} {g:Nat} {xs:List Value} (h:Arr w g xs) {o n:Nat} (hn:o+n≤xs.length):w.there g o n:=fun j hj=>
 ⟨by rw[h.cell (zA7 (by omega:o+j<xs.length))];rfl,h.frozen _⟩
theorem uD {g k:Nat} (hk:k≠g):∀(cs:List Value) (o:Nat) (w:World),(w.setCells g o cs).heap[k]? =w.heap[k]?
 | [],_,_=>rfl
 |c::cs,o,w=>by
  rw[World.setCells,uD hk cs (o+1)];exact heap_setCell_other w ⟨g,o,none⟩ k c hk
theorem tk {n g:Nat} (hg:n≤g) {w0:World}:∀(cs:List Value) (o:Nat) (w:World),Below n w0 w→Below n w0 (w.setCells g o cs)
 | [],_,_,h=>h
 |_::cs,o,_,h=>tk hg cs (o+1) _ (h.setCell (p:=⟨g,o,none⟩) hg _)
theorem aN {a b c:World} {row:Option Nat} (h:a.grownBy b row) (k:b.grownBy c row):a.grownBy c row:=
 ⟨k.os.trans h.os,k.tape.trans h.tape,k.output.trans h.output,zA14 h.size k.size,fun i hi hn=>by rw[k.block i (zA3 hi h.size) hn,h.block i hi hn]⟩
theorem bY (w:World) (g o:Nat) (u:Value):w.grownBy (w.setCell ⟨g,o,none⟩ u) (some g):=
 ⟨rfl,rfl,rfl,by simp[World.setCell],fun k _ hn=>Below.heap_setCell _ _ _ _ (by simpa using hn)⟩
theorem By {g:Nat}:∀(cs:List Value) (o:Nat) (w:World),w.grownBy (w.setCells g o cs) (some g)
 | [],_,_=>World.grownBy.refl _ _
 |c::cs,o,w=>aN (bY w g o c) (By cs (o+1) _)
theorem bO {w w':World} {row:Option Nat} (h:Below w.heap.size w w'):w.grownBy w' row:=⟨h.os,h.tape,h.output,h.size,fun k hk _=>h.block k hk⟩
theorem aq {n:Nat} {w0 w w':World} {g:Nat} (h:Below n w0 w) (hg:w.grownBy w' (some g)) (hn:n≤g) (hs:n≤w.heap.size):Below n w0 w':=
 h.grown hg hs (fun k hk=>by cases hk;exact hn)
theorem uK {w:World} {ops:Array Oper} {rest:List Oper} {o:Oper} {a:Act} {Q:Exit→Act→World→Prop} (qi:o.guard=none) (ty:TypeId) (x y:Operand) (ho:o.op=.store ty x y)
 (g off:Nat) (cs:List Value) (hx:a.eval x=.pointer (some ⟨g,off,none⟩)) (hy:a.eval y=.agg cs.toArray) (xs:List Value) (hg:Arr w g xs) (hi:(P.info? ty).map (·.size)=some cs.length)
 (uV:off+cs.length≤xs.length) (h1:∀v∈cs,v.oneCell'=true)
 (h:∀W,Arr W g (gJ off cs xs)→(∀k zs,k≠g→Arr w k zs→Arr W k zs)→(∀n w0,n≤g→Below n w0 w→Below n w0 W)→(w.grownBy W (some g))→wpList P ops Q rest (a.put o.dst undef) W):wpList P ops Q (o::rest) a w:=by
 refine wpList_store_mid qi ty x y ho g off cs.toArray hx hy (by simpa using hg.there uV) zag (all_oneCell_toArray h1) ?_;refine h _ (Arr.setCells _ _ hg (by simpa using uV)) (fun k zs hk ha=>?_) (fun n w0 hn hb=>tk hn _ _ _ hb) (By _ _ _);obtain⟨T,ha⟩:=ha;exact⟨T,by rw[uD hk];exact ha⟩
theorem gf {w:World} {ops:Array Oper} {o:Oper} {a:Act} {K:Act→World→Prop} {Q:Exit→Act→World→Prop} {E:Prop} (hw:Region.wanted o (yielded ops a.tmps)=true) (d s:Operand) (dT sT:TypeId)
 (ho:o.op=.call {callee:=.builtin .copy,args:=#[d,s],argTypes:=#[dT,sT]}) (elem:TypeId) (hu:P.underlying dT=some (.slice elem)) (aB:(P.info? elem).map (·.size)=some 1)
 (g off dLen dCap:Nat) (hd:a.eval d=.slice (some ⟨g,off,none⟩) dLen dCap) (xs:List Value) (hg:Arr w g xs) (uV:off+dLen≤xs.length) (vs:Value) (hs:a.eval s=vs) (full:List Value) (dI:Sl w vs full) (h1:∀v∈full,v.oneCell'=true)
 (h:K (a.put o.dst (goInt (full.take dLen).length)) (w.setRow g (xs.take off++full.take dLen++xs.drop (off+(full.take dLen).length)).toArray)):if Region.wanted o (yielded ops a.tmps)=true then Oper.wp P o a w K Q else E:=by
 rw[if_pos hw];obtain⟨sp,cap,rfl,h2,h3,h4,h5⟩:=dI;obtain⟨T,hg⟩:=hg;cases sp with
 |none=>
  obtain rfl:=h4 rfl;obtain rfl:full=[]:=List.eq_nil_of_length_eq_zero zOm;have zq:=run_copy_nil (P:=P) w dT sT o.type elem ⟨g,off,none⟩ dLen dCap hu (by cases hq:P.info? elem<;>simp[hq]at aB⊢);unfold Oper.wp;simp only[execOp,ho,resolve,invoke,builtin,Sem.run_bind,Sem.run_pure,Result.andThen_ok,List.map_toArray,List.map_cons,List.map_nil,hd,hs,List.length_nil,zq];exact zev
 |some x=>
  have hl:(full.take dLen).length=Nat.min full.length dLen:=(by rw[zA15];exact Nat.min_comm _ _);have zq:=run_copy_row (P:=P) w dT sT o.type elem g off dLen dCap x full.length cap xs.toArray T (full.take dLen) hu aB hg hl (fun j v hj=>h5 x rfl j v (by
   rw[List.getElem?_take]at hj;split at hj
   ·exact hj
   ·cases hj)) zaO (fun v hv=>h1 v (List.mem_of_mem_take hv))
  unfold Oper.wp;simp only[execOp,ho,resolve,invoke,builtin,Sem.run_bind,Sem.run_pure,Result.andThen_ok,List.map_toArray,List.map_cons,List.map_nil,hd,hs,zq];exact h
end
theorem Sl.of_part {w:World} {g o n cap:Nat} {xs cs:List Value} (h:Arr w g xs) (hn:cs.length=n) (hc:n≤cap) (hm:cap≤maxLen) (nq:∀j,j<cs.length→xs[o+j]? =cs[j]?):Sl w (.slice (some ⟨g,o,none⟩) n cap) cs:=by
 refine⟨_,cap,by rw[hn],by omega,hm,fun h=>zaa,fun x hx=>?_⟩;cases hx;intro j u hu;rw[Addr.add_lit];have hj:j<cs.length:=(zA18.1 hu).1;exact h.cell (by rw[nq j hj,hu])
theorem mW (w:World) (g:Nat) (ys:Array Value):w.grownBy (w.setRow g ys) (some g):=
 ⟨rfl,rfl,rfl,by simp[World.setRow],fun k _ hn=>by
  simp only[World.setRow,Array.getElem?_modify];rw[if_neg (by intro e;exact hn (by rw[e]))]⟩
theorem Sl.keptN {w w':World} {g:Nat} {v:Value} {xs:List Value} (h:Sl w v xs) (hg:w.grownBy w' (some g)) (hv:∀a n c,v=.slice (some a) n c→a.block≠g):Sl w' v xs:=by
 obtain⟨a,cap,rfl,h2,h3,h4,h5⟩:=h;refine⟨a,cap,rfl,h2,h3,h4,fun x hx j u hu=>?_⟩;subst hx;have h1:=h5 x rfl j u hu;have hb:=zA11 w (x.add j) h1;have hs:(x.add j).spot=none:=World.cell?_spot h1;have Uo:(x.add j).block=x.block:=zaP;have e:(x.add j)=⟨x.block,(x.add j).off,none⟩:=(by rw[←Uo,←hs]);rw[e]at h1⊢;exact hg.cell h1 (by intro q;cases q;exact hv _ _ _ rfl rfl)
theorem fH {w w':World} {g base:Nat} {e:TypeId} {size:Nat} {v:Value} {n:Nat} {xs:List Value} (h:w.ownsRow base e size v n xs) (hg:w.grownBy w' (some g)) (rW:v.ownBlock≠some g):w'.ownsRow base e size v n xs:=
 h.kept hg (.inr rW)
theorem uE {g:Nat}:∀(cs:List Value) (o:Nat) (w:World),(w.setCells g o cs).heap.size=w.heap.size
 | [],_,_=>rfl
 |c::cs,o,w=>by rw[World.setCells,uE cs (o+1)];simp[World.setCell]
section
variable {P:Program} {Q:Exit→Act→World→Prop}
theorem aD {w:World} {ops:Array Oper} {rest:List Oper} {o:Oper} {a:Act} (qi:o.guard=none) (ty:TypeId) (x y:Operand) (ho:o.op=.store ty x y)
 (g:Nat) (ys:List Value) (hx:a.eval x=.pointer (some ⟨g,0,none⟩)) (hy:a.eval y=.agg ys.toArray) (xs:List Value) (hg:Arr w g xs) (hi:(P.info? ty).map (·.size)=some ys.length)
 (FJ:xs.length=ys.length) (h1:∀v∈ys,v.oneCell'=true)
 (h:∀W,Arr W g ys→w.grownBy W (some g)→W.heap.size=w.heap.size→wpList P ops Q rest (a.put o.dst undef) W):wpList P ops Q (o::rest) a w:=
 aQ qi ty x y ho g ys hx hy xs hg hi FJ h1 (h _ (hg.setRow ys) (mW w g _) zaQ)
theorem jm {C:Code} {a:Act} {w:World} {g j:Nat} {xs:List Value} {u:Value} (hg:Arr w g xs)
 (h:∀W,Arr W g (xs.set j u)→w.grownBy W (some g)→W.heap.size=w.heap.size→Code.wp P C Q a W):Code.wp P C Q a (w.setCell ⟨g,j,none⟩ u):=
 h _ (hg.set j u) (bY w g j u) zaR
theorem eU {w:World} {ops:Array Oper} {rest:List Oper} {o:Oper} {a:Act} (qi:o.guard=none) (ty:TypeId) (x y:Operand) (ho:o.op=.store ty x y)
 (g off:Nat) (cs:List Value) (hx:a.eval x=.pointer (some ⟨g,off,none⟩)) (hy:a.eval y=.agg cs.toArray) (xs:List Value) (hg:Arr w g xs) (hi:(P.info? ty).map (·.size)=some cs.length)
 (uV:off+cs.length≤xs.length) (h1:∀v∈cs,v.oneCell'=true)
 (h:∀W,Arr W g (gJ off cs xs)→w.grownBy W (some g)→wpList P ops Q rest (a.put o.dst undef) W):wpList P ops Q (o::rest) a w:=
 uK qi ty x y ho g off cs hx hy xs hg hi uV h1 (fun W h1 _ _ h4=>h W h1 h4)
theorem Og {v:Value} (h:v.oneCell'=true):v.cells=#[v]:=by
 cases v<;>first|rfl|simp[Value.oneCell']at h
theorem py {w:World} {ty:TypeId} {g j:Nat} {xs:List Value} {u:Value} (hg:Arr w g xs) (hj:j<xs.length) (hi:(P.info? ty).map (·.size)=some 1) (hu:u.oneCell'=true):
 (Instr.storeAt ty (.pointer (some ⟨g,j,none⟩)) u).run P w=.ok () (w.setCell ⟨g,j,none⟩ u):=by
 have hc:=hg.cell (zA7 hj);have hf:=hg.frozen j;cases hq:P.info? ty with
 |none=>simp[hq]at hi
 |some i=>
  have hs:i.size=1:=(by simpa[hq]using hi);simp[Instr.storeAt,Instr.sureAddr,storeVar,Og hu,sizeOf,typeInfo,hq,hs,storeCells,run_store P _ _ u _ hu,Addr.add_zero',hc,hf,Result.andThen]
theorem bM {w:World} {ops:Array Oper} {rest:List Oper} {o:Oper} {a:Act} (qi:o.guard=none) (ty:TypeId) (x y:Operand) (ho:o.op=.store ty x y)
 (g j:Nat) (u:Value) (hx:a.eval x=.pointer (some ⟨g,j,none⟩)) (hy:a.eval y=u) (xs:List Value) (hg:Arr w g xs) (hi:(P.info? ty).map (·.size)=some 1) (hj:j<xs.length) (hu:u.oneCell'=true)
 (h:∀W,Arr W g (xs.set j u)→w.grownBy W (some g)→W.heap.size=w.heap.size→wpList P ops Q rest (a.put o.dst undef) W):wpList P ops Q (o::rest) a w:=by
 refine wpList_plain qi fun K hK=>?_;unfold Oper.wp execOp;simp only[ho,hx,hy,Sem.run_bind,Sem.run_pure,Result.andThen_ok,py hg hj hi hu];exact hK _ _ (h _ (hg.set j u) (bY w g j u) zaR)
theorem br {l:List Oper} {o:Oper} {a:Act} {w:World} {K:Act→World→Prop} {E:Prop} (hw:Region.wanted o (yielded l.toArray a.tmps)=true) (ty:TypeId) (x y:Operand) (ho:o.op=.store ty x y)
 (g j:Nat) (u:Value) (hx:a.eval x=.pointer (some ⟨g,j,none⟩)) (hy:a.eval y=u) (xs:List Value) (hg:Arr w g xs) (hi:(P.info? ty).map (·.size)=some 1) (hj:j<xs.length) (hu:u.oneCell'=true)
 (h:∀W,Arr W g (xs.set j u)→w.grownBy W (some g)→W.heap.size=w.heap.size→K (a.put o.dst undef) W):if Region.wanted o (yielded l.toArray a.tmps)=true then Oper.wp P o a w K Q else E:=by
 rw[if_pos hw];unfold Oper.wp execOp;simp only[ho,hx,hy,Sem.run_bind,Sem.run_pure,Result.andThen_ok,py hg hj hi hu];exact h _ (hg.set j u) (bY w g j u) zaR
theorem gg {l:List Oper} {o:Oper} {a:Act} {w:World} {K:Act→World→Prop} {E:Prop} (qi:o.guard=none) (ty:TypeId) (x y:Operand) (ho:o.op=.store ty x y)
 (g:Nat) (ys:List Value) (hx:a.eval x=.pointer (some ⟨g,0,none⟩)) (hy:a.eval y=.agg ys.toArray) (xs:List Value) (hg:Arr w g xs) (hi:(P.info? ty).map (·.size)=some ys.length)
 (FJ:xs.length=ys.length) (h1:∀v∈ys,v.oneCell'=true) (h:∀W,Arr W g ys→w.grownBy W (some g)→W.heap.size=w.heap.size→K (a.put o.dst undef) W):
 if Region.wanted o (yielded l.toArray a.tmps)=true then Oper.wp P o a w K Q else E:=
 bJ qi ty x y ho g ys hx hy xs hg hi FJ h1 (h _ (hg.setRow ys) (mW w g _) zaQ)
theorem Gs {l:List Oper} {o:Oper} {a:Act} {w:World} {K:Act→World→Prop} {E:Prop} (hw:Region.wanted o (yielded l.toArray a.tmps)=true) (ty:TypeId) (x y:Operand) (ho:o.op=.store ty x y)
 (g off:Nat) (cs:List Value) (hx:a.eval x=.pointer (some ⟨g,off,none⟩)) (hy:a.eval y=.agg cs.toArray) (xs:List Value) (hg:Arr w g xs) (hi:(P.info? ty).map (·.size)=some cs.length)
 (uV:off+cs.length≤xs.length) (h1:∀v∈cs,v.oneCell'=true)
 (h:∀W,Arr W g (gJ off cs xs)→w.grownBy W (some g)→W.heap.size=w.heap.size→K (a.put o.dst undef) W):if Region.wanted o (yielded l.toArray a.tmps)=true then Oper.wp P o a w K Q else E:=by
 rw[if_pos hw];refine wp_store_mid ty x y ho g off cs.toArray hx hy (by simpa using hg.there uV) zag (all_oneCell_toArray h1) ?_;exact h _ (Arr.setCells _ _ hg (by simpa using uV)) (By _ _ _) (uE _ _ _)
end
theorem gQ {n:Nat} {w0 w w':World} {g:Nat} (h:Below n w0 w) (hg:w.grownBy w' (some g)) (hn:n≤g) (hs:n≤w.heap.size):Below n w0 w':=aq h hg hn hs
theorem Wj {x r:Nat} (hx:x<4294967296) (hr:rl x 25=r) (w:World):
 CB 240 #[.int .u32 (x:Int),.int .i64 (-7)] w (.int .u32 (r:Int)):=by
 have h0:bits .and .u64 (IntKind.u64.wrap (-7)) 31=25:=zDc;have h2:bits .or .u32 ((x:Int)*33554432%4294967296) ((x:Int)/128)=((rl x 25:Nat):Int):=by
  have:=fp (a:=x*33554432%4294967296) (b:=x/128) (zA1 _ zDc) (zA9 (zA21 _ _) hx);rw[show((x:Int)*33554432%4294967296)=((x*33554432%4294967296:Nat):Int) by omega,show((x:Int)/128)=((x/128:Nat):Int) by omega];exact this
 exact zc9
theorem SU {x r:Nat} (hx:x<4294967296) (hr:rl x 14=r) (w:World):
 CB 240 #[.int .u32 (x:Int),.int .i64 (-18)] w (.int .u32 (r:Int)):=by
 have h0:bits .and .u64 (IntKind.u64.wrap (-18)) 31=14:=zDc;have h2:bits .or .u32 ((x:Int)*16384%4294967296) ((x:Int)/262144)=((rl x 14:Nat):Int):=by
  have:=fp (a:=x*16384%4294967296) (b:=x/262144) (zA1 _ zDc) (zA9 (zA21 _ _) hx);rw[show((x:Int)*16384%4294967296)=((x*16384%4294967296:Nat):Int) by omega,show((x:Int)/262144)=((x/262144:Nat):Int) by omega];exact this
 exact zc9
theorem SR {x r:Nat} (hx:x<4294967296) (hr:rl x 15=r) (w:World):
 CB 240 #[.int .u32 (x:Int),.int .i64 (-17)] w (.int .u32 (r:Int)):=by
 have h0:bits .and .u64 (IntKind.u64.wrap (-17)) 31=15:=zDc;have h2:bits .or .u32 ((x:Int)*32768%4294967296) ((x:Int)/131072)=((rl x 15:Nat):Int):=by
  have:=fp (a:=x*32768%4294967296) (b:=x/131072) (zA1 _ zDc) (zA9 (zA21 _ _) hx);rw[show((x:Int)*32768%4294967296)=((x*32768%4294967296:Nat):Int) by omega,show((x:Int)/131072)=((x/131072:Nat):Int) by omega];exact this
 exact zc9
theorem SV {x r:Nat} (hx:x<4294967296) (hr:rl x 13=r) (w:World):
 CB 240 #[.int .u32 (x:Int),.int .i64 (-19)] w (.int .u32 (r:Int)):=by
 have h0:bits .and .u64 (IntKind.u64.wrap (-19)) 31=13:=zDc;have h2:bits .or .u32 ((x:Int)*8192%4294967296) ((x:Int)/524288)=((rl x 13:Nat):Int):=by
  have:=fp (a:=x*8192%4294967296) (b:=x/524288) (zA1 _ zDc) (zA9 (zA21 _ _) hx);rw[show((x:Int)*8192%4294967296)=((x*8192%4294967296:Nat):Int) by omega,show((x:Int)/524288)=((x/524288:Nat):Int) by omega];exact this
 exact zc9
theorem Wi {x r:Nat} (hx:x<4294967296) (hr:rl x 26=r) (w:World):
 CB 240 #[.int .u32 (x:Int),.int .i64 (-6)] w (.int .u32 (r:Int)):=by
 have h0:bits .and .u64 (IntKind.u64.wrap (-6)) 31=26:=zDc;have h2:bits .or .u32 ((x:Int)*67108864%4294967296) ((x:Int)/64)=((rl x 26:Nat):Int):=by
  have:=fp (a:=x*67108864%4294967296) (b:=x/64) (zA1 _ zDc) (zA9 (zA21 _ _) hx);rw[show((x:Int)*67108864%4294967296)=((x*67108864%4294967296:Nat):Int) by omega,show((x:Int)/64)=((x/64:Nat):Int) by omega];exact this
 exact zc9
theorem SP {x r:Nat} (hx:x<4294967296) (hr:rl x 21=r) (w:World):
 CB 240 #[.int .u32 (x:Int),.int .i64 (-11)] w (.int .u32 (r:Int)):=by
 have h0:bits .and .u64 (IntKind.u64.wrap (-11)) 31=21:=zDc;have h2:bits .or .u32 ((x:Int)*2097152%4294967296) ((x:Int)/2048)=((rl x 21:Nat):Int):=by
  have:=fp (a:=x*2097152%4294967296) (b:=x/2048) (zA1 _ zDc) (zA9 (zA21 _ _) hx);rw[show((x:Int)*2097152%4294967296)=((x*2097152%4294967296:Nat):Int) by omega,show((x:Int)/2048)=((x/2048:Nat):Int) by omega];exact this
 exact zc9
theorem SX {x r:Nat} (hx:x<4294967296) (hr:rl x 7=r) (w:World):
 CB 240 #[.int .u32 (x:Int),.int .i64 (-25)] w (.int .u32 (r:Int)):=by
 have h0:bits .and .u64 (IntKind.u64.wrap (-25)) 31=7:=zDc;have h2:bits .or .u32 ((x:Int)*128%4294967296) ((x:Int)/33554432)=((rl x 7:Nat):Int):=by
  exact zdg
 exact zc9
theorem Wh {x r:Nat} (hx:x<4294967296) (hr:rl x 30=r) (w:World):
 CB 240 #[.int .u32 (x:Int),.int .i64 (-2)] w (.int .u32 (r:Int)):=by
 have h0:bits .and .u64 (IntKind.u64.wrap (-2)) 31=30:=zDc;have h2:bits .or .u32 ((x:Int)*1073741824%4294967296) ((x:Int)/4)=((rl x 30:Nat):Int):=by
  have:=fp (a:=x*1073741824%4294967296) (b:=x/4) (zA1 _ zDc) (zA9 (zA21 _ _) hx);rw[show((x:Int)*1073741824%4294967296)=((x*1073741824%4294967296:Nat):Int) by omega,show((x:Int)/4)=((x/4:Nat):Int) by omega];exact this
 exact zc9
theorem SQ {x r:Nat} (hx:x<4294967296) (hr:rl x 19=r) (w:World):
 CB 240 #[.int .u32 (x:Int),.int .i64 (-13)] w (.int .u32 (r:Int)):=by
 have h0:bits .and .u64 (IntKind.u64.wrap (-13)) 31=19:=zDc;have h2:bits .or .u32 ((x:Int)*524288%4294967296) ((x:Int)/8192)=((rl x 19:Nat):Int):=by
  have:=fp (a:=x*524288%4294967296) (b:=x/8192) (zA1 _ zDc) (zA9 (zA21 _ _) hx);rw[show((x:Int)*524288%4294967296)=((x*524288%4294967296:Nat):Int) by omega,show((x:Int)/8192)=((x/8192:Nat):Int) by omega];exact this
 exact zc9
theorem SW {x r:Nat} (hx:x<4294967296) (hr:rl x 10=r) (w:World):
 CB 240 #[.int .u32 (x:Int),.int .i64 (-22)] w (.int .u32 (r:Int)):=by
 have h0:bits .and .u64 (IntKind.u64.wrap (-22)) 31=10:=zDc;have h2:bits .or .u32 ((x:Int)*1024%4294967296) ((x:Int)/4194304)=((rl x 10:Nat):Int):=by
  have:=fp (a:=x*1024%4294967296) (b:=x/4194304) (zA1 _ zDc) (zA9 (zA21 _ _) hx);rw[show((x:Int)*1024%4294967296)=((x*1024%4294967296:Nat):Int) by omega,show((x:Int)/4194304)=((x/4194304:Nat):Int) by omega];exact this
 exact zc9
theorem Jg (x:Addr) (len cap:Nat) (bs:List UInt8) (w:World) (hl:bs.length=len) (hr:len≤140737488355328) (hc:Cells w x (aJ bs)):
 Calls Tryz.prog 137 #[.slice (some x) len cap] w fun e w'=>
  ∃v,e=.returned v∧w'.ownsRow w.heap.size 5 1 v len (aJ bs)∧Below w.heap.size w w'∧v≠.slice none 0 0:=by
 obtain⟨i,hi,jN,jA,jB⟩:=info_parts ig;have ZN:=fun(x:Option Addr) (n c:Nat)=>Lib.run_eql_slice_nil (P:=Tryz.prog) w 24 5 x n c 0 0 Tryz.underlying24;have Zj:Hid (Cells (w.alloc (.cells #[] 5)) x (aJ bs)):=hc.alloc _;clear hc;have hl':=zH hl;clear hl;go_enter Tryz.func137,Tryz.ntmps137;go_wp2_with(at_builtin;refine wpList_append_own _ rfl _ _ 24 rfl w.heap.size 5 i (.int .u8 0) 1 1 Tryz.underlying24 hi jN jA jB rfl zDc _ 0 [] rfl (World.ownsRow_made _ _ _ (zA0 _) (zA28 _) rfl) x len cap (aJ bs) rfl ?c1 Zj.out (dr bs) ?c2 ?c3 ?c4 ?_)
 case c1=>rw[ai];have:=hl'.out;omega
 case c2=>unfold maxLen;omega
 case c3=>omega
 case c4=>simp
 intro v' w' cf hg hn;go_wp2;go_ret;refine⟨v',rfl,by simpa using cf,((zA6 _ _).alloc (zA0 _) _).grown hg zac ?_,?_⟩
 ·intro k hk;simp[Value.ownBlock]at hk;omega
 ·exact hn
theorem D8 (w:World):Calls Tryz.prog 137 #[.slice none 0 0] w fun e w'=>e=.returned (.slice none 0 0)∧w'=w:=by
 have ZN:=fun(x:Option Addr) (n c:Nat)=>Lib.run_eql_slice_nil (P:=Tryz.prog) w 24 5 x n c 0 0 Tryz.underlying24;go_enter Tryz.func137,Tryz.ntmps137;go_wp2;go_ret;exact⟨rfl,rfl⟩
theorem jy (vb:Value) (bs:List UInt8) (w:World) (hb:Sl w vb (aJ bs)) (hr:bs.length≤140737488355328):
 Calls Tryz.prog 137 #[vb] w fun e w'=>∃v,e=.returned v∧w'.ownsRow w.heap.size 5 1 v bs.length (aJ bs)∧Below w.heap.size w w'∧(v=.slice none 0 0↔vb=.slice none 0 0):=by
 obtain⟨a,cap,rfl,h2,h3,h4,h5⟩:=hb;rw[ai]at*;cases a with
 |none=>
  obtain rfl:=h4 rfl;have:bs=[]:=List.eq_nil_of_length_eq_zero zOm;subst this;refine(D8 w).mono ?_;rintro e w' ⟨rfl,rfl⟩;exact⟨_,rfl,World.ownsRow_nil _ _ _ _,zA6 _ _,by simp⟩
 |some x=>
  refine(Jg x bs.length cap bs w rfl hr (h5 x rfl)).mono ?_;rintro e w' ⟨v,rfl,h6,h7,h8⟩;exact⟨v,rfl,h6,h7,by simp[h8]⟩
end Go.Proofs.YtgfkgolafkdjfaaGreatDoor
