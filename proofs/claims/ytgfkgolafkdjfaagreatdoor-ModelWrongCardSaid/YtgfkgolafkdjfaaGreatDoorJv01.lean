/- ModelWrong: part 1 of its proof: lemmas and contracts, each with its conditions in its own statement; the last part holds the law itself. -/
import Derived.Test.YtgfkgolafkdjfaaGreatDoorJv00
import Derived.WalkKit
import Derived.WalkSpells
import Derived.WalkLawsBesides
import Derived.Lib.Hide
import Derived.Deep.DeepFit
import Derived.Deep.LoopGhost
import Derived.Laws.ResultCell

set_option maxHeartbeats 4000000
set_option maxRecDepth 100000
namespace Go.Proofs.YtgfkgolafkdjfaaGreatDoor
open Go.RowKit
def aJ (bs:List UInt8):List Value:=bs.map fun b=>.int .u8 b.toNat
theorem dr (bs:List UInt8):∀u∈aJ bs,u.oneCell'=true:=by
 intro u hu;obtain⟨_,_,rfl⟩:=List.mem_map.1 hu;rfl
theorem ai (bs:List UInt8):(aJ bs).length=bs.length:=by simp[aJ]
theorem bE (a b:List UInt8):aJ (a++b)=aJ a++aJ b:=by simp[aJ]
theorem eY (bs:List UInt8) (j:Nat) (h:j<bs.length):(aJ bs)[j]? =some (.int .u8 bs[j].toNat):=by
 simp[aJ,zA7 h]
def Cells (w:World) (x:Addr) (vs:List Value):Prop:=∀j u,vs[j]? =some u→w.cell? (x.add j)=some u
def Sl (w:World) (v:Value) (vs:List Value):Prop:=
 ∃a cap,v=.slice a vs.length cap∧vs.length≤cap∧cap≤maxLen∧(a=none→cap=0)∧∀x,a=some x→Cells w x vs
theorem Cells.below {w w':World} {x:Addr} {vs:List Value} (h:Cells w x vs) (hb:Below w.heap.size w w'):Cells w' x vs:=by
 intro j u hu;have h1:=h j u hu;rw[hb.cell (zA11 w (x.add j) h1)];exact h1
theorem Sl.below {w w':World} {v:Value} {vs:List Value} (h:Sl w v vs) (hb:Below w.heap.size w w'):Sl w' v vs:=by
 obtain⟨a,cap,h1,h2,h3,h4,h5⟩:=h;exact⟨a,cap,h1,h2,h3,h4,fun x hx=>(h5 x hx).below hb⟩
theorem ae (w:World) (o:Obj):Below w.heap.size w (w.alloc o):=(zA6 _ _).alloc (zA0 _) o
theorem Cells.alloc {w:World} {x:Addr} {vs:List Value} (h:Cells w x vs) (o:Obj):Cells (w.alloc o) x vs:=h.below (ae w o)
theorem Sl.alloc {w:World} {v:Value} {vs:List Value} (h:Sl w v vs) (o:Obj):Sl (w.alloc o) v vs:=h.below (ae w o)
theorem Sl.nil (w:World):Sl w (.slice none 0 0) []:=⟨none,0,rfl,zA0 _,zA28 _,fun _=>rfl,fun x h=>by cases h⟩
theorem Sl.at {w:World} {a:Option Addr} {n cap:Nat} {vs:List Value} (h:Sl w (.slice a n cap) vs) (h0:0<vs.length):
 ∃b o,a=some ⟨b,o,none⟩∧n=vs.length∧n≤cap∧cap≤maxLen∧∀j u,vs[j]? =some u→w.cell? ⟨b,o+j,none⟩=some u:=by
 obtain⟨a',cap',e1,h2,h3,h4,h5⟩:=h;simp only[Value.slice.injEq]at e1;obtain⟨rfl,rfl,rfl⟩:=e1;cases a with
 |none=>have:=h4 rfl;omega
 |some x=>
  have hc:=h5 x rfl;obtain⟨b,o,s⟩:=x;have hs:s=none:=by
   have:=hc 0 vs[0] (zA7 h0);rw[Addr.add_zero']at this;exact World.cell?_spot this
  subst hs;refine⟨b,o,rfl,rfl,h2,h3,fun j u hu=>?_⟩;have:=hc j u hu;rwa[Addr.add_lit]at this
theorem Sl.len {w:World} {a:Option Addr} {n cap:Nat} {vs:List Value} (h:Sl w (.slice a n cap) vs):n=vs.length∧n≤cap∧cap≤maxLen:=by
 obtain⟨a',cap',e1,h2,h3,h4,h5⟩:=h;simp only[Value.slice.injEq]at e1;obtain⟨rfl,rfl,rfl⟩:=e1;exact⟨rfl,h2,h3⟩
theorem Sl.of_own {w:World} {base:Nat} {e:TypeId} {v:Value} {n:Nat} {xs:List Value} (h:w.ownsRow base e 1 v n xs):Sl w v xs:=by
 obtain⟨hl,hr⟩:=h;rw[Nat.mul_one]at hl;rcases hr with⟨rfl,rfl⟩|⟨g,cap,cur,rfl,hb,hg,h1,h2,h3,h4⟩
 ·have:xs=[]:=List.eq_nil_of_length_eq_zero hl;subst this;exact Sl.nil w
 ·refine⟨some ⟨g,0,none⟩,cap,by rw[hl],by omega,h2,fun h=>zaa,fun x hx=>?_⟩;cases hx;exact World.ownsRow.cells (w:=w) (base:=base) (e:=e) (size:=1) (v:=.slice (some ⟨g,0,none⟩) n cap) (n:=n) (xs:=xs) ⟨by omega,.inr ⟨g,cap,cur,rfl,hb,hg,h1,h2,h3,h4⟩⟩ rfl
theorem dg {w w':World} {base:Nat} {e:TypeId} {size:Nat} {v:Value} {n:Nat} {xs:List Value} (h:w.ownsRow base e size v n xs) (hb:Below w.heap.size w w'):w'.ownsRow base e size v n xs:=by
 refine⟨h.1,?_⟩;rcases h.2 with hn|⟨g,cap,cur,rfl,jW,hg,rest⟩
 ·exact .inl hn
 ·refine .inr ⟨g,cap,cur,rfl,jW,?_,rest⟩;rw[hb.block g (Array.getElem?_eq_some_iff.1 hg).1];exact hg
theorem ej {w:World} {base base':Nat} {e:TypeId} {size:Nat} {v:Value} {n:Nat} {xs:List Value} (h:w.ownsRow base e size v n xs) (hb:base'≤base):w.ownsRow base' e size v n xs:=by
 refine⟨h.1,?_⟩;rcases h.2 with hn|⟨g,cap,cur,rfl,jW,rest⟩
 ·exact .inl hn
 ·exact .inr ⟨g,cap,cur,rfl,by omega,rest⟩
theorem gj {w:World} {base:Nat} {e:TypeId} {size:Nat} {v:Value} {n:Nat} {xs:List Value} (h:w.ownsRow base e size v n xs):∀k,v.ownBlock=some k→base≤k:=
 fun k hk=>(h.lt k hk).1
theorem f9 {B:Nat} {w wr w':World} {e:TypeId} {size:Nat} {v:Value} {n:Nat} {xs:List Value} (hb:Below B w wr) (cf:wr.ownsRow B e size v n xs) (hB:B≤wr.heap.size) (hg:wr.grownBy w' v.ownBlock):Below B w w':=
 hb.grown hg hB (gj cf)
theorem Fa {B:Nat} {w wr w':World} {e:TypeId} {size:Nat} {v:Value} {n:Nat} {xs:List Value} {o:Obj} (hb:Below B w wr) (cf:wr.ownsRow B e size v n xs) (hB:B≤wr.heap.size) (hg:(wr.alloc o).grownBy w' v.ownBlock):Below B w w':=
 (hb.alloc hB o).grown hg zab (gj cf)
theorem D7 (w:World) (o:Value) (T:TypeId):Cells (w.alloc (.cells #[o] T)) ⟨w.heap.size,0,none⟩ [o]:=by
 intro j u hu;cases j with
 |zero=>
  simp at hu;subst hu;rw[Addr.add_lit,World.cell?_alloc_at _ _ _ _ rfl];rfl
 |succ j=>simp at hu
theorem Sl.new1 (w:World) (o:Value) (T:TypeId):Sl (w.alloc (.cells #[o] T)) (.slice (some ⟨w.heap.size,0,none⟩) 1 1) [o]:=
 ⟨_,1,rfl,zA0 _,by decide,fun h=>zaa,fun x hx=>by cases hx;exact D7 w o T⟩
theorem mG {P:Program} {w:World} {base:Nat} (t ty e:TypeId) {i:TypeInfo} {z:Value} {bytes:Nat} (ht:P.underlying t=some (.slice e)) (hi:P.info? e=some i) (hz:i.zero=some z)
 (qj:i.size=1) (tG:i.bytes=bytes) (Pp:z.cells.size=1) {v:Value} {n:Nat} {xs:List Value} (cf:w.ownsRow base e 1 v n xs) {vx:Value} {news:List Value} (hx:Sl w vx news)
 (h1:∀u∈news,u.oneCell'=true) (Nh:n+news.length≤maxLen) (mY:(n+news.length)*bytes≤140737488355328) (ut:base≤w.heap.size):
 ∃v' w',(Builtin.append_ #[t,t] ty #[v,vx]).run P w=.ok v' w'∧w'.ownsRow base e 1 v' (n+news.length) (xs++news)∧w.grownBy w' v.ownBlock:=by
 obtain⟨a,cap,rfl,h2,h3,h4,h5⟩:=hx;cases a with
 |none=>
  obtain rfl:=h4 rfl;have:news=[]:=List.eq_nil_of_length_eq_zero zOm;subst this;refine⟨v,w,run_append_owned_none (P:=P) w base t ty e i 1 ht hi v n xs cf,by simpa using cf,World.grownBy.refl _ _⟩
 |some x=>
  obtain⟨v',w',r1,r2,r3,-⟩:=run_append_own (P:=P) w base t ty e i z 1 bytes ht hi hz qj tG Pp zDc v n xs cf x news.length cap news zac (h5 x rfl) h1 Nh mY ut;exact⟨v',w',r1,r2,r3⟩
theorem dO {P:Program} {w:World} {ops:Array Oper} {rest:List Oper} {o:Oper} {a:Act} {Q:Exit→Act→World→Prop} (qi:o.guard=none) (s x:Operand) (t:TypeId)
 (ho:o.op=.call {callee:=.builtin .append,args:=#[s,x],argTypes:=#[t,t]})
 (base:Nat) (e:TypeId) {i:TypeInfo} {z:Value} {bytes:Nat} (ht:P.underlying t=some (.slice e)) (hi:P.info? e=some i) (hz:i.zero=some z)
 (qj:i.size=1) (tG:i.bytes=bytes) (Pp:z.cells.size=1) (v:Value) (n:Nat) (xs:List Value) (hs:a.eval s=v) (cf:w.ownsRow base e 1 v n xs) (vx:Value) (news:List Value) (hx:a.eval x=vx) (dI:Sl w vx news)
 (h1:∀u∈news,u.oneCell'=true) (Nh:n+news.length≤maxLen) (mY:(n+news.length)*bytes≤140737488355328) (ut:base≤w.heap.size)
 (h:∀v' w',w'.ownsRow base e 1 v' (n+news.length) (xs++news)→w.grownBy w' v.ownBlock→wpList P ops Q rest (a.put o.dst v') w'):wpList P ops Q (o::rest) a w:=by
 refine wpList_plain qi fun K hK=>?_;exact zdC
theorem eJ {P:Program} {w:World} {ops:Array Oper} {o:Oper} {a:Act} {K:Act→World→Prop} {Q:Exit→Act→World→Prop} {E:Prop} (qi:o.guard=none) (s x:Operand) (t:TypeId)
 (ho:o.op=.call {callee:=.builtin .append,args:=#[s,x],argTypes:=#[t,t]})
 (base:Nat) (e:TypeId) {i:TypeInfo} {z:Value} {bytes:Nat} (ht:P.underlying t=some (.slice e)) (hi:P.info? e=some i) (hz:i.zero=some z)
 (qj:i.size=1) (tG:i.bytes=bytes) (Pp:z.cells.size=1) (v:Value) (n:Nat) (xs:List Value) (hs:a.eval s=v) (cf:w.ownsRow base e 1 v n xs) (vx:Value) (news:List Value) (hx:a.eval x=vx) (dI:Sl w vx news)
 (h1:∀u∈news,u.oneCell'=true) (Nh:n+news.length≤maxLen) (mY:(n+news.length)*bytes≤140737488355328) (ut:base≤w.heap.size)
 (h:∀v' w',w'.ownsRow base e 1 v' (n+news.length) (xs++news)→w.grownBy w' v.ownBlock→K (a.put o.dst v') w'):if Region.wanted o (yielded ops a.tmps)=true then Oper.wp P o a w K Q else E:=by
 rw[if_pos zad];obtain⟨v',w',hr,h2,h3⟩:=mG (P:=P) t o.type e ht hi hz qj tG Pp cf dI h1 Nh mY ut;unfold Oper.wp execOp;simp only[ho,resolve,invoke,builtin,Sem.run_bind,Sem.run_pure,Result.andThen_ok,List.map_toArray,List.map_cons,List.map_nil,hs,hx,hr];exact h v' w' h2 h3
theorem mH {P:Program} {w:World} {v:Value} {bs:List UInt8} (h:Sl w v (aJ bs)) (src e dst:TypeId) (hs:P.underlying src=some (.slice e)) (he:P.underlying e=some (.int .u8)) (hd:P.underlying dst=some .string):
 (convert src dst v).run P w=.ok (.string ⟨bs.toArray⟩) w:=by
 obtain⟨a,cap,rfl,h2,h3,h4,h5⟩:=id h;cases a with
 |none=>
  have:=h4 rfl;have hb:bs=[]:=List.eq_nil_of_length_eq_zero (by rw[ai]at h2;omega);subst hb;rw[run_convert_bytes_nil w src e hs he _ _ dst hd];rfl
 |some x=>
  have hx:=h5 x rfl;have hl:(loadCells x bs.length).run P w=.ok ((bs.map fun b=>(b.toNat:Int)).map (Value.int .u8)).toArray w:=by
   have:=run_loadCells_list (P:=P) w x (aJ bs) hx;rw[ai]at this;rw[this];simp[aJ,List.map_map,Function.comp_def]
  rw[run_convert_bytes_string w src dst e _ _ _ hs he hd,ai,run_bytesToString w x _ _ _ hl,foldl_push_bytes];have e:(List.map (fun n=>UInt8.ofNat n.toNat) (List.map (fun b=>(b.toNat:Int)) bs))=bs:=by
   rw[List.map_map]
   conv=>rhs;rw[←List.map_id bs]
   apply List.map_congr_left;intro b _;simp
  rw[e,show ByteArray.empty.data=#[]from rfl,Array.empty_append]
def Sls (w:World) (v:Value) (ls:List (List UInt8)):Prop:=
 ∃vs,Sl w v vs∧vs.length=ls.length∧∀(j:Nat) (a:Value) (b:List UInt8),vs[j]? =some a→ls[j]? =some b→Sl w a (aJ b)
theorem Sls.below {w w':World} {v:Value} {ls:List (List UInt8)} (h:Sls w v ls) (hb:Below w.heap.size w w'):Sls w' v ls:=by
 obtain⟨vs,h1,h2,h3⟩:=h;exact⟨vs,h1.below hb,h2,fun j a b ha jW=>(h3 j a b ha jW).below hb⟩
theorem Sls.len {w:World} {a:Option Addr} {n cap:Nat} {ls:List (List UInt8)} (h:Sls w (.slice a n cap) ls):n=ls.length∧n≤cap∧cap≤maxLen:=by
 obtain⟨vs,h1,h2,-⟩:=h;have:=h1.len;omega
theorem Sls.at {w:World} {a:Option Addr} {n cap:Nat} {ls:List (List UInt8)} (h:Sls w (.slice a n cap) ls) {j:Nat} (hj:j<ls.length):
 ∃b o x c,a=some ⟨b,o,none⟩∧w.cell? ⟨b,o+j,none⟩=some (.slice x ls[j].length c)∧Sl w (.slice x ls[j].length c) (aJ ls[j]):=by
 obtain⟨vs,h1,h2,h3⟩:=h;obtain⟨b,o,rfl,hn,-,-,hc⟩:=h1.at zOm;have hv:vs[j]? =some vs[j]:=zA7 zOm;have h4:=h3 j vs[j] ls[j] hv (zA7 hj);obtain⟨x,c,e1,r⟩:=h4;rw[ai]at e1;refine⟨b,o,x,c,rfl,?_,?_⟩
 ·rw[←e1];exact hc j _ hv
 ·exact⟨x,c,by rw[ai],r⟩
def bF (b k n:Nat):List Nat:=(List.range k).map fun i=>n/b^i%b
theorem bj (b k n:Nat):(bF b k n).length=k:=by simp[bF]
theorem eG (b k n i:Nat) (h:i<k):(bF b k n)[i]? =some (n/b^i%b):=by simp[bF,h]
def part {α:Type} (k:Nat) (xs:List α) (z:α):List α:=xs.take k++List.replicate (xs.length-k) z
theorem ajV {α:Type} (k:Nat) (xs:List α) (z:α):(part k xs z).length=xs.length:=by
 simp only[part,zA5,zA15,List.length_replicate];omega
theorem CA {α:Type} (xs:List α) (z:α):part xs.length xs z=xs:=by simp[part]
theorem te {α:Type} (k j:Nat) (xs:List α) (z:α) (h:j<xs.length):(part k xs z)[j]? =if j<k then xs[j]? else some z:=by
 unfold part
 by_cases hj:j<k
 ·rw[if_pos hj,zA12 zab,List.getElem?_take,if_pos hj]
 ·rw[if_neg hj,zA2 zab,List.getElem?_replicate,if_pos zab]
theorem CC {α:Type} {k:Nat} {xs:List α} {z u:α} (h:xs[k]? =some u):(part k xs z).set k u=part (k+1) xs z:=by
 have hk:k<xs.length:=(zA18.1 h).1;apply List.ext_getElem?;intro j
 by_cases hj:j<xs.length
 ·rw[List.getElem?_set,te k j xs z hj,te (k+1) j xs z hj,ajV]
  by_cases e:k=j
  ·subst e;rw[if_pos rfl,if_pos hk,if_pos zOm,h]
  ·rw[if_neg e]
   by_cases h2:j<k
   ·rw[if_pos h2,if_pos zOm]
   ·exact zfz
 ·rw[zA13 (by rw[zA23,ajV];omega),zA13 (by rw[ajV];omega)]
def jH (b k x y:Nat):Nat:=(x%b^k+y%b^k)/b^k
theorem uM (b x y:Nat):jH b 0 x y=0:=by simp[jH,Nat.mod_one]
theorem dv (b k x:Nat):x%b^(k+1)=x%b^k+b^k*(x/b^k%b):=by
 rw[zA24,Nat.mod_mul]
theorem sh (b k x y:Nat) (hb:0<b):jH b k x y≤1:=by
 unfold jH;have hp:0<b^k:=Nat.pow_pos hb;have h1:=zA1 x hp;have h2:=zA1 y hp;apply Nat.lt_succ_iff.1;rw[Nat.div_lt_iff_lt_mul hp];omega
theorem uL (b k x y:Nat) (hb:0<b):jH b (k+1) x y=(x/b^k%b+y/b^k%b+jH b k x y)/b:=by
 unfold jH;have hp:0<b^k:=Nat.pow_pos hb;rw[dv,dv,zA24,←zA22,
  show x%b^k+b^k*(x/b^k%b)+(y%b^k+b^k*(y/b^k%b))=(x%b^k+y%b^k)+b^k*(x/b^k%b+y/b^k%b) by rw[Nat.mul_add];omega,
  zA30 _ _ hp]
 congr 1;omega
theorem sf (b k x y:Nat) (hb:0<b):(x+y)/b^k%b=(x/b^k%b+y/b^k%b+jH b k x y)%b:=by
 have hp:0<b^k:=Nat.pow_pos hb;have hx:=Nat.div_add_mod x (b^k);have hy:=Nat.div_add_mod y (b^k);have e:x+y=(x%b^k+y%b^k)+b^k*(x/b^k+y/b^k):=(by rw[Nat.mul_add];omega);rw[e,zA30 _ _ hp];show(jH b k x y+(x/b^k+y/b^k))%b=_
 rw[Nat.add_comm (jH b k x y),Nat.add_mod (x/b^k%b+y/b^k%b),←Nat.add_mod (x/b^k),←Nat.add_mod]
theorem NR (n k:Nat):n/18446744073709551616^(k/8)%18446744073709551616/2^(8*(k%8))%256=n/256^k%256:=by
 have hr:k%8<8:=zA1 _ zDc;have hk:k=8*(k/8)+k%8:=zOm;have e1:(18446744073709551616:Nat)^(k/8)=256^(8*(k/8)):=zae;have e2:(2:Nat)^(8*(k%8))=256^(k%8):=zae;have e3:(18446744073709551616:Nat)=256^(k%8)*256^(8-k%8):=(by rw[←Nat.pow_add,show k%8+(8-k%8)=8 by omega]);have e4:(256:Nat)^k=256^(8*(k/8))*256^(k%8):=(by rw[←Nat.pow_add,←hk]);rw[e1,e2,e4,←zA22];generalize n/256^(8*(k/8))=m;have e5:m%18446744073709551616=m%(256^(k%8)*256^(8-k%8)):=(by rw[←e3]);rw[e5,Nat.mod_mul_right_div_self,Nat.mod_mod_of_dvd];exact Nat.dvd_of_pow_dvd (by omega:1≤8-k%8) (Nat.dvd_refl _) |>fun h=>by simpa using h
def fg (b k x y:Nat):Nat:=if x%b^k<y%b^k then 1 else 0
theorem zO (b x y:Nat):fg b 0 x y=0:=by simp[fg,Nat.mod_one]
theorem D1 (b k x y:Nat):fg b k x y≤1:=by unfold fg;split<;>omega
theorem zN (b k x y:Nat) (hb:0<b):fg b (k+1) x y=if x/b^k%b<y/b^k%b+fg b k x y then 1 else 0:=by
 have hp:0<b^k:=Nat.pow_pos hb;unfold fg;rw[dv,dv];generalize x/b^k%b=X;generalize y/b^k%b=Y;have h1:=zA1 x hp;have h2:=zA1 y hp;generalize x%b^k=r at h1⊢;generalize y%b^k=s at h2⊢;generalize b^k=P at hp h1 h2⊢;rcases Nat.lt_trichotomy X Y with h|h|h
 ·have:P*(X+1)≤P*Y:=Nat.mul_le_mul_left P h;rw[Nat.mul_add]at this;split<;>(split<;>split<;>omega)
 ·subst h;split<;>(split<;>split<;>omega)
 ·have:P*(Y+1)≤P*X:=Nat.mul_le_mul_left P h;rw[Nat.mul_add]at this;split<;>(split<;>split<;>omega)
theorem wh (b k m x y:Nat) (hb:0<b) (hk:k<m) (qk:y≤x+b^m):(x+b^m-y)/b^k%b=(x/b^k%b+b-y/b^k%b-fg b k x y)%b:=by
 have hp:0<b^k:=Nat.pow_pos hb;obtain⟨d,rfl⟩:∃d,m=k+1+d:=⟨m-(k+1),by omega⟩;have e:b^(k+1+d)=b^k*(b*b^d):=(by rw[Nat.pow_add,zA24,zA26]);rw[e]at qk⊢;have hx:=Nat.div_add_mod x (b^k);have hy:=Nat.div_add_mod y (b^k);have h1:=zA1 x hp;have h2:=zA1 y hp;have hX:=Nat.div_add_mod (x/b^k) b;have hY:=Nat.div_add_mod (y/b^k) b;have h3:=zA1 (x/b^k) hb;have h4:=zA1 (y/b^k) hb;unfold fg;generalize hxq:x/b^k=xq at*;generalize hyq:y/b^k=yq at*;generalize hxr:x%b^k=xr at*;generalize hyr:y%b^k=yr at*;clear hxq hyq hxr hyr;generalize b^k=P at*;generalize hXm:xq%b=X at*;generalize hYm:yq%b=Y at*;generalize xq/b=xh at*;generalize yq/b=yh at*;generalize hD:b^d=D at*;clear hXm hYm hD e;have key:∃q r,x+P*(b*D)-y=P*q+r∧r<P∧q+yq+(if xr<yr then 1 else 0)=xq+b*D:=by
  have hP1:∀u v,u+1≤v→P*u+P≤P*v:=fun u v h=>by have:=Nat.mul_le_mul_left P h;rwa[Nat.mul_add,Nat.mul_one]at this
  by_cases hb2:xr<yr
  ·have h5:yq+1≤xq+b*D:=by
    rcases Nat.lt_or_ge yq (xq+b*D)with h|h
    ·omega
    ·have:=Nat.mul_le_mul_left P h;rw[Nat.mul_add]at this;omega
   refine⟨xq+b*D-yq-1,P+xr-yr,?_,by omega,by rw[if_pos hb2];omega⟩;obtain⟨t,ht⟩:∃t,xq+b*D=yq+1+t:=⟨_,(Nat.add_sub_of_le h5).symm⟩;have h6:P*(xq+b*D)=P*yq+P+P*t:=(by rw[ht,Nat.mul_add,Nat.mul_add,Nat.mul_one]);rw[Nat.mul_add]at h6;rw[show xq+b*D-yq-1=t by omega];omega
  ·have h5:yq≤xq+b*D:=by
    rcases Nat.lt_or_ge (xq+b*D) yq with h|h
    ·have:=hP1 _ _ h;rw[Nat.mul_add]at this;omega
    ·omega
   refine⟨xq+b*D-yq,xr-yr,?_,by omega,by rw[if_neg hb2];omega⟩;obtain⟨t,ht⟩:∃t,xq+b*D=yq+t:=⟨_,(Nat.add_sub_of_le h5).symm⟩;have h6:P*(xq+b*D)=P*yq+P*t:=(by rw[ht,Nat.mul_add]);rw[Nat.mul_add]at h6;rw[show xq+b*D-yq=t by omega];omega
 obtain⟨q,r,h5,h6,h7⟩:=key;rw[h5,Nat.mul_add_div hp,zA32 h6,Nat.add_zero];have ahZ:(if xr<yr then 1 else 0)≤1:=(by split<;>omega);generalize (if xr<yr then 1 else 0)=B at*;have h8:q+b*(yh+1)=(X+b-Y-B)+b*(xh+D):=by
  rw[Nat.mul_add,Nat.mul_add,Nat.mul_one];omega
 have h9:=congrArg (· %b) h8;simpa only[zA27]using h9
theorem wP (j:Nat):(18446744073709551616:Nat)^j=256^(8*j):=by rw[Nat.pow_mul]
theorem Sd (n k j:Nat) (h:j<k/8):n%256^(k+1)/18446744073709551616^j%18446744073709551616=n%256^k/18446744073709551616^j%18446744073709551616:=by
 have hp:0<(18446744073709551616:Nat)^j:=Nat.pow_pos zDc;have e:(256:Nat)^k=18446744073709551616^j*(18446744073709551616*256^(k-8*j-8)):=by
  rw[wP,show(18446744073709551616:Nat)=256^8 by decide,←Nat.pow_add,←Nat.pow_add];congr 1;omega
 rw[dv,e,zA26,zA30 _ _ hp,zA26,zA27]
theorem aeq (n k:Nat):n%256^(k+1)/18446744073709551616^(k/8)%18446744073709551616=n%256^k/18446744073709551616^(k/8)+n/256^k%256*256^(k%8)∧
 n%256^k/18446744073709551616^(k/8)<256^(k%8)∧n%256^k/18446744073709551616^(k/8)+n/256^k%256*256^(k%8)<18446744073709551616:=by
 have hp:0<(18446744073709551616:Nat)^(k/8):=Nat.pow_pos zDc;have e:(256:Nat)^k=18446744073709551616^(k/8)*256^(k%8):=by
  rw[wP,←Nat.pow_add];congr 1;omega
 have h1:n%256^k/18446744073709551616^(k/8)<256^(k%8):=by
  rw[Nat.div_lt_iff_lt_mul hp,Nat.mul_comm,←e];exact zA1 _ (Nat.pow_pos zDc)
 have h2:n/256^k%256<256:=zA1 _ zDc;have h3:n%256^k/18446744073709551616^(k/8)+n/256^k%256*256^(k%8)<18446744073709551616:=by
  have h4:(n/256^k%256+1)*256^(k%8)≤256*256^(k%8):=Nat.mul_le_mul_right _ h2;have h5:256*256^(k%8)≤18446744073709551616:=by
   rw[Nat.mul_comm,←zA24,show(18446744073709551616:Nat)=256^8 by decide];exact Nat.pow_le_pow_right zDc zOm
  rw[Nat.add_mul,Nat.one_mul]at h4;omega
 refine⟨?_,h1,h3⟩;rw[dv]
 conv=>lhs;rw[show n%256^k+256^k*(n/256^k%256)=n%256^k+18446744073709551616^(k/8)*(256^(k%8)*(n/256^k%256)) by rw[←zA26,←e]]
 rw[zA30 _ _ hp,Nat.mul_comm (256^(k%8)),zA4 h3]
theorem Mq (n k j:Nat) (h:k/8<j):n%256^(k+1)/18446744073709551616^j%18446744073709551616=n%256^k/18446744073709551616^j%18446744073709551616:=by
 have h1:n%256^(k+1)<18446744073709551616^j:=by
  exact zfs
 have h2:n%256^k<18446744073709551616^j:=by
  exact zfs
 rw[zA32 h1,zA32 h2]
theorem i64_in {n:Int} (h: -9223372036854775808≤n∧n≤9223372036854775807):IntKind.i64.wrap n=n:=by
 simp[IntKind.wrap,IntKind.bits,IntKind.signed];split<;>omega
def Arr (w:World) (g:Nat) (xs:List Value):Prop:=∃T,w.heap[g]? =some (.cells xs.toArray T (0,0))
theorem Arr.lt {w:World} {g:Nat} {xs:List Value} (h:Arr w g xs):g<w.heap.size:=by
 obtain⟨T,h⟩:=h;exact(Array.getElem?_eq_some_iff.1 h).1
theorem Arr.cell {w:World} {g j:Nat} {xs:List Value} {u:Value} (h:Arr w g xs) (hj:xs[j]? =some u):w.cell? ⟨g,j,none⟩=some u:=by
 obtain⟨T,h⟩:=h;rw[cell_of_row w g j _ T _ h];simpa using hj
theorem Arr.frozen {w:World} {g:Nat} {xs:List Value} (h:Arr w g xs) (j:Nat):w.frozen? ⟨g,j,none⟩=false:=by
 obtain⟨T,h⟩:=h;simp[World.frozen?,h]
theorem Arr.set {w:World} {g:Nat} {xs:List Value} (h:Arr w g xs) (j:Nat) (u:Value):Arr (w.setCell ⟨g,j,none⟩ u) g (xs.set j u):=by
 obtain⟨T,h⟩:=h;refine⟨T,?_⟩;rw[heap_setCell_same w g j _ T u h];simp
theorem Arr.other {w:World} {g:Nat} {xs:List Value} (h:Arr w g xs) {a:Addr} (ha:g≠a.block) (u:Value):Arr (w.setCell a u) g xs:=by
 obtain⟨T,h⟩:=h;exact⟨T,by rw[heap_setCell_other w a g u ha];exact h⟩
theorem Arr.alloc {w:World} {g:Nat} {xs:List Value} (h:Arr w g xs) (o:Obj):Arr (w.alloc o) g xs:=by
 have:=h.lt;obtain⟨T,h⟩:=h;exact⟨T,by rw[Below.heap_alloc w o g this];exact h⟩
theorem Arr.new (w:World) (xs:Array Value) (T:TypeId):Arr (w.alloc (.cells xs T)) w.heap.size xs.toList:=⟨T,by rw[heap_alloc_new]⟩
theorem Arr.below {w w':World} {g:Nat} {xs:List Value} (h:Arr w g xs) (hb:Below w.heap.size w w'):Arr w' g xs:=by
 have:=h.lt;obtain⟨T,h⟩:=h;exact⟨T,by rw[hb.block g this];exact h⟩
theorem fX {w w':World} {row:Option Nat} (h:w.grownBy w' row):w.grownBy w'.drew row:=⟨h.os,h.tape,h.output,h.size,h.block⟩
theorem Arr.kept {w w':World} {g k:Nat} {xs:List Value} (h:Arr w g xs) (hg:w.grownBy w' (some k)) (hk:k≠g):Arr w' g xs:=by
 have:=h.lt;obtain⟨T,h⟩:=h;exact⟨T,by rw[hg.block g this zaf];exact h⟩
theorem Arr.grown {w:World} {g:Nat} {xs:List Value} (_:Arr w g xs) (j:Nat) (u:Value):w.grownBy (w.setCell ⟨g,j,none⟩ u) (some g):=
 ⟨rfl,rfl,rfl,by simp[World.setCell],fun k _ hn=>Below.heap_setCell _ _ _ _ (by simpa using hn)⟩
theorem Arr.setRow {w:World} {g:Nat} {xs:List Value} (h:Arr w g xs) (ys:List Value):Arr (w.setRow g ys.toArray) g ys:=by
 obtain⟨T,h⟩:=h;exact⟨T,setRow_heap w g _ _ T _ h⟩
theorem Arr.row_other {w:World} {g k:Nat} {xs:List Value} (h:Arr w g xs) (hk:g≠k) (ys:Array Value):Arr (w.setRow k ys) g xs:=by
 obtain⟨T,h⟩:=h;refine⟨T,?_⟩;rw[←h];simp[World.setRow,Array.getElem?_modify,Ne.symm hk]
theorem ah {n:Nat} {w w':World} {g:Nat} (h:Below n w w') (hg:n≤g) (ys:Array Value):Below n w (w'.setRow g ys):=by
 refine h.trans ⟨rfl,rfl,rfl,by simp[World.setRow],fun k hk=>?_⟩;simp only[World.setRow,Array.getElem?_modify];rw[if_neg zOm]
section
variable {P:Program}
theorem aT {fn:Func} {p u:Tmp} {ty:TypeId} (h:fn.results=#[.cell p ty,.tmp u]) (tmps:Array Value) (w:World) (g:Nat) (d:TypeDesc)
 (hp:tmps.getD p undef=.pointer (some ⟨g,0,none⟩)) (hu:P.underlying ty=some d) (hd:(match d with| .struct _| .array _ _=>true|_=>false)=true) (xs:List Value) (hg:Arr w g xs) (hi:(P.info? ty).map (·.size)=some xs.length)
 (v:Value) (hv:tmps.getD u undef=v):(results fn tmps).run P w=.ok (.tuple #[.agg xs.toArray,v]) w:=by
 obtain⟨T,hg⟩:=hg;rw[results_cell_tmp h,hp,hv];simp[asAddr,run_loadVar_row w g T ty _ (0,0) d hg hu hd zag]
theorem eA {ops:Array Oper} {rest:List Oper} {o:Oper} {a:Act} {w:World} {Q:Exit→Act→World→Prop} (qi:o.guard=none) (ty:TypeId) (x:Operand) (ho:o.op=.load ty x)
 (g:Nat) (hx:a.eval x=.pointer (some ⟨g,0,none⟩)) (d:TypeDesc) (hu:P.underlying ty=some d) (hd:(match d with| .struct _| .array _ _=>true|_=>false)=true) (xs:List Value) (hg:Arr w g xs) (hi:(P.info? ty).map (·.size)=some xs.length)
 (h:wpList P ops Q rest (a.put o.dst (.agg xs.toArray)) w):wpList P ops Q (o::rest) a w:=by
 obtain⟨T,hg⟩:=hg;exact wpList_load_row qi ty x ho g hx T _ (0,0) d hg hu hd zag h
theorem aQ {ops:Array Oper} {rest:List Oper} {o:Oper} {a:Act} {w:World} {Q:Exit→Act→World→Prop} (qi:o.guard=none) (ty:TypeId) (x y:Operand) (ho:o.op=.store ty x y)
 (g:Nat) (ys:List Value) (hx:a.eval x=.pointer (some ⟨g,0,none⟩)) (hy:a.eval y=.agg ys.toArray) (xs:List Value) (hg:Arr w g xs) (hi:(P.info? ty).map (·.size)=some ys.length)
 (FJ:xs.length=ys.length) (h1:∀v∈ys,v.oneCell'=true)
 (h:wpList P ops Q rest (a.put o.dst undef) (w.setRow g ys.toArray)):wpList P ops Q (o::rest) a w:=by
 obtain⟨T,hg⟩:=hg;exact wpList_store_row qi ty x y ho g _ hx hy T _ hg zag (by simpa using FJ) zah h
theorem kF {fn:Func} {p:Tmp} {ty:TypeId} (h:fn.results=#[.cell p ty]) (tmps:Array Value) (w:World) (g:Nat) (d:TypeDesc)
 (hp:tmps.getD p undef=.pointer (some ⟨g,0,none⟩)) (hu:P.underlying ty=some d) (hd:(match d with| .struct _| .array _ _=>true|_=>false)=true) (xs:List Value) (hg:Arr w g xs) (hi:(P.info? ty).map (·.size)=some xs.length):
 (results fn tmps).run P w=.ok (.agg xs.toArray) w:=by
 obtain⟨T,hg⟩:=hg;exact results_cell_row h tmps w g T _ (0,0) d hp hg hu hd zag
theorem aH {c:Code} {Q:Exit→Act→World→Prop} {a:Act} {w:World} {A:Array Value} {TA:TypeId}
 (h:∀W,W.heap.size=w.heap.size+1→Arr W w.heap.size A.toList→Below w.heap.size w W→Code.wp P c Q a W):
 Code.wp P c Q a (w.alloc (.cells A TA)):=
 h _ zac (Arr.new _ _ _) (ae _ _)
theorem be {c:Code} {Q:Exit→Act→World→Prop} {a:Act} {w:World} {A B:Array Value} {TA TB:TypeId}
 (h:∀W,W.heap.size=w.heap.size+2→Arr W w.heap.size A.toList→Arr W (w.heap.size+1) B.toList→Below w.heap.size w W→Code.wp P c Q a W):
 Code.wp P c Q a ((w.alloc (.cells A TA)).alloc (.cells B TB)):=
 h _ zac ((Arr.new _ _ _).alloc _) (by have:=Arr.new (w.alloc (.cells A TA)) B TB;simpa using this) ((ae _ _).alloc zac _)
theorem bZ {c:Code} {Q:Exit→Act→World→Prop} {a:Act} {w:World} {A B C:Array Value} {TA TB TC:TypeId}
 (h:∀W,W.heap.size=w.heap.size+3→Arr W w.heap.size A.toList→Arr W (w.heap.size+1) B.toList→Arr W (w.heap.size+1+1) C.toList→Below w.heap.size w W→Code.wp P c Q a W):
 Code.wp P c Q a (((w.alloc (.cells A TA)).alloc (.cells B TB)).alloc (.cells C TC)):=
 h _ zac (((Arr.new _ _ _).alloc _).alloc _) (by have:=(Arr.new (w.alloc (.cells A TA)) B TB).alloc (.cells C TC);simpa using this)
  (by have:=Arr.new ((w.alloc (.cells A TA)).alloc (.cells B TB)) C TC;simpa using this) (((ae _ _).alloc zac _).alloc zab _)
theorem GB {c:Code} {Q:Exit→Act→World→Prop} {a:Act} {w:World} {A B C D:Array Value} {TA TB TC TD:TypeId}
 (h:∀W,W.heap.size=w.heap.size+4→Arr W w.heap.size A.toList→Arr W (w.heap.size+1) B.toList→Arr W (w.heap.size+1+1) C.toList→Arr W (w.heap.size+1+1+1) D.toList→Below w.heap.size w W→Code.wp P c Q a W):
 Code.wp P c Q a ((((w.alloc (.cells A TA)).alloc (.cells B TB)).alloc (.cells C TC)).alloc (.cells D TD)):=
 h _ zac ((((Arr.new _ _ _).alloc _).alloc _).alloc _) (by have:=((Arr.new (w.alloc (.cells A TA)) B TB).alloc (.cells C TC)).alloc (.cells D TD);simpa using this)
  (by have:=(Arr.new ((w.alloc (.cells A TA)).alloc (.cells B TB)) C TC).alloc (.cells D TD);simpa using this)
  (by have:=Arr.new (((w.alloc (.cells A TA)).alloc (.cells B TB)).alloc (.cells C TC)) D TD;simpa using this) ((((ae _ _).alloc zac _).alloc zab _).alloc zab _)
theorem px (w:World) (ty e:TypeId) (len:Nat) (d:TypeDesc) (i:TypeInfo) (hu:P.underlying ty=some (.array len e)) (he:P.underlying e=some d) (hd:(match d with| .struct _| .array _ _=>true|_=>false)=false) (hi:P.info? e=some i) (aB:i.size=1)
 (xs:List Value) (k:Nat) (v:Value) (hk:k<len) (hv:xs[k]? =some v):(Instr.index ty (.agg xs.toArray) (.int .i64 (k:Int))).run P w=.ok v w:=by
 unfold Instr.index;have Y9:(isAgg e).run P w=.ok false w:=by
  unfold isAgg;rw[Sem.run_bind,run_underlying he w];cases d<;>simp_all
 simp[asIntOf,Sem.run_bind,run_underlying hu w,hk,sizeOf,typeInfo,hi,aB,Go.part,Y9,hv]
end
theorem fZ {w w':World} {g0:Nat} {x0:List Value} {g1:Nat} {x1:List Value} (h0:Arr w g0 x0) (h1:Arr w g1 x1) (hb:Below w.heap.size w w'):Arr w' g0 x0∧Arr w' g1 x1:=⟨h0.below hb,h1.below hb⟩
theorem rR {w w':World} {g:Nat} {g0:Nat} {x0:List Value} {g1:Nat} {x1:List Value} (ho:∀k zs,k≠g→Arr w k zs→Arr w' k zs) (h0:Arr w g0 x0) (h1:Arr w g1 x1) (e0:g0≠g:=by omega) (e1:g1≠g:=by omega):Arr w' g0 x0∧Arr w' g1 x1:=⟨ho _ _ e0 h0,ho _ _ e1 h1⟩
theorem zI2 {w:World} {g:Nat} {g0:Nat} {x0:List Value} {g1:Nat} {x1:List Value} (h0:Arr w g0 x0) (h1:Arr w g1 x1) (hg:w.heap.size≤g):g0<g∧g1<g:=⟨zA3 h0.lt hg,zA3 h1.lt hg⟩
theorem IP {w:World} {g0:Nat} {x0:List Value} {g1:Nat} {x1:List Value} (h0:Arr w g0 x0) (h1:Arr w g1 x1):g0<w.heap.size∧g1<w.heap.size:=⟨h0.lt,h1.lt⟩
theorem dZ {w w':World} {g0:Nat} {x0:List Value} {g1:Nat} {x1:List Value} {g2:Nat} {x2:List Value} (h0:Arr w g0 x0) (h1:Arr w g1 x1) (h2:Arr w g2 x2) (hb:Below w.heap.size w w'):Arr w' g0 x0∧Arr w' g1 x1∧Arr w' g2 x2:=⟨h0.below hb,h1.below hb,h2.below hb⟩
theorem Dz {w w':World} {g:Nat} {g0:Nat} {x0:List Value} {g1:Nat} {x1:List Value} {g2:Nat} {x2:List Value} (ho:∀k zs,k≠g→Arr w k zs→Arr w' k zs) (h0:Arr w g0 x0) (h1:Arr w g1 x1) (h2:Arr w g2 x2) (e0:g0≠g:=by omega) (e1:g1≠g:=by omega) (e2:g2≠g:=by omega):Arr w' g0 x0∧Arr w' g1 x1∧Arr w' g2 x2:=⟨ho _ _ e0 h0,ho _ _ e1 h1,ho _ _ e2 h2⟩
theorem UD {w:World} {g:Nat} {g0:Nat} {x0:List Value} {g1:Nat} {x1:List Value} {g2:Nat} {x2:List Value} (h0:Arr w g0 x0) (h1:Arr w g1 x1) (h2:Arr w g2 x2) (hg:w.heap.size≤g):g0<g∧g1<g∧g2<g:=⟨zA3 h0.lt hg,zA3 h1.lt hg,zA3 h2.lt hg⟩
theorem GD {w:World} {g0:Nat} {x0:List Value} {g1:Nat} {x1:List Value} {g2:Nat} {x2:List Value} (h0:Arr w g0 x0) (h1:Arr w g1 x1) (h2:Arr w g2 x2):g0<w.heap.size∧g1<w.heap.size∧g2<w.heap.size:=⟨h0.lt,h1.lt,h2.lt⟩
theorem kJ {w w':World} {g0:Nat} {x0:List Value} {g1:Nat} {x1:List Value} {g2:Nat} {x2:List Value} {g3:Nat} {x3:List Value} (h0:Arr w g0 x0) (h1:Arr w g1 x1) (h2:Arr w g2 x2) (h3:Arr w g3 x3) (hb:Below w.heap.size w w'):Arr w' g0 x0∧Arr w' g1 x1∧Arr w' g2 x2∧Arr w' g3 x3:=⟨h0.below hb,h1.below hb,h2.below hb,h3.below hb⟩
theorem MQ {w w':World} {g:Nat} {g0:Nat} {x0:List Value} {g1:Nat} {x1:List Value} {g2:Nat} {x2:List Value} {g3:Nat} {x3:List Value} (ho:∀k zs,k≠g→Arr w k zs→Arr w' k zs) (h0:Arr w g0 x0) (h1:Arr w g1 x1) (h2:Arr w g2 x2) (h3:Arr w g3 x3) (e0:g0≠g:=by omega) (e1:g1≠g:=by omega) (e2:g2≠g:=by omega) (e3:g3≠g:=by omega):Arr w' g0 x0∧Arr w' g1 x1∧Arr w' g2 x2∧Arr w' g3 x3:=⟨ho _ _ e0 h0,ho _ _ e1 h1,ho _ _ e2 h2,ho _ _ e3 h3⟩
theorem zI4 {w:World} {g:Nat} {g0:Nat} {x0:List Value} {g1:Nat} {x1:List Value} {g2:Nat} {x2:List Value} {g3:Nat} {x3:List Value} (h0:Arr w g0 x0) (h1:Arr w g1 x1) (h2:Arr w g2 x2) (h3:Arr w g3 x3) (hg:w.heap.size≤g):g0<g∧g1<g∧g2<g∧g3<g:=⟨zA3 h0.lt hg,zA3 h1.lt hg,zA3 h2.lt hg,zA3 h3.lt hg⟩
theorem zJ4 {w:World} {g0:Nat} {x0:List Value} {g1:Nat} {x1:List Value} {g2:Nat} {x2:List Value} {g3:Nat} {x3:List Value} (h0:Arr w g0 x0) (h1:Arr w g1 x1) (h2:Arr w g2 x2) (h3:Arr w g3 x3):g0<w.heap.size∧g1<w.heap.size∧g2<w.heap.size∧g3<w.heap.size:=⟨h0.lt,h1.lt,h2.lt,h3.lt⟩
theorem uk {w w':World} {g0:Nat} {x0:List Value} {g1:Nat} {x1:List Value} {g2:Nat} {x2:List Value} {g3:Nat} {x3:List Value} {g4:Nat} {x4:List Value} (h0:Arr w g0 x0) (h1:Arr w g1 x1) (h2:Arr w g2 x2) (h3:Arr w g3 x3) (h4:Arr w g4 x4) (hb:Below w.heap.size w w'):Arr w' g0 x0∧Arr w' g1 x1∧Arr w' g2 x2∧Arr w' g3 x3∧Arr w' g4 x4:=⟨h0.below hb,h1.below hb,h2.below hb,h3.below hb,h4.below hb⟩
theorem zF5 {w w':World} {g:Nat} {g0:Nat} {x0:List Value} {g1:Nat} {x1:List Value} {g2:Nat} {x2:List Value} {g3:Nat} {x3:List Value} {g4:Nat} {x4:List Value} (ho:∀k zs,k≠g→Arr w k zs→Arr w' k zs) (h0:Arr w g0 x0) (h1:Arr w g1 x1) (h2:Arr w g2 x2) (h3:Arr w g3 x3) (h4:Arr w g4 x4) (e0:g0≠g:=by omega) (e1:g1≠g:=by omega) (e2:g2≠g:=by omega) (e3:g3≠g:=by omega) (e4:g4≠g:=by omega):Arr w' g0 x0∧Arr w' g1 x1∧Arr w' g2 x2∧Arr w' g3 x3∧Arr w' g4 x4:=⟨ho _ _ e0 h0,ho _ _ e1 h1,ho _ _ e2 h2,ho _ _ e3 h3,ho _ _ e4 h4⟩
theorem zI5 {w:World} {g:Nat} {g0:Nat} {x0:List Value} {g1:Nat} {x1:List Value} {g2:Nat} {x2:List Value} {g3:Nat} {x3:List Value} {g4:Nat} {x4:List Value} (h0:Arr w g0 x0) (h1:Arr w g1 x1) (h2:Arr w g2 x2) (h3:Arr w g3 x3) (h4:Arr w g4 x4) (hg:w.heap.size≤g):g0<g∧g1<g∧g2<g∧g3<g∧g4<g:=⟨zA3 h0.lt hg,zA3 h1.lt hg,zA3 h2.lt hg,zA3 h3.lt hg,zA3 h4.lt hg⟩
theorem zJ5 {w:World} {g0:Nat} {x0:List Value} {g1:Nat} {x1:List Value} {g2:Nat} {x2:List Value} {g3:Nat} {x3:List Value} {g4:Nat} {x4:List Value} (h0:Arr w g0 x0) (h1:Arr w g1 x1) (h2:Arr w g2 x2) (h3:Arr w g3 x3) (h4:Arr w g4 x4):g0<w.heap.size∧g1<w.heap.size∧g2<w.heap.size∧g3<w.heap.size∧g4<w.heap.size:=⟨h0.lt,h1.lt,h2.lt,h3.lt,h4.lt⟩
theorem gE {w w':World} {g0:Nat} {x0:List Value} {g1:Nat} {x1:List Value} {g2:Nat} {x2:List Value} {g3:Nat} {x3:List Value} {g4:Nat} {x4:List Value} {g5:Nat} {x5:List Value} (h0:Arr w g0 x0) (h1:Arr w g1 x1) (h2:Arr w g2 x2) (h3:Arr w g3 x3) (h4:Arr w g4 x4) (h5:Arr w g5 x5) (hb:Below w.heap.size w w'):Arr w' g0 x0∧Arr w' g1 x1∧Arr w' g2 x2∧Arr w' g3 x3∧Arr w' g4 x4∧Arr w' g5 x5:=⟨h0.below hb,h1.below hb,h2.below hb,h3.below hb,h4.below hb,h5.below hb⟩
theorem oK {w w':World} {g:Nat} {g0:Nat} {x0:List Value} {g1:Nat} {x1:List Value} {g2:Nat} {x2:List Value} {g3:Nat} {x3:List Value} {g4:Nat} {x4:List Value} {g5:Nat} {x5:List Value} (ho:∀k zs,k≠g→Arr w k zs→Arr w' k zs) (h0:Arr w g0 x0) (h1:Arr w g1 x1) (h2:Arr w g2 x2) (h3:Arr w g3 x3) (h4:Arr w g4 x4) (h5:Arr w g5 x5) (e0:g0≠g:=by omega) (e1:g1≠g:=by omega) (e2:g2≠g:=by omega) (e3:g3≠g:=by omega) (e4:g4≠g:=by omega) (e5:g5≠g:=by omega):Arr w' g0 x0∧Arr w' g1 x1∧Arr w' g2 x2∧Arr w' g3 x3∧Arr w' g4 x4∧Arr w' g5 x5:=⟨ho _ _ e0 h0,ho _ _ e1 h1,ho _ _ e2 h2,ho _ _ e3 h3,ho _ _ e4 h4,ho _ _ e5 h5⟩
theorem GJ {w:World} {g:Nat} {g0:Nat} {x0:List Value} {g1:Nat} {x1:List Value} {g2:Nat} {x2:List Value} {g3:Nat} {x3:List Value} {g4:Nat} {x4:List Value} {g5:Nat} {x5:List Value} (h0:Arr w g0 x0) (h1:Arr w g1 x1) (h2:Arr w g2 x2) (h3:Arr w g3 x3) (h4:Arr w g4 x4) (h5:Arr w g5 x5) (hg:w.heap.size≤g):g0<g∧g1<g∧g2<g∧g3<g∧g4<g∧g5<g:=⟨zA3 h0.lt hg,zA3 h1.lt hg,zA3 h2.lt hg,zA3 h3.lt hg,zA3 h4.lt hg,zA3 h5.lt hg⟩
theorem DA {w:World} {g0:Nat} {x0:List Value} {g1:Nat} {x1:List Value} {g2:Nat} {x2:List Value} {g3:Nat} {x3:List Value} {g4:Nat} {x4:List Value} {g5:Nat} {x5:List Value} (h0:Arr w g0 x0) (h1:Arr w g1 x1) (h2:Arr w g2 x2) (h3:Arr w g3 x3) (h4:Arr w g4 x4) (h5:Arr w g5 x5):g0<w.heap.size∧g1<w.heap.size∧g2<w.heap.size∧g3<w.heap.size∧g4<w.heap.size∧g5<w.heap.size:=⟨h0.lt,h1.lt,h2.lt,h3.lt,h4.lt,h5.lt⟩
end Go.Proofs.YtgfkgolafkdjfaaGreatDoor
