/- ModelWrong: part 7 of its proof: lemmas and contracts, each with its conditions in its own statement; the last part holds the law itself. -/
import Derived.Test.YtgfkgolafkdjfaaGreatDoorJv06

set_option maxHeartbeats 4000000
set_option maxRecDepth 100000
namespace Go.Proofs.YtgfkgolafkdjfaaGreatDoor
open Go.RowKit
section
variable {K:Act→World→Prop} {Q:Exit→Act→World→Prop} {e:Exit} {a:Act} {w:World} {g j:Nat} {xs:List Value} {u:Value}
theorem Eb (hg:Arr w.drew g xs) {G:World→Prop}
 (h:∀W,Arr W g (xs.set j u)→(∀k zs,k≠g→Arr w.drew k zs→Arr W k zs)→(∀n w0,n≤g→Below n w0 w.drew→Below n w0 W)→G W):G (w.setCell ⟨g,j,none⟩ u).drew:=by
 rw[←World.setCell_drew];exact h _ (hg.set j u) (fun _ _ hk h=>h.other (a:=⟨g,j,none⟩) hk _) (fun _ _ hn h=>h.setCell (p:=⟨g,j,none⟩) hn _)
theorem i6 (hg:Arr w.drew g xs)
 (h:∀W,Arr W g (xs.set j u)→(∀k zs,k≠g→Arr w.drew k zs→Arr W k zs)→(∀n w0,n≤g→Below n w0 w.drew→Below n w0 W)→Exit.then K Q e a W):Exit.then K Q e a (w.setCell ⟨g,j,none⟩ u).drew:=
 Eb (G:=fun W=>Exit.then K Q e a W) hg h
theorem jC {n:Nat} {R:Exit→Act→World→Prop} (hg:Arr w.drew g xs)
 (h:∀W,Arr W g (xs.set j u)→(∀k zs,k≠g→Arr w.drew k zs→Arr W k zs)→(∀n w0,n≤g→Below n w0 w.drew→Below n w0 W)→Exit.inBlock n R e a W):Exit.inBlock n R e a (w.setCell ⟨g,j,none⟩ u).drew:=
 Eb (G:=fun W=>Exit.inBlock n R e a W) hg h
end
section
variable {P:Program} {ops:Array Oper} {Q:Exit→Act→World→Prop} {md:Region.Mode} {S:World→Prop} {B:Nat}
def Closed (md:Region.Mode) (ops:Array Oper) (listed:Array Bool):Prop:=
 ∀k ok,ops[k]? =some ok→listed.getD k false=true→∀e∈ok.after,Region.binds md e=true→listed.getD e.on false=true
theorem Closed.set {listed:Array Bool} {j:Nat} (h:Closed md ops listed) (hj:j∈Region.ready md ops listed):Closed md ops (listed.setIfInBounds j true):=by
 intro k ok hk hl e he hb
 by_cases hkj:k=j
 ·subst hkj;obtain⟨-,o,ho,dB⟩:=mem_ready.1 hj;rw[hk]at ho;cases ho;exact getD_set_true (dB e he hb)
 ·rw[getD_set_ne false (Ne.symm hkj)]at hl;exact getD_set_true (h k ok hk hl e he hb)
theorem DX {i:Nat} {oi:Oper} {v:Value} (hi:ops[i]? =some oi) (oh:∀(j:Nat) (o:Oper) cs b,ops[j]? =some o→o.op≠.select cs b)
 (hQ:∀c a w,Q (.panic c) (a.put oi.dst v) w→Q (.panic c) a w) (AO:i≠B)
 (hBw:∀listed,Closed md ops listed→B∈Region.ready md ops listed→listed.getD i false=true):
 ∀(fuel:Nat) (listed:Array Bool) (a:Act) (w:World),Closed md ops listed→
  (∀j oj,ops[j]? =some oj→j≠i→listed.getD j true=false→(∀e∈oj.after,Region.binds md e=true→e.on≠i)→oi.apart ops oj=true)→
  i∈Region.ready md ops listed→YieldsIf P ops S oi v a→S w→
  jK P md ops Q S B fuel (listed.setIfInBounds i true) (a.put oi.dst v) w→jK P md ops Q S B (fuel+1) listed a w:=by
 intro fuel
 induction fuel with
 |zero=>
  intro listed a w _ _ hr hy hS H;refine⟨fun h=>zap,fun j hj=>?_⟩
  by_cases rS:j=i
  ·exact zeb
  ·exact zfe
 |succ fuel ih=>
  intro listed a w hc wG hr hy hS H;refine⟨fun h=>zap,fun j hj=>?_⟩
  by_cases rS:j=i
  ·exact zeb
  ·have h1:=H.2 j (ready_mono hj rS);obtain⟨po,oj,JP,dB⟩:=mem_ready.1 hj;have adR:listed.getD i false=true→False:=fun h2=>by
    have h0:=(mem_ready.1 hr).1;rcases Nat.lt_or_ge i listed.size with h'|h'
    ·simp[h']at h0 h2;rw[h0]at h2;cases h2
    ·simp[Array.getElem?_eq_none h']at h2
   have JM:∀e∈oj.after,Region.binds md e=true→e.on≠i:=fun e he hb Jv=>by
    have h1:=dB e he hb;rw[Jv]at h1;exact adR h1
   have hjB:¬j=B:=fun e=>by
    subst e;exact adR (hBw listed hc hj)
   simp only[if_neg hjB]at h1⊢;have h2:=wpOp_putIf JP (wG j oj JP rS po JM) (fun cs b=>oh i oi cs b hi) (fun cs b=>oh j oj cs b JP) hQ hy h1;have yg:∀k ok,ops[k]? =some ok→k≠i→(listed.setIfInBounds j true).getD k true=false→
    (∀e∈ok.after,Region.binds md e=true→e.on≠i)→oi.apart ops ok=true:=fun k ok hk QN xP vC=>by
    refine wG k ok hk QN ?_ vC
    by_cases AP:j=k
    ·subst AP;exact po
    ·exact zfG
   refine wpOp_mono (fun a' w' h3=>⟨h3.2.1,ih (listed.setIfInBounds j true) a' w' (hc.set hj) yg (ready_mono hr (Ne.symm rS)) h3.1 h3.2.1 ?_⟩) h2;rw[Array.setIfInBounds_comm _ _ rS];exact h3.2.2
end
def AX (l:List Oper):Nat→Nat→Nat→Bool
 |0,_,_=>false
 |f+1,b,i=>match l[b]? with|some o=>o.after.any (fun e=>Region.binds .any e&&(e.on==i ||AX l f e.on i))|none=>false
theorem xj {l:List Oper} {listed:Array Bool} {i:Nat} (hc:Closed .any l.toArray listed):∀f b,AX l f b i=true→
 (∀o,l[b]? =some o→∀e∈o.after,Region.binds .any e=true→listed.getD e.on false=true)→listed.getD i false=true
 |0,_,h,_=>by cases h
 |f+1,b,h,hb=>by
  unfold AX at h;cases ho:l[b]? with
  |none=>rw[ho]at h;cases h
  |some o=>
   rw[ho]at h;obtain⟨k,hk,sH⟩:=Array.any_eq_true.1 h;simp only[Bool.and_eq_true,Bool.or_eq_true,beq_iff_eq]at sH;have h1:=hb o ho _ (Array.getElem_mem hk) sH.1;rcases sH.2 with h2|h2
   ·rw[h2]at h1;exact h1
   ·refine xj hc f _ h2 (fun o' sS e' he' jW=>?_);exact hc _ o' (by simpa using sS) h1 e' he' jW
def GX (l:List Oper) (d:Nat):Bool:=(List.range l.length).all fun k=>!d.testBit k ||(match l[k]? with|some o=>o.after.all (fun e=>!Region.binds .any e ||(jr l.length d).getD e.on false)|none=>true)
def tD (l:List Oper):Nat→List Nat→Bool
 |_,[]=>true
 |d,i::is=>GX l d&&tD l (d |||2^i) is
theorem J6 (n d k:Nat):(jr n d).getD k false=true→k<n∧d.testBit k=true:=by
 intro h;unfold jr at h
 by_cases hk:k<n
 ·simp[hk]at h;exact⟨hk,h⟩
 ·simp[hk]at h
theorem DE {l:List Oper} {d:Nat} (h:GX l d=true):Closed .any l.toArray (jr l.length d):=by
 intro k ok hk hl e he hb;obtain⟨JH,hkd⟩:=J6 _ _ _ hl;have h1:=zA19.1 h k (List.mem_range.2 JH);rw[hkd,show l[k]? =some ok by simpa using hk]at h1;simp only[Bool.not_true,Bool.false_or]at h1;have h2:=Array.all_eq_true_iff_forall_mem.1 h1 e he;rw[hb]at h2;simpa using h2
def I3 (l:List Oper) (B i:Nat):Bool:=i != B&&(match l[B]? with|some _=>AX l l.length B i|none=>true)
section
variable {P:Program} {Q:Exit→Act→World→Prop}
theorem tu {l:List Oper} {S:World→Prop} {B:Nat} {w:World} {A:Act} (f' d':Nat) (hs:Region.noSelect l.toArray=true) (hS:S w):
 ∀(is:List Nat) {f d:Nat} {a:Act},(lJ l a.tmps.size f' f d is d'&&(is.all (I3 l B)&&tD l d is))=true→(∀w',S w'→rd P l w' is a A)→Tx P l Q S B f' d' A w→Tx P l Q S B f d a w
 | [],f,d,a,ee,h,H=>by
  exact zeO
 |i::is,0,d,a,ee,h,H=>by simp[lJ]at ee
 |i::is,f+1,d,a,ee,h,H=>by
  simp only[lJ,tD,Bool.and_eq_true,List.all_cons]at ee;obtain⟨⟨⟨⟨Ca,hf⟩,hr⟩,hd⟩,⟨mK,hb2⟩,jX,pH⟩:=ee;cases hi:l[i]? with
  |none=>rw[hi]at hd;cases hd
  |some o=>
   rw[hi]at hd;cases jR:o.dst with
   |none=>simp[jR]at hd
   |some e=>
    simp only[jR]at hd;simp only[Bool.and_eq_true,decide_eq_true_eq,Bool.not_eq_true']at hd;obtain⟨v,hy,Pk⟩:=AW (P:=P) hi jR hd.1 hd.2 hS h;have ih:=tu f' d' hs hS is (f:=f) (d:=d |||2^i) (a:=a.put o.dst v) (by rw[ox,Ca,hb2,pH];rfl) Pk H;unfold Tx;simp only[I3,Bool.and_eq_true,bne_iff_ne,ne_eq]at mK;refine DX (oi:=o) (v:=v) zag (Region.noSelect_spec hs) (fun c a w hq=>hq) mK.1 (fun listed lU hB=>?_) f _ a w (DE jX) (Region.free_spec zag hf) (by simpa using hr) hy hS ?_
    ·obtain⟨-,oB,hoB,dB⟩:=mem_ready.1 hB;have ads:l[B]? =some oB:=(by simpa using hoB);have h2:=mK.2;rw[ads]at h2;refine xj lU l.length B h2 (fun o' sS e' he' jW=>?_);rw[ads]at sS;cases sS;exact dB e' he' jW
    ·rw[jt];exact ih
theorem jI {l:List Oper} {S:World→Prop} {B f d:Nat} {a:Act} {w:World} {g:Nat} {xs ys:List Value} (hg:Arr w g xs)
 (h:∀W,Arr W g ys→(∀k zs,k≠g→Arr w k zs→Arr W k zs)→(∀n w0,n≤g→Below n w0 w→Below n w0 W)→Tx P l Q S B f d a W):Tx P l Q S B f d a (w.setRow g ys.toArray):=
 h _ (hg.setRow ys) (fun _ _ hk h=>h.row_other hk _) (fun _ _ hn h=>ah h hn _)
theorem eu {K:Exit→Act→World→Prop} {n:Nat} {e:Exit} {a:Act} {w:World} {g:Nat} {xs ys:List Value} (hg:Arr w g xs)
 (h:∀W,Arr W g ys→(∀k zs,k≠g→Arr w k zs→Arr W k zs)→(∀n w0,n≤g→Below n w0 w→Below n w0 W)→Exit.inBlock n K e a W):Exit.inBlock n K e a (w.setRow g ys.toArray):=
 h _ (hg.setRow ys) (fun _ _ hk h=>h.row_other hk _) (fun _ _ hn h=>ah h hn _)
end
section
variable {P:Program}
theorem lH {w:World} {g:Nat} {ty:TypeId} (ha:Aq P ty=true) {xs:List Value} (hg:Arr w g xs) (hi:(P.info? ty).map (·.size)=some xs.length):(loadVar ty ⟨g,0,none⟩).run P w=.ok (.agg xs.toArray) w:=by
 obtain⟨d,hu,hd⟩:=pM ha;obtain⟨T,hg⟩:=hg;exact run_loadVar_row w g T ty _ (0,0) d hg hu zaq zag
theorem Gb {fn:Func} {p1 p2 p3 p4:Tmp} {ty:TypeId} (h:fn.results=#[.cell p1 ty,.cell p2 ty,.cell p3 ty,.cell p4 ty]) (tmps:Array Value) (w:World) (g1 g2 g3 g4:Nat)
 (Dt:tmps.getD p1 undef=.pointer (some ⟨g1,0,none⟩)) (Ej:tmps.getD p2 undef=.pointer (some ⟨g2,0,none⟩)) (hp3:tmps.getD p3 undef=.pointer (some ⟨g3,0,none⟩)) (zp:tmps.getD p4 undef=.pointer (some ⟨g4,0,none⟩))
 (ha:Aq P ty=true) (x1 x2 x3 x4:List Value) (k1:Arr w g1 x1) (k2:Arr w g2 x2) (k3:Arr w g3 x3) (k4:Arr w g4 x4)
 (i1:(P.info? ty).map (·.size)=some x1.length) (i2:(P.info? ty).map (·.size)=some x2.length) (i3:(P.info? ty).map (·.size)=some x3.length) (i4:(P.info? ty).map (·.size)=some x4.length):
 (results fn tmps).run P w=.ok (.tuple #[.agg x1.toArray,.agg x2.toArray,.agg x3.toArray,.agg x4.toArray]) w:=by
 have e1:=lH ha k1 i1;have e2:=lH ha k2 i2;have e3:=lH ha k3 i3;have e4:=lH ha k4 i4;simp only[results,h];simp only[Array.getD_eq_getD_getElem?]at Dt Ej hp3 zp;simp[Sem.run_bind,Result.andThen,Dt,Ej,hp3,zp,asAddr,e1,e2,e3,e4]
end
theorem gO {P:Program} {w:World} {ops:Array Oper} {rest:List Oper} {o:Oper} {a:Act} {Q:Exit→Act→World→Prop} (qi:o.guard=none) (ty:TypeId) (x y:Operand) (ho:o.op=.store ty x y)
 (g:Nat) (ys:List Value) (hx:a.eval x=.pointer (some ⟨g,0,none⟩)) (hy:a.eval y=.agg ys.toArray) (xs:List Value) (hg:Arr w g xs) (hi:(P.info? ty).map (·.size)=some ys.length)
 (FJ:xs.length=ys.length) (h1:∀v∈ys,v.oneCell'=true)
 (h:∀W,Arr W g ys→(∀k zs,k≠g→Arr w k zs→Arr W k zs)→(∀n w0,n≤g→Below n w0 w→Below n w0 W)→wpList P ops Q rest (a.put o.dst undef) W):wpList P ops Q (o::rest) a w:=
 aQ qi ty x y ho g ys hx hy xs hg hi FJ h1 (h _ (hg.setRow ys) (fun _ _ hk h=>h.row_other hk _) (fun _ _ hn h=>ah h hn _))
section
variable {P:Program} {Q:Exit→Act→World→Prop}
theorem eZ {l:List Oper} {S:World→Prop} {B:Nat} {w:World} {f d:Nat} {a:Act} (A:Act) (f' d':Nat) (hS:S w) (is:List Nat) (h:∀w',S w'→rd P l w' is a A) (H:Tx P l Q S B f' d' A w) (hs:Region.noSelect l.toArray=true:=by kernel_rfl) (ee:(lJ l a.tmps.size f' f d is d'&&(is.all (I3 l B)&&tD l d is))=true:=by kernel_rfl):Tx P l Q S B f d a w:=tu f' d' hs hS is ee h H
end
theorem pu {a b r:Nat} (hr:Hid ((a+b)%pN=r)) (ha:a<18446744073709551616^4) (hb:b<18446744073709551616^4) (w:World):
 CB 197 #[.agg (aw 4 a).toArray,.agg (aw 4 b).toArray] w (.agg (aw 4 r).toArray):=by rw[←hr.out];exact H4 a b ha hb w
theorem pb {a b r:Nat} (hr:Hid ((a+pN-b)%pN=r)) (ha:a<pN) (hb:b<pN) (w:World):
 CB 196 #[.agg (aw 4 a).toArray,.agg (aw 4 b).toArray] w (.agg (aw 4 r).toArray):=by rw[←hr.out];exact tI a b ha hb w
theorem fY {a b r:Nat} (hr:Hid (a*b%pN=r)) (ha:a<18446744073709551616^4) (hb:b<18446744073709551616^4) (w:World):
 CB 195 #[.agg (aw 4 a).toArray,.agg (aw 4 b).toArray] w (.agg (aw 4 r).toArray):=by rw[←hr.out];exact fJ a b ha hb w
theorem Xb {P:Program} {c:Code} {Q:Exit→Act→World→Prop} {a:Act} {w:World} {A B C D E F G H I:Array Value} {TA TB TC TD TE TF TG TH TI:TypeId}
 (h:∀W,W.heap.size=w.heap.size+9→Arr W w.heap.size A.toList→Arr W (w.heap.size+1) B.toList→Arr W (w.heap.size+1+1) C.toList→Arr W (w.heap.size+1+1+1) D.toList→Arr W (w.heap.size+1+1+1+1) E.toList→
  Arr W (w.heap.size+1+1+1+1+1) F.toList→Arr W (w.heap.size+1+1+1+1+1+1) G.toList→Arr W (w.heap.size+1+1+1+1+1+1+1) H.toList→Arr W (w.heap.size+1+1+1+1+1+1+1+1) I.toList→Below w.heap.size w W→Code.wp P c Q a W):
 Code.wp P c Q a (((((((((w.alloc (.cells A TA)).alloc (.cells B TB)).alloc (.cells C TC)).alloc (.cells D TD)).alloc (.cells E TE)).alloc (.cells F TF)).alloc (.cells G TG)).alloc (.cells H TH)).alloc (.cells I TI)):=by
 have n1:=Arr.new w A TA;have n2:=Arr.new (w.alloc (.cells A TA)) B TB;have n3:=Arr.new ((w.alloc (.cells A TA)).alloc (.cells B TB)) C TC;have n4:=Arr.new (((w.alloc (.cells A TA)).alloc (.cells B TB)).alloc (.cells C TC)) D TD;have n5:=Arr.new ((((w.alloc (.cells A TA)).alloc (.cells B TB)).alloc (.cells C TC)).alloc (.cells D TD)) E TE;have n6:=Arr.new (((((w.alloc (.cells A TA)).alloc (.cells B TB)).alloc (.cells C TC)).alloc (.cells D TD)).alloc (.cells E TE)) F TF;have n7:=Arr.new ((((((w.alloc (.cells A TA)).alloc (.cells B TB)).alloc (.cells C TC)).alloc (.cells D TD)).alloc (.cells E TE)).alloc (.cells F TF)) G TG;have n8:=Arr.new (((((((w.alloc (.cells A TA)).alloc (.cells B TB)).alloc (.cells C TC)).alloc (.cells D TD)).alloc (.cells E TE)).alloc (.cells F TF)).alloc (.cells G TG)) H TH
 have n9:=Arr.new ((((((((w.alloc (.cells A TA)).alloc (.cells B TB)).alloc (.cells C TC)).alloc (.cells D TD)).alloc (.cells E TE)).alloc (.cells F TF)).alloc (.cells G TG)).alloc (.cells H TH)) I TI;refine h _ zac ((((((((n1.alloc _).alloc _).alloc _).alloc _).alloc _).alloc _).alloc _).alloc _) ?_ ?_ ?_ ?_ ?_ ?_ ?_ ?_ ?_
 ·have:=((((((n2.alloc (.cells C TC)).alloc (.cells D TD)).alloc (.cells E TE)).alloc (.cells F TF)).alloc (.cells G TG)).alloc (.cells H TH)).alloc (.cells I TI);exact zfv
 ·have:=(((((n3.alloc (.cells D TD)).alloc (.cells E TE)).alloc (.cells F TF)).alloc (.cells G TG)).alloc (.cells H TH)).alloc (.cells I TI);exact zfv
 ·have:=((((n4.alloc (.cells E TE)).alloc (.cells F TF)).alloc (.cells G TG)).alloc (.cells H TH)).alloc (.cells I TI);exact zfv
 ·have:=(((n5.alloc (.cells F TF)).alloc (.cells G TG)).alloc (.cells H TH)).alloc (.cells I TI);exact zfv
 ·have:=((n6.alloc (.cells G TG)).alloc (.cells H TH)).alloc (.cells I TI);exact zfv
 ·have:=(n7.alloc (.cells H TH)).alloc (.cells I TI);exact zfv
 ·have:=n8.alloc (.cells I TI);exact zfv
 ·simpa using n9
 ·exact(((((((((ae w _).alloc zac _).alloc zab _).alloc zab _).alloc zab _).alloc zab _).alloc zab _).alloc zab _).alloc zab _)
theorem Ty (x a b c d:Nat) (hx:x<pN) (ha:a<pN) (hb:b<pN) (hc:c<pN) (hd:d<pN) {p m pp mm e1 u1 da u2 cb s t r1 k1' k2' r2 r3 tt r4:Nat}
 (g1:Hid ((a+b)%pN=p)) (g2:Hid ((a+pN-b)%pN=m)) (g3:Hid (p*p%pN=pp)) (g4:Hid (m*m%pN=mm)) (g5:Hid ((pp+pN-mm)%pN=e1))
 (g6:Hid ((c+pN-d)%pN=u1)) (g7:Hid (u1*p%pN=da)) (g8:Hid ((c+d)%pN=u2)) (g9:Hid (u2*m%pN=cb)) (g10:Hid ((da+cb)%pN=s)) (g11:Hid ((da+pN-cb)%pN=t))
 (g12:Hid (pp*mm%pN=r1)) (g13:Hid (121665*e1%pN=k1')) (g14:Hid ((pp+k1')%pN=k2')) (g15:Hid (e1*k2'%pN=r2)) (g16:Hid (s*s%pN=r3)) (g17:Hid (t*t%pN=tt)) (g18:Hid (x*tt%pN=r4)) (w:World):
 Calls Tryz.prog 210 #[.agg (aw 4 x).toArray,.agg (aw 4 a).toArray,.agg (aw 4 b).toArray,.agg (aw 4 c).toArray,.agg (aw 4 d).toArray] w fun e w'=>
  e=.returned (.tuple #[.agg (aw 4 r1).toArray,.agg (aw 4 r2).toArray,.agg (aw 4 r3).toArray,.agg (aw 4 r4).toArray])∧Below w.heap.size w w':=by
 have zp:pN<18446744073709551616^4:=zDc;have lim:∀ {n:Nat},n<pN→n<18446744073709551616^4:=fun h=>zA25 h zp;have lp:p<pN:=g1.out▸zA1 _ aX;have lm:m<pN:=g2.out▸zA1 _ aX;have lpp:pp<pN:=g3.out▸zA1 _ aX;have lmm:mm<pN:=g4.out▸zA1 _ aX;have le1:e1<pN:=g5.out▸zA1 _ aX;have lu1:u1<pN:=g6.out▸zA1 _ aX;have lda:da<pN:=g7.out▸zA1 _ aX;have lu2:u2<pN:=g8.out▸zA1 _ aX;have lcb:cb<pN:=g9.out▸zA1 _ aX;have ls:s<pN:=g10.out▸zA1 _ aX;have lt:t<pN:=g11.out▸zA1 _ aX;have lk1:k1'<pN:=g13.out▸zA1 _ aX;have lk2:k2'<pN:=g14.out▸zA1 _ aX;have ltt:tt<pN:=g17.out▸zA1 _ aX;have c1:=zH (fun w=>pu g1 (lim ha) (lim hb) w);have c2:=zH (fun w=>pb g2 ha hb w);have c3:=zH (fun w=>fY g3 (lim lp) (lim lp) w);have c4:=zH (fun w=>fY g4 (lim lm) (lim lm) w);have c5:=zH (fun w=>pb g5 lpp lmm w);have c6:=zH (fun w=>pb g6 hc hd w);have c7:=zH (fun w=>fY g7 (lim lu1) (lim lp) w);have c8:=zH (fun w=>pu g8 (lim hc) (lim hd) w)
 have c9:=zH (fun w=>fY g9 (lim lu2) (lim lm) w);have c10:=zH (fun w=>pu g10 (lim lda) (lim lcb) w);have c11:=zH (fun w=>pb g11 lda lcb w);have c12:=zH (fun w=>fY g12 (lim lpp) (lim lmm) w);have c13:=fun w=>fY g13 zDc (lim le1) w;rw[mo 121665 zDc]at c13;have c14:=zH (fun w=>pu g14 (lim lpp) (lim lk1) w);have c15:=zH (fun w=>fY g15 (lim le1) (lim lk2) w);have c16:=zH (fun w=>fY g16 (lim ls) (lim ls) w);have c17:=zH (fun w=>fY g17 (lim lt) (lim lt) w);have c18:=zH (fun w=>fY g18 (lim hx) (lim ltt) w);replace c13:=zH c13;clear g1 g2 g3 g4 g5 g6 g7 g8 g9 g10 g11 g12 g13 g14 g15 g16 g17 g18 lp lm lpp lmm le1 lu1 lda lu2 lcb ls lt lk1 lk2 ltt lim hx ha hb hc hd zp;go_enter Tryz.func210,Tryz.ntmps210;go_upto_region 1 with fail
 refine Xb (fun W aB k5 k6 k7 k8 k9 k10 k11 k12 k13 kb=>?_);have k10:Arr W (w.heap.size+1+1+1+1+1) (aw 4 0):=k10;have k11:Arr W (w.heap.size+1+1+1+1+1+1) (aw 4 0):=k11;have k12:Arr W (w.heap.size+1+1+1+1+1+1+1) (aw 4 0):=k12;have k13:Arr W (w.heap.size+1+1+1+1+1+1+1+1) (aw 4 0):=k13;clear aB;go_upto_region 1 with(first|refine aR ?_|refine aU ?_)
 refine cH 8 10 fun aP=>?_;refine eZ ?_ 6 27 zaD [0,1,3,4] (fun w' hB=>by obtain⟨e0,e1,e2,e3,e4,e5⟩:=gE k5 k6 k7 k8 k9 k10 hB;obtain⟨e6,e7,e8⟩:=dZ k11 k12 k13 hB;exact zRd) ?_;refine bG 2 255 [(2,25),(5,28),(6,14),(7,15)] [(false,[]),(false,[]),(false,[]),(false,[])] [(2,Ph.is (.agg (aw 4 p).toArray)),(5,Ph.is (.agg (aw 4 m).toArray)),(6,Ph.arr (W).heap.size (aw 4 0)),(7,Ph.arr (W).heap.size (aw 4 0))] zKr zKr zaA ?_ ?_
 ·refine⟨⟨_,rfl,?_⟩,⟨_,rfl,?_⟩,⟨_,rfl,?_⟩,⟨_,rfl,?_⟩,trivial⟩
  ·exact oT c1.out
  ·exact oT c2.out
  ·exact zcV
  ·exact zcV
 intro vs abQ uP YR hP hD;obtain⟨q2,q5,q6,q7,-⟩:=hP;simp only[aG,Act.put,zSa,zSz,zSs];rw[show vs 2=_ from q2,show vs 5=_ from q5];clear q2 q5;obtain⟨g6,e6,lV,uq⟩:=q6;rw[e6];obtain⟨g7,e7,lW,LF⟩:=q7;rw[e7];have ne6_7:g6≠g7:=fun h=>hD 6 7 rfl rfl rfl rfl rfl (by rw[e6,e7,h]);clear e6 e7 hD vs;have abE:=GJ k5 k6 k7 k8 k9 k10 lV;have aag:=UD k11 k12 k13 lV;have abF:=GJ k5 k6 k7 k8 k9 k10 lW;have aah:=UD k11 k12 k13 lW;obtain⟨k5,k6,k7,k8,k9,k10⟩:=gE k5 k6 k7 k8 k9 k10 uP;obtain⟨k11,k12,k13⟩:=dZ k11 k12 k13 uP;have kb:=az kb uP;have k14:=uq;clear uq;generalize g6=lQ at*;have k15:=LF;clear LF;generalize g7=Xl at*;refine kO 511 ?_;refine jI k14 (fun i8 k14 ad ak=>?_);obtain⟨k5,k6,k7,k8,k9,k10⟩:=oK ad k5 k6 k7 k8 k9 k10;obtain⟨k11,k12,k13,k15⟩:=MQ ad k11 k12 k13 k15;have kb:=ak _ _ zOm kb;clear ad ak;refine aY 9 1023 rfl zDk (fun K hK=>?_);refine bJ rfl _ _ _ rfl _ _ rfl rfl _ zAm zLn zLm zOn ?_
 refine hK (fun _=>True) _ _ trivial (fun _ h=>h) ?_;clear hK K;try simp only[Act.put]
 refine ap zKr ?_
 first|refine aV k15 (fun jF k15 ad ak=>?_)|refine eu k15 (fun jF k15 ad ak=>?_)
 obtain⟨k5,k6,k7,k8,k9,k10⟩:=oK ad k5 k6 k7 k8 k9 k10;obtain⟨k11,k12,k13,k14⟩:=MQ ad k11 k12 k13 k14;have kb:=ak _ _ zOm kb;clear ad ak;go_upto_region 2 with(first|refine aR ?_|refine aU ?_)
 refine cH 8 10 fun b9=>?_;refine eZ ?_ 6 27 zaJ [0,1,3,4] (fun w' hB=>by obtain⟨e0,e1,e2,e3,e4,e5⟩:=gE k5 k6 k7 k8 k9 k10 hB;obtain⟨e6,e7,e8,e9,e10⟩:=uk k11 k12 k13 k14 k15 hB;exact zRd) ?_;refine bG 2 255 [(2,31),(5,34),(6,16),(7,17)] [(false,[]),(false,[]),(false,[]),(false,[])] [(2,Ph.is (.agg (aw 4 pp).toArray)),(5,Ph.is (.agg (aw 4 mm).toArray)),(6,Ph.arr (jF).heap.size (aw 4 0)),(7,Ph.arr (jF).heap.size (aw 4 0))] zKr zKr zaA ?_ ?_
 ·refine⟨⟨_,rfl,?_⟩,⟨_,rfl,?_⟩,⟨_,rfl,?_⟩,⟨_,rfl,?_⟩,trivial⟩
  ·exact oT c3.out
  ·exact oT c4.out
  ·exact zcV
  ·exact zcV
 intro vs abS uQ YT hP hD;obtain⟨q2,q5,q6,q7,-⟩:=hP;simp only[aG,Act.put,zSa,zSz,zSs];rw[show vs 2=_ from q2,show vs 5=_ from q5];clear q2 q5;obtain⟨g6,e6,lV,uq⟩:=q6;rw[e6];obtain⟨g7,e7,lW,LF⟩:=q7;rw[e7];have ne6_7:g6≠g7:=fun h=>hD 6 7 rfl rfl rfl rfl rfl (by rw[e6,e7,h]);clear e6 e7 hD vs;have abG:=GJ k5 k6 k7 k8 k9 k10 lV;have aai:=zI5 k11 k12 k13 k14 k15 lV;have abH:=GJ k5 k6 k7 k8 k9 k10 lW;have aaj:=zI5 k11 k12 k13 k14 k15 lW;obtain⟨k5,k6,k7,k8,k9,k10⟩:=gE k5 k6 k7 k8 k9 k10 uQ;obtain⟨k11,k12,k13,k14,k15⟩:=uk k11 k12 k13 k14 k15 uQ;have kb:=az kb uQ;have k16:=uq;clear uq;generalize g6=Xm at*;have k17:=LF;clear LF;generalize g7=Xn at*;refine kO 511 ?_;refine jI k16 (fun m9 k16 ad ak=>?_);obtain⟨k5,k6,k7,k8,k9,k10⟩:=oK ad k5 k6 k7 k8 k9 k10;obtain⟨k11,k12,k13,k14,k15,k17⟩:=oK ad k11 k12 k13 k14 k15 k17;have kb:=ak _ _ zOm kb;clear ad ak;refine aY 9 1023 rfl zDk (fun K hK=>?_)
 refine bJ rfl _ _ _ rfl _ _ rfl rfl _ zAm zLn zLm zOn ?_;refine hK (fun _=>True) _ _ trivial (fun _ h=>h) ?_;clear hK K;try simp only[Act.put]
 refine ap zKr ?_
 first|refine aV k17 (fun qD k17 ad ak=>?_)|refine eu k17 (fun qD k17 ad ak=>?_)
 obtain⟨k5,k6,k7,k8,k9,k10⟩:=oK ad k5 k6 k7 k8 k9 k10;obtain⟨k11,k12,k13,k14,k15,k16⟩:=oK ad k11 k12 k13 k14 k15 k16;have kb:=ak _ _ zOm kb;clear ad ak;go_upto_region 3 with(first|refine aR ?_|refine aU ?_)
 go_wp2_with(first|refine aR ?_|refine aU ?_);refine zQ (c5.out _) fun uG iz=>?_;obtain⟨k5,k8,k9,k10,k11,k12⟩:=gE k5 k8 k9 k10 k11 k12 iz;obtain⟨k13,k14,k15,k16,k17⟩:=uk k13 k14 k15 k16 k17 iz;have kb:=az kb iz;clear iz;go_upto_region 4 with(first|refine aR ?_|refine aU ?_)
 obtain⟨NA,NB,NC,Jz,JA,JB⟩:=DA k5 k8 k9 k10 k11 k12;obtain⟨JC,JD,JE,JF,JG⟩:=zJ5 k13 k14 k15 k16 k17;refine aK (fun rY k18 aA=>?_);obtain⟨k5,k8,k9,k10,k11,k12⟩:=gE k5 k8 k9 k10 k11 k12 aA;obtain⟨k13,k14,k15,k16,k17⟩:=uk k13 k14 k15 k16 k17 aA;have kb:=az kb aA;clear aA;generalize (uG).heap.size=Xo at k18 NA NB NC Jz JA JB JC JD JE JF JG⊢;go_upto_region 4 with(first|refine aR ?_|refine aU ?_)
 refine cH 6 7 fun hU=>?_;refine dz ?_ 4 11 zaF [0,1,3] (fun w' hB=>by obtain⟨e0,e1,e2,e3,e4,e5⟩:=gE k5 k8 k9 k10 k11 k12 hB;obtain⟨e6,e7,e8,e9,e10,e11⟩:=gE k13 k14 k15 k16 k17 k18 hB;exact zRd) ?_;refine bG 1 63 [(2,40),(4,42),(5,19)] [(false,[]),(false,[(2,40)]),(false,[])] [(2,Ph.is (.agg (aw 4 u1).toArray)),(4,Ph.is (.agg (aw 4 da).toArray)),(5,Ph.arr (rY).heap.size (aw 4 0))] zKr zKr zaA ?_ ?_
 ·refine⟨⟨_,rfl,?_⟩,⟨_,rfl,?_⟩,⟨_,rfl,?_⟩,trivial⟩
  ·exact oT c6.out
  ·exact DB c7.out
  ·exact zcV
 intro vs abX uR YY hP hD;obtain⟨q2,q4,q5,-⟩:=hP;simp only[aG,Act.put,zSa,zSz,zSs];rw[show vs 2=_ from q2,show vs 4=_ from q4];clear q2 q4;obtain⟨g5,e5,jJ,mX⟩:=q5;rw[e5];clear e5 hD vs;have abI:=GJ k5 k8 k9 k10 k11 k12 jJ;have aak:=GJ k13 k14 k15 k16 k17 k18 jJ;obtain⟨k5,k8,k9,k10,k11,k12⟩:=gE k5 k8 k9 k10 k11 k12 uR;obtain⟨k13,k14,k15,k16,k17,k18⟩:=gE k13 k14 k15 k16 k17 k18 uR;have kb:=az kb uR;refine kO 127 ?_;refine ap zKr ?_;refine aV mX (fun kN mX ad ak=>?_);obtain⟨k5,k8,k9,k10,k11,k12⟩:=oK ad k5 k8 k9 k10 k11 k12;obtain⟨k13,k14,k15,k16,k17,k18⟩:=oK ad k13 k14 k15 k16 k17 k18;have kb:=ak _ _ zOm kb;clear ad ak;have k19:=mX;clear mX;generalize g5=Xp at*;go_upto_region 5 with(first|refine aR ?_|refine aU ?_)
 refine cH 6 7 fun gZ=>?_;refine dz ?_ 4 11 zaG [0,1,3] (fun w' hB=>by obtain⟨e0,e1,e2,e3,e4,e5⟩:=gE k5 k8 k9 k10 k11 k12 hB;obtain⟨e6,e7,e8,e9,e10,e11⟩:=gE k13 k15 k16 k17 k18 k19 hB;exact zRd) ?_;refine bG 1 63 [(2,45),(4,47),(5,20)] [(false,[]),(false,[(2,45)]),(false,[])] [(2,Ph.is (.agg (aw 4 u2).toArray)),(4,Ph.is (.agg (aw 4 cb).toArray)),(5,Ph.arr (kN).heap.size (aw 4 0))] zKr zKr zaA ?_ ?_
 ·refine⟨⟨_,rfl,?_⟩,⟨_,rfl,?_⟩,⟨_,rfl,?_⟩,trivial⟩
  ·exact oT c8.out
  ·exact DB c9.out
  ·exact zcV
 intro vs abZ uS Y0 hP hD;obtain⟨q2,q4,q5,-⟩:=hP;simp only[aG,Act.put,zSa,zSz,zSs];rw[show vs 2=_ from q2,show vs 4=_ from q4];clear q2 q4;obtain⟨g5,e5,jJ,mX⟩:=q5;rw[e5];clear e5 hD vs;have abJ:=GJ k5 k8 k9 k10 k11 k12 jJ;have aal:=GJ k13 k15 k16 k17 k18 k19 jJ;obtain⟨k5,k8,k9,k10,k11,k12⟩:=gE k5 k8 k9 k10 k11 k12 uS;obtain⟨k13,k15,k16,k17,k18,k19⟩:=gE k13 k15 k16 k17 k18 k19 uS;have kb:=az kb uS;refine kO 127 ?_;refine ap zKr ?_;refine aV mX (fun tq mX ad ak=>?_);obtain⟨k5,k8,k9,k10,k11,k12⟩:=oK ad k5 k8 k9 k10 k11 k12;obtain⟨k13,k15,k16,k17,k18,k19⟩:=oK ad k13 k15 k16 k17 k18 k19;have kb:=ak _ _ zOm kb;clear ad ak;have k20:=mX;clear mX;generalize g5=Xq at*;go_upto_region 6 with(first|refine aR ?_|refine aU ?_)
 refine cH 8 10 fun iU=>?_;refine eZ ?_ 6 27 zaN [0,1,3,4] (fun w' hB=>by obtain⟨e0,e1,e2,e3,e4,e5⟩:=gE k5 k10 k11 k12 k13 k16 hB;obtain⟨e6,e7,e8,e9⟩:=kJ k17 k18 k19 k20 hB;exact zRd) ?_;refine bG 2 255 [(2,50),(5,53),(6,21),(7,22)] [(false,[]),(false,[]),(false,[]),(false,[])] [(2,Ph.is (.agg (aw 4 s).toArray)),(5,Ph.is (.agg (aw 4 t).toArray)),(6,Ph.arr (tq).heap.size (aw 4 0)),(7,Ph.arr (tq).heap.size (aw 4 0))] zKr zKr zaA ?_ ?_
 ·refine⟨⟨_,rfl,?_⟩,⟨_,rfl,?_⟩,⟨_,rfl,?_⟩,⟨_,rfl,?_⟩,trivial⟩
  ·exact oT c10.out
  ·exact oT c11.out
  ·exact zcV
  ·exact zcV
 intro vs ab2 uT Y5 hP hD;obtain⟨q2,q5,q6,q7,-⟩:=hP;simp only[aG,Act.put,zSa,zSz,zSs];rw[show vs 2=_ from q2,show vs 5=_ from q5];clear q2 q5;obtain⟨g6,e6,lV,uq⟩:=q6;rw[e6];obtain⟨g7,e7,lW,LF⟩:=q7;rw[e7];have ne6_7:g6≠g7:=fun h=>hD 6 7 rfl rfl rfl rfl rfl (by rw[e6,e7,h]);clear e6 e7 hD vs;have abK:=GJ k5 k10 k11 k12 k13 k16 lV;have aam:=zI4 k17 k18 k19 k20 lV;have abL:=GJ k5 k10 k11 k12 k13 k16 lW;have aan:=zI4 k17 k18 k19 k20 lW;obtain⟨k5,k10,k11,k12,k13,k16⟩:=gE k5 k10 k11 k12 k13 k16 uT;obtain⟨k17,k18,k19,k20⟩:=kJ k17 k18 k19 k20 uT;have kb:=az kb uT;have k21:=uq;clear uq;generalize g6=ag4 at*;have k22:=LF;clear LF;generalize g7=ag5 at*;refine kO 511 ?_;refine jI k21 (fun rE k21 ad ak=>?_);obtain⟨k5,k10,k11,k12,k13,k16⟩:=oK ad k5 k10 k11 k12 k13 k16;obtain⟨k17,k18,k19,k20,k22⟩:=zF5 ad k17 k18 k19 k20 k22;have kb:=ak _ _ zOm kb;clear ad ak;refine aY 9 1023 rfl zDk (fun K hK=>?_)
 refine bJ rfl _ _ _ rfl _ _ rfl rfl _ zAm zLn zLm zOn ?_;refine hK (fun _=>True) _ _ trivial (fun _ h=>h) ?_;clear hK K;try simp only[Act.put]
 refine ap zKr ?_
 first|refine aV k22 (fun uj k22 ad ak=>?_)|refine eu k22 (fun uj k22 ad ak=>?_)
 obtain⟨k5,k10,k11,k12,k13,k16⟩:=oK ad k5 k10 k11 k12 k13 k16;obtain⟨k17,k18,k19,k20,k21⟩:=zF5 ad k17 k18 k19 k20 k21;have kb:=ak _ _ zOm kb;clear ad ak;go_upto_region 7 with(first|refine aR ?_|refine aU ?_)
 refine cH 18 22 fun lT=>?_;refine eZ ?_ 11 60539 (by exact lT) [0,1,3,4,5,6,10,11,13,14,15] (fun w' hB=>by obtain⟨e0,e1,e2,e3,e4,e5⟩:=gE k5 k10 k11 k12 k13 k16 hB;obtain⟨e6,e7,e8,e9⟩:=kJ k17 k18 k21 k22 hB;exact zRd) ?_;refine eg 2 60543 lT c12.out fun zK nh=>?_;refine eg 7 60671 nh c13.out fun Dm nR=>?_;refine eg 8 60927 nR c14.out fun Dn pV=>?_;refine eg 9 61439 pV c15.out fun DV ni=>?_;refine eg 12 65535 ni c16.out fun DW pW=>?_;refine eg 16 131071 pW c17.out fun K7 mI=>?_;refine eg 17 262143 mI c18.out fun IJ nS=>?_;obtain⟨k5,k10,k11,k12,k13,k16⟩:=gE k5 k10 k11 k12 k13 k16 nS;obtain⟨k17,k18,k21,k22⟩:=kJ k17 k18 k21 k22 nS;have kb:=az kb nS;refine kO 524287 ?_;refine jI k10 (fun IK k10 ad ak=>?_);obtain⟨k5,k11,k12,k13,k16,k17⟩:=oK ad k5 k11 k12 k13 k16 k17;obtain⟨k18,k21,k22⟩:=Dz ad k18 k21 k22;have kb:=ak _ _ zOm kb;clear ad ak;refine aY 19 1048575 rfl zDk (fun K hK=>?_)
 refine bJ rfl _ _ _ rfl _ _ rfl rfl _ zAm zLn zLm zOn ?_;refine hK (fun _=>True) _ _ trivial (fun _ h=>h) ?_;clear hK K;try simp only[Act.put]
 refine jI k11 (fun aaZ k11 ad ak=>?_);obtain⟨k5,k10,k12,k13,k16,k17⟩:=oK ad k5 k10 k12 k13 k16 k17;obtain⟨k18,k21,k22⟩:=Dz ad k18 k21 k22;have kb:=ak _ _ zOm kb;clear ad ak;refine aY 20 2097151 rfl zDk (fun K hK=>?_);refine bJ rfl _ _ _ rfl _ _ rfl rfl _ zAm zLn zLm zOn ?_;refine hK (fun _=>True) _ _ trivial (fun _ h=>h) ?_;clear hK K;try simp only[Act.put]
 refine jI k12 (fun W7 k12 ad ak=>?_);obtain⟨k5,k10,k11,k13,k16,k17⟩:=oK ad k5 k10 k11 k13 k16 k17;obtain⟨k18,k21,k22⟩:=Dz ad k18 k21 k22;have kb:=ak _ _ zOm kb;clear ad ak;refine aY 21 4194303 rfl zDk (fun K hK=>?_);refine bJ rfl _ _ _ rfl _ _ rfl rfl _ zAm zLn zLm zOn ?_;refine hK (fun _=>True) _ _ trivial (fun _ h=>h) ?_;clear hK K;try simp only[Act.put]
 refine ap zKr ?_
 first|refine aV k13 (fun Pc k13 ad ak=>?_)|refine eu k13 (fun Pc k13 ad ak=>?_)
 obtain⟨k5,k10,k11,k12,k16,k17⟩:=oK ad k5 k10 k11 k12 k16 k17;obtain⟨k18,k21,k22⟩:=Dz ad k18 k21 k22;have kb:=ak _ _ zOm kb;clear ad ak;go_wp2_with fail;exact bodyPost_ret (Gb Tryz.results210 _ _ _ _ _ _ rfl rfl rfl rfl zKr _ _ _ _ k10 k11 k12 k13 zao zao zao zao) rfl ⟨rfl,kb⟩
theorem nL {a:Nat} (ha:a<4294967296):(BitVec.ofInt 32 (a:Int)).toNat=a:=by
 rw[BitVec.ofInt_natCast,BitVec.toNat_ofNat];exact zA4 ha
theorem eV {a:Nat} (ha:a<4294967296):IntKind.u32.wrap (a:Int)=(a:Int):=by
 exact ze4
theorem dW (a:Nat):IntKind.u32.wrap (a:Int)=((a%4294967296:Nat):Int):=by
 exact zeD
theorem fK {a b:Nat} (ha:a<4294967296) (hb:b<4294967296):bits .xor .u32 (a:Int) (b:Int)=((a ^^^b:Nat):Int):=by
 show IntKind.u32.wrap ((BitVec.ofInt 32 (a:Int) ^^^BitVec.ofInt 32 (b:Int)).toNat:Int)=_
 rw[BitVec.toNat_xor,nL ha,nL hb];exact eV (zA29 (n:=32) ha hb)
theorem fp {a b:Nat} (ha:a<4294967296) (hb:b<4294967296):bits .or .u32 (a:Int) (b:Int)=((a |||b:Nat):Int):=by
 show IntKind.u32.wrap ((BitVec.ofInt 32 (a:Int) |||BitVec.ofInt 32 (b:Int)).toNat:Int)=_
 rw[BitVec.toNat_or,nL ha,nL hb];exact eV (Nat.or_lt_two_pow (n:=32) ha hb)
theorem tz {a b:Nat} (ha:a<4294967296) (hb:b<4294967296):bits .and .u32 (a:Int) (b:Int)=((a &&&b:Nat):Int):=by
 show IntKind.u32.wrap ((BitVec.ofInt 32 (a:Int) &&&BitVec.ofInt 32 (b:Int)).toNat:Int)=_
 rw[BitVec.toNat_and,nL ha,nL hb];exact eV (zA9 Nat.and_le_left ha)
def ws (l:List Nat):List Value:=l.map fun(x:Nat)=>.int .u32 (x:Int)
theorem a7 (l:List Nat):(ws l).length=l.length:=by simp[ws]
theorem oH (l:List Nat):∀v∈ws l,v.oneCell'=true:=by
 intro v hv;simp only[ws,List.mem_map]at hv;exact zeg
theorem bL {l:List Nat} {j:Nat} (h:j<l.length):(ws l)[j]? =some (.int .u32 ((l.getD j 0:Nat):Int)):=by
 simp[ws,h]
theorem eX (l:List Nat) (j x:Nat):(ws l).set j (.int .u32 (x:Int))=ws (l.set j x):=by
 simp[ws,List.map_set]
def W32 (l:List Nat):Prop:=∀x∈l,x<4294967296
theorem W32.get {l:List Nat} (h:W32 l) (j:Nat):l.getD j 0<4294967296:=by
 rw[zA10];cases e:l[j]? with
 |none=>decide
 |some x=>exact h x (List.mem_of_getElem? e)
theorem W32.set {l:List Nat} (h:W32 l) (j:Nat) {x:Nat} (hx:x<4294967296):W32 (l.set j x):=by
 intro y hy;rcases List.mem_or_eq_of_mem_set hy with h1|rfl
 ·exact h y h1
 ·exact hx
def rl (x k:Nat):Nat:=(x*2^k%4294967296) |||(x/2^(32-k))
theorem iQ {x:Nat} (hx:x<4294967296) (k:Nat):rl x k<4294967296:=
 Nat.or_lt_two_pow (n:=32) (zA1 _ zDc) (zA9 (zA21 _ _) hx)
theorem rF {x y:Nat} (hx:x<4294967296) (hy:y<4294967296):x ^^^y<4294967296:=zA29 (n:=32) hx hy
def qa (l:List Nat) (a b:Nat):List Nat:=l.set a ((l.getD a 0+l.getD b 0)%4294967296)
def qx (l:List Nat) (d a k:Nat):List Nat:=l.set d (rl (l.getD d 0 ^^^l.getD a 0) k)
def qr (l:List Nat) (a b c d:Nat):List Nat:=qx (qa (qx (qa (qx (qa (qx (qa l a b) d a 16) c d) b c 12) a b) d a 8) c d) b c 7
theorem rh (l:List Nat) (a b:Nat):(qa l a b).length=l.length:=by simp[qa]
theorem ri (l:List Nat) (d a k:Nat):(qx l d a k).length=l.length:=by simp[qx]
theorem pw (l:List Nat) (a b c d:Nat):(qr l a b c d).length=l.length:=by simp only[qr,rh,ri]
theorem rN {l:List Nat} (h:W32 l) (a b:Nat):W32 (qa l a b):=h.set a (zA1 _ zDc)
theorem rO {l:List Nat} (h:W32 l) (d a k:Nat):W32 (qx l d a k):=h.set d (iQ (rF (h.get d) (h.get a)) k)
theorem uC {l:List Nat} (h:W32 l) (a b c d:Nat):W32 (qr l a b c d):=rO (rN (rO (rN (rO (rN (rO (rN h _ _) _ _ _) _ _) _ _ _) _ _) _ _ _) _ _) _ _ _
end Go.Proofs.YtgfkgolafkdjfaaGreatDoor
