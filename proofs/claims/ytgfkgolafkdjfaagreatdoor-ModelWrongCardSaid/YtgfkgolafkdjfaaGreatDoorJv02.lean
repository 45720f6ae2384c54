/- ModelWrong: part 2 of its proof: lemmas and contracts, each with its conditions in its own statement; the last part holds the law itself. -/
import Derived.Test.YtgfkgolafkdjfaaGreatDoorJv01
import Derived.OrdersHeld
import Derived.RegionTactic
import Derived.Test.YtgfkgolafkdjfaaGreatDoorRows
import Derived.Deep.CutRange
import Derived.Deep.CutBlock
import Derived.StillTailTactics
import Derived.Shelf.Spec.BitsCarry
import Derived.WalkKit
import Derived.Lib.Mul64
import Derived.Laws.Bits64b

set_option maxHeartbeats 4000000
set_option maxRecDepth 100000
namespace Go.Proofs.YtgfkgolafkdjfaaGreatDoor
open Go.RowKit
section
variable {P:Program} {ops:Array Oper} {Q:Exit→Act→World→Prop}
theorem uI {md:Region.Mode} {S S':World→Prop} (hSS:∀w,S' w→S w):∀(fuel:Nat) (listed:Array Bool) (a:Act) (w:World),wpAnyH P md ops Q S' fuel listed a w→wpAnyH P md ops Q S fuel listed a w
 |0,_,_,_,h=>h
 |fuel+1,_,_,_,h=>⟨h.1,fun i hi=>wpOp_mono (fun a' w' h'=>⟨hSS w' h'.1,uI hSS fuel _ a' w' h'.2⟩) (h.2 i hi)⟩
def jr (n d:Nat):Array Bool:=((List.range n).map fun i=>d.testBit i).toArray
theorem Er (n:Nat):Array.replicate n false=jr n 0:=by
 apply Array.ext';simp only[jr,Array.toList_replicate];apply List.ext_getElem<;>simp
theorem jt (n d i:Nat):(jr n d).setIfInBounds i true=jr n (d |||2^i):=by
 apply Array.ext';simp only[jr,Array.toList_setIfInBounds];apply List.ext_getElem
 ·simp
 ·intro j h1 h2;rw[List.getElem_set];simp only[List.getElem_map,List.getElem_range,Nat.testBit_or,Nat.testBit_two_pow];split
  ·rename_i e;subst e;simp
  ·rename_i e;simp[e]
def NoP (Q:Exit→Act→World→Prop):Exit→Act→World→Prop
 | .panic _,_,_=>False
 |e,a,w=>Q e a w
theorem NoP.imp {Q:Exit→Act→World→Prop}:∀(e:Exit) (a:Act) (w:World),NoP Q e a w→Q e a w:=fun e a w h=>by
 cases e<;>first|exact h|exact(h:False).elim
def Txt (P:Program) (l:List Oper) (Q:Exit→Act→World→Prop) (S:World→Prop) (f d:Nat) (a:Act) (w:World):Prop:=
 wpAnyH P .any l.toArray (NoP Q) S f (jr l.length d) a w
theorem Txt.start {l:List Oper} {id:Nat} {a:Act} {w:World} (S:World→Prop) (n:Nat) (hn:l.length=n) (hm:P.follows .mixedOrders=true) (h:Txt P l Q S n 0 a w.drew):(Code.region id l.toArray true).wp P Q a w:=by
 refine Code.wp_mono NoP.imp (wp_region_held (S:=S) hm ?_);subst hn;rw[Er];exact h
def rd (P:Program) (l:List Oper) (w:World):List Nat→Act→Act→Prop
 | [],a,A=>a=A
 |i::is,a,A=>∃o,l[i]? =some o∧((Region.wanted o (yielded l.toArray a.tmps)=true∧∃v,(execOp a.eval o).run P w=.ok (.value v) w∧rd P l w is (a.put o.dst v) A)∨
  (Region.wanted o (yielded l.toArray a.tmps)=false∧rd P l w is (a.put o.dst undef) A))
theorem eo {l:List Oper} {w:World} {a:Act}:rd P l w [] a a:=rfl
theorem cj {l:List Oper} {w:World} {i:Nat} {is:List Nat} {a A:Act} {o:Oper} {v:Value} (hi:l[i]? =some o) (hw:Region.wanted o (yielded l.toArray a.tmps)=true)
 (hr:(execOp a.eval o).run P w=.ok (.value v) w) (h:rd P l w is (a.put o.dst v) A):rd P l w (i::is) a A:=⟨o,hi,.inl ⟨hw,v,hr,h⟩⟩
theorem db {l:List Oper} {w:World} {i:Nat} {is:List Nat} {a A:Act} {o:Oper} (hi:l[i]? =some o) (hw:Region.wanted o (yielded l.toArray a.tmps)=false)
 (h:rd P l w is (a.put o.dst undef) A):rd P l w (i::is) a A:=⟨o,hi,.inr ⟨hw,h⟩⟩
def Fo (l:List Oper):List Nat→List Nat
 | []=>[]
 |i::is=>match l[i]? with|some o=>(match o.dst with|some d=>d::Fo l is|none=>Fo l is)|none=>Fo l is
theorem Ak {a:Act} {d d':Nat} {v:Value} (h:d'≠d):(a.put (some d) v).tmps[d']? =a.tmps[d']? :=by
 simp only[Act.put];rw[Array.getElem?_setIfInBounds];rw[if_neg (fun e=>h e.symm)]
theorem ox {a:Act} {d:Option Nat} {v:Value}:(a.put d v).tmps.size=a.tmps.size:=by
 cases d<;>simp[Act.put]
theorem mQ {a:Act} {d:Nat} {v:Value} (h:d<a.tmps.size):(a.put (some d) v).tmps[d]? =some v:=by
 simp only[Act.put];rw[Array.getElem?_setIfInBounds,if_pos rfl,if_pos h]
theorem CP {l:List Oper} {w:World} {d:Nat}:∀(is:List Nat) (a A:Act),(Fo l is).contains d=false→rd P l w is a A→A.tmps[d]? =a.tmps[d]?
 | [],a,A,_,h=>by rw[show a=A from h]
 |i::is,a,A,hd,⟨o,hi,h⟩=>by
  have xM:(Fo l is).contains d=false∧∀v,(a.put o.dst v).tmps[d]? =a.tmps[d]? :=by
   cases jR:o.dst with
   |none=>simp only[Fo,hi,jR]at hd;exact⟨hd,fun v=>rfl⟩
   |some d'=>
    simp only[Fo,hi,jR,List.contains_cons,Bool.or_eq_false_iff,beq_eq_false_iff_ne]at hd;exact⟨hd.2,fun v=>Ak hd.1⟩
  rcases h with⟨_,v,_,h⟩|⟨_,h⟩
  ·rw[CP is _ A xM.1 h,xM.2]
  ·rw[CP is _ A xM.1 h,xM.2]
def lJ (l:List Oper) (size:Nat):Nat→Nat→Nat→List Nat→Nat→Bool
 |f',f,d,[],d'=>f'==f&&d==d'
 |f',f,d,i::is,d'=>(match f with|0=>false|f+1=>lJ l size f' f (d |||2^i) is d')&&Region.free .any l.toArray (jr l.length d) i&&(Region.ready .any l.toArray (jr l.length d)).contains i&&
  (match l[i]? with|some o=>(match o.dst with|some e=>decide (e<size)&& !(Fo l is).contains e|none=>false)|none=>false)
theorem AW {l:List Oper} {S:World→Prop} {i:Nat} {is:List Nat} {o:Oper} {a A:Act} {w:World} {d:Nat} (hi:l[i]? =some o) (hd:o.dst=some d) (bK:d<a.tmps.size) (vC:(Fo l is).contains d=false) (hS:S w) (h:∀w',S w'→rd P l w' (i::is) a A):
 ∃v,YieldsIf P l.toArray S o v a∧∀w',S w'→rd P l w' is (a.put o.dst v) A:=by
 by_cases hw:Region.wanted o (yielded l.toArray a.tmps)=true
 ·have key:∀w',S w'→∃v,(execOp a.eval o).run P w'=.ok (.value v) w'∧rd P l w' is (a.put o.dst v) A:=by
   intro w' hS';obtain⟨o',Zs,h1⟩:=h w' hS';rw[hi]at Zs;cases Zs;rcases h1 with⟨_,h1⟩|⟨h1,_⟩
   ·exact h1
   ·rw[hw]at h1;cases h1
  have same:∀w',S w'→∀v,rd P l w' is (a.put o.dst v) A→A.tmps[d]? =some v:=by
   intro w' _ v h1;rw[CP is _ A vC h1,hd,mQ bK]
  obtain⟨v,h1,h2⟩:=key w hS;have hv:=same w hS v h2;refine⟨v,.inl ⟨hw,fun w' hS'=>?_⟩,fun w' hS'=>?_⟩<;>
  ·obtain⟨v',YJ,h2'⟩:=key w' hS';have hv':=same w' hS' v' h2';rw[hv]at hv';cases hv'
   first|exact YJ|exact h2'
 ·have hw':Region.wanted o (yielded l.toArray a.tmps)=false:=(by simpa using hw);refine⟨undef,.inr ⟨hw',rfl⟩,fun w' hS'=>?_⟩;obtain⟨o',Zs,h1⟩:=h w' hS';rw[hi]at Zs;cases Zs;rcases h1 with⟨h1,_⟩|⟨_,h1⟩
  ·exact absurd h1 hw
  ·exact h1
theorem Txt.seg {l:List Oper} {S:World→Prop} {w:World} {A:Act} (f' d':Nat) (hs:Region.noSelect l.toArray=true) (hS:S w):
 ∀(is:List Nat) {f d:Nat} {a:Act},lJ l a.tmps.size f' f d is d'=true→(∀w',S w'→rd P l w' is a A)→Txt P l Q S f' d' A w→Txt P l Q S f d a w
 | [],f,d,a,ee,h,H=>by
  simp only[lJ,Bool.and_eq_true,beq_iff_eq]at ee;obtain⟨rfl,rfl⟩:=ee;rw[show a=A from h w hS];exact H
 |i::is,0,d,a,ee,h,H=>by simp[lJ]at ee
 |i::is,f+1,d,a,ee,h,H=>by
  simp only[lJ,Bool.and_eq_true]at ee;obtain⟨⟨⟨Ca,hf⟩,hr⟩,hd⟩:=ee;cases hi:l[i]? with
  |none=>rw[hi]at hd;cases hd
  |some o=>
   rw[hi]at hd;cases jR:o.dst with
   |none=>simp[jR]at hd
   |some e=>
    simp only[jR]at hd;simp only[Bool.and_eq_true,decide_eq_true_eq,Bool.not_eq_true']at hd;obtain⟨v,hy,Pk⟩:=AW (P:=P) hi jR hd.1 hd.2 hS h;have ih:=Txt.seg f' d' hs hS is (f:=f) (d:=d |||2^i) (a:=a.put o.dst v) (by rw[ox];exact Ca) Pk H;unfold Txt;refine wpAnyH_take (oi:=o) (v:=v) zag hs hf hr (fun c a w hq=>hq) hy hS ?_;rw[jt];exact ih
theorem Txt.eff {l:List Oper} {S:World→Prop} {w:World} {f d:Nat} {a:Act} {o:Oper} (i d':Nat) (ho:l[i]? =some o) (hr:(Region.ready .any l.toArray (jr l.length d)== [i]&&(d |||2^i)==d')=true)
 (h:∀K:Act→World→Prop,(∀(S':World→Prop) a' w',S w'→(∀w'',S' w''→S w'')→Txt P l Q S' f d' a' w'→K a' w')→if Region.wanted o (yielded l.toArray a.tmps)=true then Oper.wp P o a w K (NoP Q)else K (a.put o.dst undef) w):Txt P l Q S (f+1) d a w:=by
 simp only[Bool.and_eq_true,beq_iff_eq]at hr;obtain⟨hr,rfl⟩:=hr;unfold Txt;refine wpAnyH_all hr zac ?_;intro j hj;simp only[List.mem_singleton]at hj;subst hj;refine wpOp_step (o:=o) zai fun K hK=>?_;refine h K fun S' a' w' h1 h2 h3=>hK _ _ ⟨h1,?_⟩;rw[jt];exact uI h2 _ _ _ _ h3
theorem Txt.done {l:List Oper} {S:World→Prop} {w:World} {f d:Nat} {a:Act} (hk:Region.ready .any l.toArray (jr l.length d)=[]) (h:Q .normal a w):Txt P l Q S f d a w:=
 wpAnyH_done (Q:=NoP Q) hk h _
end
def aw (k n:Nat):List Value:=(bF 18446744073709551616 k n).map fun(x:Nat)=>.int .u64 (x:Int)
def ay (n:Nat):List Value:=(bF 256 32 n).map fun(x:Nat)=>.int .u8 (x:Int)
theorem aF (k n:Nat):(aw k n).length=k:=by simp[aw,bj]
theorem aZ (n:Nat):(ay n).length=32:=by simp[ay,bj]
theorem bQ (k n i:Nat) (h:i<k):(aw k n)[i]? =some (.int .u64 ((n/18446744073709551616^i%18446744073709551616:Nat):Int)):=by simp[aw,eG _ _ _ _ h]
theorem bH (n i:Nat) (h:i<32):(ay n)[i]? =some (.int .u8 ((n/256^i%256:Nat):Int)):=by simp[ay,eG _ _ _ _ h]
theorem lw (k n:Nat):∀v∈aw k n,v.oneCell'=true:=by
 intro v hv;simp only[aw,List.mem_map]at hv;exact zeg
theorem jO (n:Nat):∀v∈ay n,v.oneCell'=true:=by
 intro v hv;simp only[ay,List.mem_map]at hv;exact zeg
theorem qY (n:Nat) (w:World):
 CB 207 #[.agg (aw 4 n).toArray] w (.agg (ay n).toArray):=by
 go_enter Tryz.func207,Tryz.ntmps207;go_wp2_with fail;refine bZ (fun W aB h1 h2 h3 hb=>?_);go_loopw[5] (fun kv wr=>∃k:Nat,k≤32∧kv=.int .i64 k∧Arr wr w.heap.size (aw 4 n)∧Arr wr (w.heap.size+1+1) (part k (ay n) (.int .u8 0))∧Arr wr (w.heap.size+1) (List.replicate 32 (.int .u8 0))∧Below w.heap.size w wr) (fun kv _=>32-(intOf kv).toNat)
 case atStart=>exact⟨0,zA28 _,rfl,h1,h3,h2,hb⟩
 case round=>
  obtain⟨k,hk,rfl,k1,k3,k2,kb⟩:=hrel;clear h1 h2 h3 hb aB
  by_cases bK:k<32
  ·have hc:=k1.cell (bQ 4 n (k/8) zOm);have hf:=k3.frozen k;have hd:=k3.cell (j:=k) (u:=.int .u8 0) (by rw[te k k (ay n) (.int .u8 0) (by rw[aZ];exact bK),if_neg zOm]);go_wp2_with fail;have e:(n:Int)/18446744073709551616^(k/8)%18446744073709551616/2^(8*(k%8))%256=((n/256^k%256:Nat):Int):=by
    rw[←NR];simp
   rw[e];refine⟨⟨k+1,by omega,by go_num,k1.other zab _,?_,k2.other zac _,kb.setCell zab _⟩,by simp[intOf];omega⟩;have:=k3.set k (.int .u8 ((n/256^k%256:Nat):Int));rwa[CC (bH n k bK)]at this
  ·obtain rfl:k=32:=zOm;have h4:Arr wr (w.heap.size+1+1) (ay n):=by
    have e:=CA (ay n) (.int .u8 0);rw[aZ]at e;rwa[e]at k3
   have hl:=aZ n;have fQ:∀v∈ay n,v.oneCell'=true:=by
    intro v hv;simp only[ay,List.mem_map]at hv;exact zeg
   clear k3;go_wp2_with(first|(refine eA rfl 27 _ rfl (w.heap.size+1+1) rfl _ Tryz.underlying27 rfl _ h4 zaj ?_)|(refine aQ rfl 27 _ _ rfl (w.heap.size+1) (ay n) rfl rfl _ k2 zaj (by rw[hl];simp) fQ ?_));refine bodyPost_ret (v:=.agg (ay n).toArray) (kF Tryz.results207 _ _ (w.heap.size+1) _ rfl Tryz.underlying27 rfl _ (k2.setRow _) zaj) rfl ⟨rfl,ah kb zOm _⟩
theorem ig:(Tryz.prog.info? 5).map (fun i=>(i.zero,i.size,i.bytes))=some (some (.int .u8 0),1,1):=by kernel_rfl
theorem Mr {n k l0 b0:Nat} (hl:n%256^k/18446744073709551616^(k/8)%18446744073709551616=l0) (hb:n/256^k%256=b0):
 bits .or .u64 (l0:Int) (IntKind.u64.wrap ((b0*2^(8*(k%8)):Nat):Int))=((n%256^(k+1)/18446744073709551616^(k/8)%18446744073709551616:Nat):Int):=by
 obtain⟨h1,h2,h3⟩:=aeq n k;have e:(2:Nat)^(8*(k%8))=256^(k%8):=zae;rw[h1,hb];rw[hb]at h3;have pI:n%256^k/18446744073709551616^(k/8)=l0:=(by rw[←hl];exact(zA4 zOm).symm);rw[pI]at h2 h3⊢;clear hl pI h1 hb;rw[e];generalize 256^(k%8)=P at*;have h4:(b0*P)%2^(8*(k%8))=0:=(by rw[e];exact Nat.mul_mod_left _ _);have h5:l0<2^(8*(k%8)):=(by rw[e];exact h2);generalize b0*P=x at*;have hw:IntKind.u64.wrap (x:Int)=(x:Int):=zak;rw[hw,u64_or_nat _ _ zOm zOm];congr 1;rw[Nat.or_comm,nat_join _ _ _ h4 h5,Nat.add_comm]
theorem HH (n k:Nat):(aw 4 (n%256^k)).set (k/8) (.int .u64 ((n%256^(k+1)/18446744073709551616^(k/8)%18446744073709551616:Nat):Int))=aw 4 (n%256^(k+1)):=by
 apply List.ext_getElem?;intro j
 by_cases hj:j<4
 ·rw[List.getElem?_set,bQ _ _ _ hj,bQ _ _ _ hj,aF]
  by_cases h1:k/8=j
  ·subst h1;rw[if_pos rfl,if_pos hj]
  ·rw[if_neg h1];rcases Nat.lt_or_ge j (k/8)with h2|h2
   ·rw[Sd n k j h2]
   ·rw[Mq n k j zOm]
 ·exact zfw
theorem ku (n:Nat) (hn:n<256^32) (w:World):
 CB 193 #[.agg (ay n).toArray] w (.agg (aw 4 n).toArray):=by
 have fP:=aZ n;go_enter Tryz.func193,Tryz.ntmps193;go_upto_region 2 with fail
 refine bZ (fun W aB h1 h2 h3 hb=>?_);go_wp2_with(refine eA rfl 27 _ rfl w.heap.size rfl _ Tryz.underlying27 rfl _ h1 zam ?_);clear h1;go_loopw[7] (fun kv wr=>∃k:Nat,k≤32∧kv=.int .i64 k∧Arr wr (w.heap.size+1+1) (aw 4 (n%256^k))∧Arr wr (w.heap.size+1) (aw 4 0)∧Below w.heap.size w wr) (fun kv _=>32-(intOf kv).toNat)
 case atStart=>exact⟨0,zA28 _,rfl,by rw[Nat.pow_zero,Nat.mod_one];exact h3,h2,hb⟩
 case round=>
  obtain⟨k,hk,rfl,k3,k2,kb⟩:=hrel;clear h2 h3 hb aB
  by_cases bK:k<32
  ·have hc:=k3.cell (bQ 4 (n%256^k) (k/8) zOm);have hf:=k3.frozen (k/8);have Uo:=bH n k bK;obtain⟨b0,iG⟩:=zX (n/256^k%256);obtain⟨l0,BW⟩:=zX (n%256^k/18446744073709551616^(k/8)%18446744073709551616);rw[iG]at Uo;rw[BW]at hc;have mK:b0<256:=zOm;have nt:l0<18446744073709551616:=zOm;have Za:=zH iG;have ZC:=zH BW;clear iG BW;obtain⟨i,hi,jN,jA,jB⟩:=info_parts ig;have hix:=px (P:=Tryz.prog) wr 27 5 32 _ i Tryz.underlying27 Tryz.underlying5 rfl hi jA (ay n) k _ bK Uo;go_wp2_with fail;have JR:(0:Int)≤(k:Int)/8:=zOm;have wI:(k:Int)/8<4:=zOm;have ew1:IntKind.i64.wrap ((k:Int)/8)=(k:Int)/8:=i64_in zOm;have et:((k:Int)/8).toNat=k/8:=zOm;have em:((k:Int)).tmod 8=(k:Int)%8:=zA17 zOm;have eb:IntKind.u64.wrap (b0:Int)=(b0:Int):=zak;have xO:(0:Int)≤8*((k:Int)%8):=zOm;have ew2:IntKind.i64.wrap ((k:Int)%8)=(k:Int)%8:=i64_in zOm
   have ew3:IntKind.i64.wrap (8*((k:Int)%8))=8*((k:Int)%8):=i64_in zOm;go_still_tail 12,zKr;change wpList _ _ _ _ _ wr.drew;have pH:wr.drew.cell? ⟨w.heap.size+1+1,k/8,none⟩=some (.int .u64 (l0:Int)):=hc;have hf2:wr.drew.frozen? ⟨w.heap.size+1+1,k/8,none⟩=false:=hf;go_wp2_with fail;have afN:(8*((k:Int)%8)).toNat=8*(k%8):=zOm;try rw[afN]
   rw[show(b0:Int)*2^(8*(k%8))=((b0*2^(8*(k%8)):Nat):Int) by simp,Mr ZC.out Za.out];refine⟨⟨k+1,by omega,by go_num,?_,(k2.other zac _),(kb.setCell zab _).drew⟩,by simp[intOf];omega⟩;have:=k3.set (k/8) (.int .u64 ((n%256^(k+1)/18446744073709551616^(k/8)%18446744073709551616:Nat):Int));rw[HH]at this;exact this
  ·obtain rfl:k=32:=zOm;rw[zA4 hn]at k3;have hl:=aF 4 n;have fQ:∀v∈aw 4 n,v.oneCell'=true:=by
    intro v hv;simp only[aw,List.mem_map]at hv;exact zeg
   go_wp2_with(first|(refine eA rfl 240 _ rfl (w.heap.size+1+1) rfl _ Tryz.underlying240 rfl _ k3 zaj ?_)|(refine aQ rfl 240 _ _ rfl (w.heap.size+1) (aw 4 n) rfl rfl _ k2 zaj (by rw[hl,aF]) fQ ?_));refine bodyPost_ret (v:=.agg (aw 4 n).toArray) (kF Tryz.results193 _ _ (w.heap.size+1) _ rfl Tryz.underlying240 rfl _ (k2.setRow _) zaj) rfl ⟨rfl,ah kb zOm _⟩
theorem Xf (x y c:Nat) (hc:c≤1) (w:World):
 (callFunc 224 #[.int .u64 x,.int .u64 y,.int .u64 c]).run Tryz.prog w=
  .ok (.value (.tuple #[.int .u64 (((x+y+c)%18446744073709551616:Nat):Int),.int .u64 (((x+y+c)/18446744073709551616:Nat):Int)])) w:=by
 rw[run_callFunc_extern Tryz.func224 zKr zKr zKr (e:=add64Entry) zKr,run_add64 x y c zOm zOm zOm zOm];simp only[Result.andThen];congr 5<;>omega
theorem aeF (x y b:Nat) (hb:b≤1) (w:World):
 (callFunc 242 #[.int .u64 x,.int .u64 y,.int .u64 b]).run Tryz.prog w=
  .ok (.value (.tuple #[.int .u64 (((x+18446744073709551616-y-b)%18446744073709551616:Nat):Int),.int .u64 ((if x<y+b then 1 else 0:Nat):Int)])) w:=by
 rw[run_callFunc_extern Tryz.func242 zKr zKr zKr (e:=sub64Entry) zKr,run_sub64 x y b hb];rfl
theorem ke (a b:Nat) (w:World):
 Calls Tryz.prog 226 #[.agg (aw 4 a).toArray,.agg (aw 4 b).toArray] w fun e w'=>
  e=.returned (.tuple #[.agg (aw 4 (a+b)).toArray,.int .u64 (jH 18446744073709551616 4 a b:Nat)])∧Below w.heap.size w w':=by
 go_enter Tryz.func226,Tryz.ntmps226;go_upto_region 2 with fail
 refine GB (fun W aB h1 h2 h3 h4 hb=>?_);go_wp2_with fail;go_loopw[7,9] (fun cv kv wr=>∃k:Nat,k≤4∧kv=.int .i64 k∧cv=.int .u64 (jH 18446744073709551616 k a b:Nat)∧Arr wr w.heap.size (aw 4 a)∧Arr wr (w.heap.size+1) (aw 4 b)∧Arr wr (w.heap.size+1+1) (aw 4 0)∧Arr wr (w.heap.size+1+1+1) (part k (aw 4 (a+b)) (.int .u64 0))∧Below w.heap.size w wr) (fun _ kv _=>4-(intOf kv).toNat)
 case atStart=>exact⟨0,zA28 _,rfl,by rw[uM];rfl,h1,h2,h3,h4,hb⟩
 case round=>
  obtain⟨k,hk,rfl,rfl,k1,k2,k3,k4,kb⟩:=hrel;clear h1 h2 h3 h4 hb aB;have lU:=sh 18446744073709551616 k a b zDc
  by_cases bK:k<4
  ·have ha:=k1.cell (bQ 4 a k bK);have kK:=k2.cell (bQ 4 b k bK);obtain⟨x,hx⟩:=zX (a/18446744073709551616^k%18446744073709551616);obtain⟨y,hy⟩:=zX (b/18446744073709551616^k%18446744073709551616);obtain⟨c,hc⟩:=zX (jH 18446744073709551616 k a b);have hd:=sf 18446744073709551616 k a b zDc;have hs:=uL 18446744073709551616 k a b zDc;rw[hx,hy,hc]at hd hs;rw[hx]at ha;rw[hy]at kK;rw[hc]at lU⊢;have hx:=zH hx;have hy:=zH hy;clear hc;have Uq:=zH hd;have L7:=zH hs;clear hd hs;obtain⟨s,hs⟩:=zX ((x+y+c)%18446744073709551616);obtain⟨t,ht⟩:=zX ((x+y+c)/18446744073709551616);have Fz:=fun w=>Xf x y c lU w;rw[hs,ht]at Fz;have Fz:=zH Fz;have aB:=aF 4 (a+b);have cZ:=k4.cell (j:=k) (u:=.int .u64 0) zan;have oZ:=k4.frozen k;have Dv:=zH hs;have AQ:=zH ht;clear hs ht;have XS:(0:Int)≤(k:Int):=zOm;have hk4:(k:Int)<4:=zOm;go_wp2_with fail
   refine Txt.start ((fun w'=>wr.grownBy w' (some (w.heap.size+1+1+1)))) 15 rfl zKr ?_;refine Txt.seg (A:=?_) 2 8191 zKr (by exact(fX (World.grownBy.refl wr _))) [0,1,2,3,4,5,6,7,8,9,10,11,12] zKr ?_ ?_;rotate_left
   ·intro w' hB;have e1:=(k1.kept hB zOm).cell (bQ 4 a k bK);have e2:=(k2.kept hB zOm).cell (bQ 4 b k bK);rw[hx.out]at e1;rw[hy.out]at e2;have e3:=Fz.out w';iterate 13 (first|(refine db rfl rfl ?_;simp only[Act.put,zSa,zSz,zSs])|fail|(refine cj (v:=?_) rfl rfl ?_ ?_;rotate_left;(focus (go_simp;try(with_reducible rfl)));simp only[Act.put,zSa,zSz,zSs]))
    exact eo
   have sq:wr.drew.cell? ⟨w.heap.size+1+1+1,k,none⟩=some (.int .u64 0):=cZ;have FD:wr.drew.frozen? ⟨w.heap.size+1+1+1,k,none⟩=false:=oZ;refine Txt.eff 13 16383 rfl zDk (fun K hK=>?_);go_simp;refine hK (fun w'=>wr.grownBy w' (some (w.heap.size+1+1+1))) _ _ (fX (k4.grown _ _)) (fun _ h=>h) ?_;clear hK;try simp only[Act.put,zSa,zSz,zSs]
   refine Txt.seg (A:=?_) 0 32767 zKr (by exact(fX (k4.grown _ _))) [14] zKr ?_ ?_;rotate_left
   ·intro w' hB;iterate 1 (first|(refine db rfl rfl ?_;simp only[Act.put,zSa,zSz,zSs])|fail|(refine cj (v:=?_) rfl rfl ?_ ?_;rotate_left;(focus (go_simp;try(with_reducible rfl)));simp only[Act.put,zSa,zSz,zSs]))
    exact eo
   refine Txt.done zKr ?_;go_wp2_with fail;have ep:=k4.set k (.int .u64 (s:Int));rw[CC (by rw[bQ 4 (a+b) k bK,Uq.out,Dv.out])]at ep;exact zeh
  ·obtain rfl:k=4:=zOm;have hl:=aF 4 (a+b);have h5:Arr wr (w.heap.size+1+1+1) (aw 4 (a+b)):=by
    have e:=CA (aw 4 (a+b)) (.int .u64 0);rw[hl]at e;rwa[e]at k4
   clear k4;go_wp2_with(first|(refine eA rfl 240 _ rfl (w.heap.size+1+1+1) rfl _ Tryz.underlying240 rfl _ h5 zaj ?_)|(refine aQ rfl 240 _ _ rfl (w.heap.size+1+1) (aw 4 (a+b)) rfl rfl _ k3 zaj (by rw[hl,aF]) (lw _ _) ?_));refine bodyPost_ret (aT Tryz.results226 _ _ (w.heap.size+1+1) _ rfl Tryz.underlying240 rfl _ (k3.setRow _) zaj _ rfl) rfl ⟨rfl,ah kb zOm _⟩
theorem mn (a b:Nat) (hab:b≤a+18446744073709551616^4) (w:World):
 Calls Tryz.prog 221 #[.agg (aw 4 a).toArray,.agg (aw 4 b).toArray] w fun e w'=>
  e=.returned (.tuple #[.agg (aw 4 (a+18446744073709551616^4-b)).toArray,.int .u64 (fg 18446744073709551616 4 a b:Nat)])∧Below w.heap.size w w':=by
 go_enter Tryz.func221,Tryz.ntmps221;go_upto_region 2 with fail
 refine GB (fun W aB h1 h2 h3 h4 hb=>?_);go_wp2_with fail;go_loopw[7,9] (fun cv kv wr=>∃k:Nat,k≤4∧kv=.int .i64 k∧cv=.int .u64 (fg 18446744073709551616 k a b:Nat)∧Arr wr w.heap.size (aw 4 a)∧Arr wr (w.heap.size+1) (aw 4 b)∧Arr wr (w.heap.size+1+1) (aw 4 0)∧Arr wr (w.heap.size+1+1+1) (part k (aw 4 (a+18446744073709551616^4-b)) (.int .u64 0))∧Below w.heap.size w wr) (fun _ kv _=>4-(intOf kv).toNat)
 case atStart=>exact⟨0,zA28 _,rfl,by rw[zO];rfl,h1,h2,h3,h4,hb⟩
 case round=>
  obtain⟨k,hk,rfl,rfl,k1,k2,k3,k4,kb⟩:=hrel;clear h1 h2 h3 h4 hb aB;have lU:=D1 18446744073709551616 k a b
  by_cases bK:k<4
  ·have ha:=k1.cell (bQ 4 a k bK);have kK:=k2.cell (bQ 4 b k bK);obtain⟨x,hx⟩:=zX (a/18446744073709551616^k%18446744073709551616);obtain⟨y,hy⟩:=zX (b/18446744073709551616^k%18446744073709551616);obtain⟨c,hc⟩:=zX (fg 18446744073709551616 k a b);have hd:=wh 18446744073709551616 k 4 a b zDc bK hab;have hs:=zN 18446744073709551616 k a b zDc;rw[hx,hy,hc]at hd hs;rw[hx]at ha;rw[hy]at kK;rw[hc]at lU⊢;have hx:=zH hx;have hy:=zH hy;clear hc;have Uq:=zH hd;have L7:=zH hs;clear hd hs;obtain⟨s,hs⟩:=zX ((x+18446744073709551616-y-c)%18446744073709551616);obtain⟨t,ht⟩:=zX (if x<y+c then 1 else 0);have Fz:=fun w=>aeF x y c lU w;rw[hs,ht]at Fz;have Fz:=zH Fz;have aB:=aF 4 (a+18446744073709551616^4-b);have cZ:=k4.cell (j:=k) (u:=.int .u64 0) zan;have oZ:=k4.frozen k;have Dv:=zH hs;have AQ:=zH ht;clear hs ht;have XS:(0:Int)≤(k:Int):=zOm
   have hk4:(k:Int)<4:=zOm;go_wp2_with fail;refine Txt.start ((fun w'=>wr.grownBy w' (some (w.heap.size+1+1+1)))) 15 rfl zKr ?_;refine Txt.seg (A:=?_) 2 8191 zKr (by exact(fX (World.grownBy.refl wr _))) [0,1,2,3,4,5,6,7,8,9,10,11,12] zKr ?_ ?_;rotate_left
   ·intro w' hB;have e1:=(k1.kept hB zOm).cell (bQ 4 a k bK);have e2:=(k2.kept hB zOm).cell (bQ 4 b k bK);rw[hx.out]at e1;rw[hy.out]at e2;have e3:=Fz.out w';iterate 13 (first|(refine db rfl rfl ?_;simp only[Act.put,zSa,zSz,zSs])|fail|(refine cj (v:=?_) rfl rfl ?_ ?_;rotate_left;(focus (go_simp;try(with_reducible rfl)));simp only[Act.put,zSa,zSz,zSs]))
    exact eo
   have sq:wr.drew.cell? ⟨w.heap.size+1+1+1,k,none⟩=some (.int .u64 0):=cZ;have FD:wr.drew.frozen? ⟨w.heap.size+1+1+1,k,none⟩=false:=oZ;refine Txt.eff 13 16383 rfl zDk (fun K hK=>?_);go_simp;refine hK (fun w'=>wr.grownBy w' (some (w.heap.size+1+1+1))) _ _ (fX (k4.grown _ _)) (fun _ h=>h) ?_;clear hK;try simp only[Act.put,zSa,zSz,zSs]
   refine Txt.seg (A:=?_) 0 32767 zKr (by exact(fX (k4.grown _ _))) [14] zKr ?_ ?_;rotate_left
   ·intro w' hB;iterate 1 (first|(refine db rfl rfl ?_;simp only[Act.put,zSa,zSz,zSs])|fail|(refine cj (v:=?_) rfl rfl ?_ ?_;rotate_left;(focus (go_simp;try(with_reducible rfl)));simp only[Act.put,zSa,zSz,zSs]))
    exact eo
   refine Txt.done zKr ?_;go_wp2_with fail;have ep:=k4.set k (.int .u64 (s:Int));rw[CC (by rw[bQ 4 (a+18446744073709551616^4-b) k bK,Uq.out,Dv.out])]at ep;exact zeh
  ·obtain rfl:k=4:=zOm;clear hab;have hl:=aF 4 (a+18446744073709551616^4-b);have h5:Arr wr (w.heap.size+1+1+1) (aw 4 (a+18446744073709551616^4-b)):=by
    have e:=CA (aw 4 (a+18446744073709551616^4-b)) (.int .u64 0);rw[hl]at e;rwa[e]at k4
   clear k4;go_wp2_with(first|(refine eA rfl 240 _ rfl (w.heap.size+1+1+1) rfl _ Tryz.underlying240 rfl _ h5 zaj ?_)|(refine aQ rfl 240 _ _ rfl (w.heap.size+1+1) (aw 4 (a+18446744073709551616^4-b)) rfl rfl _ k3 zaj (by rw[hl,aF]) (lw _ _) ?_));refine bodyPost_ret (aT Tryz.results221 _ _ (w.heap.size+1+1) _ rfl Tryz.underlying240 rfl _ (k3.setRow _) zaj _ rfl) rfl ⟨rfl,ah kb zOm _⟩
theorem ma {a b:Nat} (ha:a<18446744073709551616^4) (hb:b<18446744073709551616^4):fg 18446744073709551616 4 a b=if a<b then 1 else 0:=by
 unfold fg;rw[zA4 ha,zA4 hb]
theorem HE (a b:Nat) (ha:a<18446744073709551616^4) (hb:b<18446744073709551616^4) (w:World):
 CB 201 #[.agg (aw 4 a).toArray,.agg (aw 4 b).toArray] w (.bool (decide (a<b))):=by
 have Jq:=zH (ma ha hb);go_enter Tryz.func201,Tryz.ntmps201;go_upto_region 1 with fail
 refine be (fun W aB h1 h2 iG=>?_);go_wp2_with(first|(refine eA rfl 240 (.tmp 2) rfl w.heap.size rfl _ Tryz.underlying240 rfl _ h1 zao ?_)|(refine eA rfl 240 (.tmp 3) rfl (w.heap.size+1) rfl _ Tryz.underlying240 rfl _ h2 zao ?_));refine zQ (mn a b zOm W) fun w2 hb2=>?_;rw[Jq.out];have nj:Hid (Below w.heap.size w w2):=iG.trans (hb2.mono zOm);have hz:Hid (w.heap.size≤w2.heap.size):=nj.out.size;clear iG hb2 h1 h2 aB
 by_cases bK:a<b
 ·rw[if_pos bK];exact zdQ
 ·rw[if_neg bK];exact zdQ
open Go.RowKit Go.Lib
namespace M64
theorem maskN (a:Nat) (ha:a<18446744073709551616):bits .and .u64 (a:Int) 4294967295=((a%4294967296:Nat):Int):=by
 have h:=bits_and_u64_nat a 4294967295 ha zOm;have e:a &&&4294967295=a%4294967296:=Nat.and_two_pow_sub_one_eq_mod a 32;rw[e]at h;exact h
theorem divN (a:Nat):(a:Int)/4294967296=((a/4294967296:Nat):Int):=by omega
theorem mulN (a b:Nat):(a:Int)*(b:Int)=((a*b:Nat):Int):=(Int.natCast_mul a b).symm
theorem addN (a b:Nat):(a:Int)+(b:Int)=((a+b:Nat):Int):=(Int.natCast_add a b).symm
theorem wrapN (a:Nat) (ha:a<18446744073709551616):IntKind.u64.wrap (a:Int)=(a:Int):=by rw[IntKind.wrap_u64];omega
theorem wrapM (a:Nat):IntKind.u64.wrap (a:Int)=((a%18446744073709551616:Nat):Int):=by rw[IntKind.wrap_u64];omega
end M64
theorem HW (x y:Nat) (hx:x<18446744073709551616) (hy:y<18446744073709551616) (w:World):
 Calls Tryz.prog 153 #[.int .u64 x,.int .u64 y] w fun e w'=>e=.returned (.tuple #[.int .u64 ((x*y/18446744073709551616:Nat):Int),.int .u64 ((x*y%18446744073709551616:Nat):Int)])∧w'=w:=by
 obtain⟨bd,bt,bw,Zr⟩:=Lib.mul64_hi x y hx hy;have ba:=Lib.half_mul_le (a:=x/4294967296) (b:=y/4294967296) zOm zOm;have bb:=Lib.half_mul_le (a:=x/4294967296) (b:=y%4294967296) zOm zOm;have bc:=Lib.half_mul_le (a:=x%4294967296) (b:=y/4294967296) zOm zOm;have ba':x/4294967296*(y/4294967296)<18446744073709551616:=zOm;have bb':x/4294967296*(y%4294967296)<18446744073709551616:=zOm;have bc':x%4294967296*(y/4294967296)<18446744073709551616:=zOm;have bh1:x/4294967296*(y/4294967296)+(x/4294967296*(y%4294967296)+x%4294967296*(y%4294967296)/4294967296)/4294967296<18446744073709551616:=zOm;have bh:x/4294967296*(y/4294967296)+(x/4294967296*(y%4294967296)+x%4294967296*(y%4294967296)/4294967296)/4294967296+((x/4294967296*(y%4294967296)+x%4294967296*(y%4294967296)/4294967296)%4294967296+x%4294967296*(y/4294967296))/4294967296<18446744073709551616:=zOm;go_enter Tryz.func153,Tryz.ntmps153;go_wp2
 simp only[M64.maskN x hx,M64.maskN y hy,M64.divN,M64.mulN,M64.addN,M64.wrapN _ bd,M64.wrapN _ bb',M64.wrapN _ bt,M64.maskN _ bt,M64.wrapN _ bc',M64.wrapN _ bw,M64.wrapN _ ba',M64.wrapN _ bh1,M64.wrapN _ bh,M64.wrapM (x*y)];rw[Zr];go_ret2;exact⟨rfl,rfl⟩
theorem Be (x y:Nat) (w:World):
 (callFunc 224 #[.int .u64 x,.int .u64 y,.int .u64 0]).run Tryz.prog w=
  .ok (.value (.tuple #[.int .u64 (((x+y)%18446744073709551616:Nat):Int),.int .u64 (((x+y)/18446744073709551616:Nat):Int)])) w:=
 Xf x y 0 zDc w
def us (ds:List Nat):List Value:=ds.map fun(x:Nat)=>.int .u64 (x:Int)
theorem Mf (k n:Nat):aw k n=us (bF 18446744073709551616 k n):=rfl
theorem agM (ds:List Nat):(us ds).length=ds.length:=by simp[us]
theorem Gz (ds:List Nat) (j x:Nat) (h:ds[j]? =some x):(us ds)[j]? =some (.int .u64 (x:Int)):=by simp[us,h]
theorem K4 (ds:List Nat) (j x:Nat):(us ds).set j (.int .u64 (x:Int))=us (ds.set j x):=by simp[us,List.map_set]
theorem agN (ds:List Nat):∀v∈us ds,v.oneCell'=true:=by
 intro v hv;simp only[us,List.mem_map]at hv;exact zeg
def val (b:Nat):List Nat→Nat
 | []=>0
 |d::ds=>d+b*val b ds
theorem qC (b k:Nat):val b (List.replicate k 0)=0:=by
 induction k with
 |zero=>rfl
 |succ k ih=>rw[List.replicate_succ,val,ih,Nat.mul_zero]
theorem rC (b:Nat):∀(ds:List Nat) (j d x:Nat),ds[j]? =some d→val b (ds.set j x)+b^j*d=val b ds+b^j*x
 | [],j,d,x,h=>by simp at h
 |e::ds,0,d,x,h=>by
  simp only[List.getElem?_cons_zero,Option.some.injEq]at h;subst h;simp only[List.set_cons_zero,val,Nat.pow_zero];omega
 |e::ds,j+1,d,x,h=>by
  simp only[zA33]at h;have:=rC b ds j d x h;have h2:=congrArg (b* ·) this;simp only[Nat.mul_add,←zA26]at h2;simp only[List.set_cons_succ,val,zA24,Nat.mul_comm (b^j) b];omega
theorem ir (b k n:Nat):val b (bF b k n)=n%b^k:=by
 induction k generalizing n with
 |zero=>simp[bF,val,Nat.mod_one]
 |succ k ih=>
  have e:bF b (k+1) n=n%b::bF b k (n/b):=by
   exact zdZ
  rw[e,val,ih,zA24,Nat.mul_comm (b^k) b,Nat.mod_mul]
theorem jQ (b:Nat) (hb:0<b):∀(ds:List Nat),(∀d∈ds,d<b)→bF b ds.length (val b ds)=ds
 | [],_=>rfl
 |d::ds,h=>by
  have hd:=h d zac;have ih:=jQ b hb ds (fun x hx=>h x (by simp[hx]));have e:bF b (ds.length+1) (d+b*val b ds)=(d+b*val b ds)%b::bF b ds.length ((d+b*val b ds)/b):=by
   exact zdZ
  rw[List.length_cons,val,e,zA27,zA4 hd,zA30 _ _ hb,zA32 hd,Nat.zero_add,ih]
theorem nD (b k n:Nat) (hb:0<b):∀d∈bF b k n,d<b:=by
 intro d hd;simp only[bF,List.mem_map]at hd;obtain⟨i,-,rfl⟩:=hd;exact zA1 _ hb
theorem zI (b:Nat) (hb:0<b):∀(ds:List Nat),(∀d∈ds,d<b)→val b ds<b^ds.length
 | [],_=>by simp[val]
 |d::ds,h=>by
  have hd:=h d zac;have ih:=zI b hb ds (fun x hx=>h x (by simp[hx]));have:=Nat.mul_le_mul_left b ih;rw[Nat.mul_succ]at this;rw[val,List.length_cons,zA24,Nat.mul_comm (b^ds.length) b];omega
theorem Gn {b:Nat} {ds:List Nat} (h:∀d∈ds,d<b) {j x:Nat} (hx:x<b):∀d∈ds.set j x,d<b:=by
 intro d hd;rcases List.mem_or_eq_of_mem_set hd with h1|h1
 ·exact h d h1
 ·rw[h1];exact hx
end Go.Proofs.YtgfkgolafkdjfaaGreatDoor
