/- ModelWrong: part 27 of its proof: lemmas and contracts, each with its conditions in its own statement; the last part holds the law itself. -/
import Derived.Test.YtgfkgolafkdjfaaGreatDoorJv26
import Derived.RangeFuncBox
import Derived.RangeFuncLeaves
import Derived.RangeFuncCalls
import Derived.Shelf.Abstract
import Derived.WalkKit
import Derived.OwnWalkIn
import Derived.TacticsInMore
import Derived.LoopNIn
import Derived.LoopIn
import Derived.Maps.AppendAt
import Derived.RangeFuncNested
import Derived.RangeFuncBound
import Derived.Lib.Builder
import Derived.Lib.AppendStr

set_option maxHeartbeats 4000000
set_option maxRecDepth 100000
namespace Go.Proofs.YtgfkgolafkdjfaaGreatDoor
open Go.RowKit
theorem If {A B:List UInt8} {n:Nat} (h:A.length=n):AF (A++B) false (n:Int)=(A,B,false):=by
 unfold AF;rw[if_neg zDc,if_neg zbF];rw[show(n:Int).toNat=n from Int.toNat_natCast n,←h,List.take_left,List.drop_left]
theorem Rs {v:Int} {B:List UInt8} (h: -9223372036854775808≤v∧v≤9223372036854775807):Rr (jG v++B) false=(v,B,false):=by
 unfold Rr;rw[show(8:Int)=((8:Nat):Int)from rfl,If (cg v)];simp only[WA h]
def Ka (v b:Int) (root:Nat) (wl:List UInt8) (i:Int) (k:Nat) (cs sg:List UInt8):List UInt8:=rT++(jG v++(jG b++(nb 32 root++(wl++(jG i++(nb 32 k++(cs++(sg++[]))))))))
theorem FT (v b:Int) (root:Nat) (wl:List UInt8) (i:Int) (k R1 s1:Nat) (sg:List UInt8):fj v b root wl i k R1 s1++sg=Ka v b root wl i k (nb 32 R1++nb 32 s1) sg:=by
 simp[fj,Ka,bS]
theorem LD {w w1 w2:World} {g g3:Nat} (h:w.grownBy w1 (some g)) (k:w1.grownBy w2 (some g3)) (h3:w.heap.size≤g3):w.grownBy w2 (some g):=
 ⟨k.os.trans h.os,k.tape.trans h.tape,k.output.trans h.output,zA14 h.size k.size,fun i hi hn=>(k.block i (zA3 hi h.size) (fun e=>by cases e;omega)).trans (h.block i hi hn)⟩
theorem AL {w w1 w2:World} {r:Option Nat} (h:w.grownBy w1 r) (k:w1.grownBy w2 r):w.grownBy w2 r:=
 ⟨k.os.trans h.os,k.tape.trans h.tape,k.output.trans h.output,zA14 h.size k.size,fun i hi hn=>(k.block i (zA3 hi h.size) hn).trans (h.block i hi hn)⟩
theorem CBuf.keptN {w w':World} {g k:Nat} {v:Value} {rest:List UInt8} (h:CBuf w g v rest) (hg:w.grownBy w' (some k)) (hk:g<k):CBuf w' g v rest:=by
 rcases h with h|⟨b,o,cap,rfl,h1,h2,h3,h4,h5⟩
 ·exact .inl h
 ·exact ze0
theorem Cur.keptN {w w':World} {g k:Nat} {rest:List UInt8} {bad:Bool} (h:Cur w g rest bad) (hg:w.grownBy w' (some k)) (hk:g<k):Cur w' g rest bad:=by
 have bK:=h.lt;obtain⟨v,h1,h2,h3,h4,h5⟩:=h;have hb:w'.heap[g]? =w.heap[g]? :=hg.block g bK (fun e=>by cases e;omega);have hc:∀i,w'.cell? ⟨g,i,none⟩=w.cell? ⟨g,i,none⟩:=fun i=>by simp only[World.cell?,hb]
 have hf:∀i,w'.frozen? ⟨g,i,none⟩=w.frozen? ⟨g,i,none⟩:=fun i=>by simp only[World.frozen?,hb]
 exact⟨v,by rw[hc];exact h1,by rw[hc];exact h2,by rw[hf];exact h3,by rw[hf];exact h4,h5.keptN hg hk⟩
theorem acd (n:Nat) (N:List Value) (hl:N.length=n):(ag n 0).take 0++N.take n++(ag n 0).drop (0+n)=N:=by
 rw[List.take_zero,List.nil_append,zA8 zOm,List.drop_eq_nil_of_le za4,zA31]
theorem ace (N:List Value) (hl:N.length=64):(mS 0 0).take 0++N.take 64++(mS 0 0).drop (0+64)=N:=by
 rw[List.take_zero,List.nil_append,zA8 zOm,List.drop_eq_nil_of_le (by rw[fI];omega),zA31]
section
variable (g:Nat) (A B:List UInt8) (w:World)
theorem xe (n:Nat) (hc:Cur w g (A++B) false) (hA:A.length=n) (hr:(A++B).length≤140737488355328):
 Calls Tryz.prog 119 #[.pointer (some ⟨g,0,none⟩),.int .i64 (n:Int)] w fun e w'=>∃v,e=.returned v∧w'.ownsRow w.heap.size 5 1 v n (aJ A)∧w.grownBy w' (some g)∧Cur w' g B false:=by
 have q:=Mx g (A++B) false (n:Int) w hc hr;rw[If hA]at q;refine q.mono ?_;rintro e w' ⟨v,he,ho,hg,Zj⟩;rw[hA]at ho;exact⟨v,he,ho,hg,Zj⟩
theorem CG (v:Int) (hv: -9223372036854775808≤v∧v≤9223372036854775807) (hc:Cur w g (jG v++B) false) (hr:(jG v++B).length≤140737488355328):
 Calls Tryz.prog 120 #[.pointer (some ⟨g,0,none⟩)] w fun e w'=>e=.returned (.int .i64 v)∧w.grownBy w' (some g)∧Cur w' g B false:=by
 have q:=Ma g (jG v++B) false w hc hr;rw[Rs hv]at q;exact q
theorem H5 (N:Nat) (hc:Cur w g (nb 32 N++B) false) (hr:(nb 32 N++B).length≤140737488355328):
 Calls Tryz.prog 121 #[.pointer (some ⟨g,0,none⟩)] w fun e w'=>e=.returned (.agg (ag 32 N).toArray)∧w.grownBy w' (some g)∧Cur w' g B false:=by
 have mM:Hid ((Tryz.prog.info? 5).map (·.size)=some 1):=zH zKr;have hl:=hc.lt;replace hc:=zH hc;replace hr:=zH hr;go_enter Tryz.func121,Tryz.ntmps121;go_upto_region 2 with fail
 refine be (fun W aB k2 k3 kb=>?_);replace k2:Arr W w.heap.size (ag 32 0):=k2;replace k3:Arr W (w.heap.size+1) (ag 32 0):=k3;have hcW:=hc.out.below kb;have hgW:w.grownBy W (some g):=bO kb;obtain⟨g2,j9⟩:=zX w.heap.size;rw[j9]at k2 k3⊢;clear aB;refine eC (fun w'=>W.grownBy w' (some g)) 3 4 rfl zKr ?_;have iG:Below W.heap.size W W.drew:=(zA6 _ _).drew;have hS0:W.grownBy W.drew (some g):=bO iG;refine eZ ?_ 2 3 zcd [0,1] (fun _ _=>zRd) ?_;refine aY 2 7 rfl zDk (fun K hK=>?_);go_simp;refine(xe g (nb 32 N) B W.drew 32 (hcW.below iG) (by simp[aC]) hr.out).mono ?_;rintro e w1 ⟨v,rfl,ho,Zn,jX⟩;have hS1:W.grownBy w1 (some g):=AL hS0 Zn;refine hK (fun w'=>W.grownBy w' (some g)) _ _ hS1 (fun _ h=>h) ?_;clear hK K hS0 Zn;try simp only[Act.put,zSa,zSz,zSs]
 replace k2:=qE k2 hS1 zOm;replace k3:=qE k3 hS1 zOm;have kQ:=hS1.size;have Ho:=k3.lt;refine bf 15 rfl zDk (fun K hK=>?_);refine mu rfl _ _ 24 24 rfl 5 Tryz.underlying24 mM.out (g2+1) 0 32 32 rfl _ k3 zb8 _ rfl (aJ (nb 32 N)) (Sl.of_own ho) (dr _) 32 (by rw[zA15,ai];simp[aC]) (ag 32 N) (by rw[←eB];exact acd 32 _ (aa _ _)) (fun W3 k3 hg aB=>?_);replace k2:=k2.kept hg zOm;have IR:=jX.keptN hg zOm;have Eh:=LD (AL hgW hS1) hg zOm;replace IR:=zH IR;clear hS1 jX ho hg hcW hgW;refine hK (fun _=>True) 9999 _ _ ?_;clear hK K;try simp only[Act.put]
 try simp only[zSa,zSz,zSs]
 refine ap zKr ?_;go_wp2_with(first|(refine ab rfl _ _ rfl _ rfl zDk _ k3 zbx ?_)|(refine aD rfl _ _ _ rfl _ (ag 32 N) rfl rfl _ k2 zbx za3 (bm _ _) (fun w9 k2 kP ie=>?_)));have XJ:=IR.out.keptN kP zOm;exact bodyPost_ret (aj Tryz.results121 _ _ _ rfl zKr _ k2 zbx) rfl ⟨rfl,LD Eh kP zOm,XJ⟩
theorem Ib (R s:Nat) (hc:Cur w g (nb 32 R++nb 32 s++B) false) (hr:(nb 32 R++nb 32 s++B).length≤140737488355328):
 Calls Tryz.prog 122 #[.pointer (some ⟨g,0,none⟩)] w fun e w'=>e=.returned (.agg (mS R s).toArray)∧w.grownBy w' (some g)∧Cur w' g B false:=by
 have mM:Hid ((Tryz.prog.info? 5).map (·.size)=some 1):=zH zKr;have hl:=hc.lt;replace hc:=zH hc;replace hr:=zH hr;go_enter Tryz.func122,Tryz.ntmps122;go_upto_region 2 with fail
 refine be (fun W aB k2 k3 kb=>?_);replace k2:Arr W w.heap.size (mS 0 0):=k2;replace k3:Arr W (w.heap.size+1) (mS 0 0):=k3;have hcW:=hc.out.below kb;have hgW:w.grownBy W (some g):=bO kb;obtain⟨g2,j9⟩:=zX w.heap.size;rw[j9]at k2 k3⊢;clear aB;refine eC (fun w'=>W.grownBy w' (some g)) 3 4 rfl zKr ?_;have iG:Below W.heap.size W W.drew:=(zA6 _ _).drew;have hS0:W.grownBy W.drew (some g):=bO iG;refine eZ ?_ 2 3 zcd [0,1] (fun _ _=>zRd) ?_;refine aY 2 7 rfl zDk (fun K hK=>?_);go_simp;refine(xe g (nb 32 R++nb 32 s) B W.drew 64 (hcW.below iG) (by simp[aC]) hr.out).mono ?_;rintro e w1 ⟨v,rfl,ho,Zn,jX⟩;have hS1:W.grownBy w1 (some g):=AL hS0 Zn;refine hK (fun w'=>W.grownBy w' (some g)) _ _ hS1 (fun _ h=>h) ?_;clear hK K hS0 Zn;try simp only[Act.put,zSa,zSz,zSs]
 replace k2:=qE k2 hS1 zOm;replace k3:=qE k3 hS1 zOm;have kQ:=hS1.size;have Ho:=k3.lt;refine bf 15 rfl zDk (fun K hK=>?_);refine mu rfl _ _ 24 24 rfl 5 Tryz.underlying24 mM.out (g2+1) 0 64 64 rfl _ k3 (by rw[fI];decide) _ rfl (aJ (nb 32 R++nb 32 s)) (Sl.of_own ho) (dr _) 64 (by rw[zA15,ai];simp[aC]) (mS R s) (by rw[bE,Gp];exact ace _ (fI _ _)) (fun W3 k3 hg aB=>?_);replace k2:=k2.kept hg zOm;have IR:=jX.keptN hg zOm;have Eh:=LD (AL hgW hS1) hg zOm;replace IR:=zH IR;clear hS1 jX ho hg hcW hgW;refine hK (fun _=>True) 9999 _ _ ?_;clear hK K;try simp only[Act.put]
 try simp only[zSa,zSz,zSs]
 refine ap zKr ?_;go_wp2_with(first|(refine ab rfl _ _ rfl _ rfl zDk _ k3 zce ?_)|(refine aD rfl _ _ _ rfl _ (mS R s) rfl rfl _ k2 zce (by rw[fI,fI]) (tR _ _) (fun w9 k2 kP ie=>?_)));have XJ:=IR.out.keptN kP zOm;exact bodyPost_ret (aj Tryz.results122 _ _ _ rfl zKr _ k2 zce) rfl ⟨rfl,LD Eh kP zOm,XJ⟩
end
theorem tN {A old cs C:List Value} {o:Nat} (ho:A.length=o) (hl:old.length=cs.length):gJ o cs (A++(old++C))=A++(cs++C):=by
 subst ho;rw[gJ,List.take_left];congr 2;rw[←zA16];exact List.drop_left' (by simp[hl])
section
variable (v b:Int) (root:Nat) (wv:Value) (i:Int) (k R1 s1 R s:Nat)
theorem R0 (x:Int):(bU v b root wv i k R1 s1 R s).set 1 (.int .i64 x)=bU v x root wv i k R1 s1 R s:=rfl
theorem RW (x:Nat):gJ 2 (ag 32 x) (bU v b root wv i k R1 s1 R s)=bU v b x wv i k R1 s1 R s:=
 tN (A:=[.int .i64 v,.int .i64 b]) (old:=ag 32 root) rfl za3
theorem Yc (x:Int):bU v b root wv x k R1 s1 R s=(.int .i64 v::.int .i64 b::(ag 32 root++[wv]))++([.int .i64 x]++(ay k++mS R1 s1++mS R s)):=by simp[bU,jZ]
theorem Oa (x:Int):(bU v b root wv i k R1 s1 R s).set 35 (.int .i64 x)=bU v b root wv x k R1 s1 R s:=by
 rw[Yc v b root wv k R1 s1 R s i,Yc v b root wv k R1 s1 R s x,List.set_append_right (h:=by simp[aa])];simp[aa]
theorem RV (x:Nat):bU v b root wv i x R1 s1 R s=(.int .i64 v::.int .i64 b::(ag 32 root++[wv,.int .i64 i]))++(ay x++(mS R1 s1++mS R s)):=by simp[bU,jZ]
theorem N8 (x:Nat):gJ 36 (ag 32 x) (bU v b root wv i k R1 s1 R s)=bU v b root wv i x R1 s1 R s:=by
 rw[RV v b root wv i R1 s1 R s k,RV v b root wv i R1 s1 R s x,←dJ];exact tN zcb (by rw[aZ,aZ])
theorem Yd (x y:Nat):bU v b root wv i k x y R s=(.int .i64 v::.int .i64 b::(ag 32 root++(wv::.int .i64 i::ay k)))++(mS x y++mS R s):=by simp[bU,jZ]
theorem N9 (x y:Nat):gJ 68 (mS x y) (bU v b root wv i k R1 s1 R s)=bU v b root wv i k x y R s:=by
 rw[Yd v b root wv i k R s R1 s1,Yd v b root wv i k R s x y];exact tN (by simp[aa,aZ]) (by rw[fI,fI])
end
structure MrI (w0:World) (g2 gc gm:Nat) (B:List UInt8) (xs:List Value) (w:World):Prop where
 c:Cur w gc B false
 m:Arr w gm xs
 r:Arr w g2 (bU 0 0 0 (.slice none 0 0) 0 0 0 0 0 0)
 b:Below w0.heap.size w0 w
 n:w0.heap.size≤g2∧g2<gc∧gc<gm
theorem MrI.rd {w0 w w':World} {g2 gc gm:Nat} {B B':List UInt8} {xs:List Value} (h:MrI w0 g2 gc gm B xs w) (hg:w.grownBy w' (some gc)) (hc:Cur w' gc B' false):MrI w0 g2 gc gm B' xs w':=by
 obtain⟨n1,n2,n3⟩:=h.n;exact⟨hc,qE h.m hg zOm,qE h.r hg zOm,gQ h.b hg zOm h.b.size,h.n⟩
theorem MrI.st {w0 w w':World} {g2 gc gm:Nat} {B:List UInt8} {xs ys:List Value} (h:MrI w0 g2 gc gm B xs w) (hg:w.grownBy w' (some gm)) (hm:Arr w' gm ys):MrI w0 g2 gc gm B ys w':=by
 obtain⟨n1,n2,n3⟩:=h.n;exact⟨h.c.keptN hg zOm,hm,qE h.r hg zOm,gQ h.b hg zOm h.b.size,h.n⟩
theorem MrI.below {w0 w w':World} {g2 gc gm:Nat} {B:List UInt8} {xs:List Value} (h:MrI w0 g2 gc gm B xs w) (hb:Below w.heap.size w w'):MrI w0 g2 gc gm B xs w':=
 ⟨h.c.below hb,h.m.below hb,h.r.below hb,az h.b hb,h.n⟩
theorem HT (v b:Int) (root:Nat) (vb:Value) (wl:List UInt8) (nA:wl.length=80) (i:Int) (k R1 s1 R s:Nat) (hv:0≤v) (lP:v≤2147483647) (hb:1≤b) (hb2:b≤32) (hi:td i=true) (w:World)
 (h:Sl w vb (aJ (Ka v b root wl i k (nb 32 R1++nb 32 s1) (nb 32 R++nb 32 s)))):
 Calls Tryz.prog 73 #[vb] w fun e w'=>∃g c',e=.returned (.tuple #[.agg (bU v b root (.slice (some ⟨g,0,none⟩) 80 c') i k R1 s1 R s).toArray,.int .i64 0])∧Sl w' (.slice (some ⟨g,0,none⟩) 80 c') (aJ wl)∧w.heap.size≤g∧Below w.heap.size w w':=by
 have hi3:0≤i∧i≤2147483647:=(by simpa[td]using hi);have XW:(Ka v b root wl i k (nb 32 R1++nb 32 s1) (nb 32 R++nb 32 s)).length=300:=by
  rw[←FT,zA5,mq _ _ _ _ _ _ _ _ nA,zA5,aC,aC]
 have hO:(Ka v b root wl i k (nb 32 R1++nb 32 s1) (nb 32 R++nb 32 s))=rT++(jG v++(jG b++(nb 32 root++(wl++(jG i++(nb 32 k++((nb 32 R1++nb 32 s1)++((nb 32 R++nb 32 s)++[])))))))):=rfl;obtain⟨OUT,hOe⟩:=zX (Ka v b root wl i k (nb 32 R1++nb 32 s1) (nb 32 R++nb 32 s));rw[hOe]at h XW hO;obtain⟨B7,h7⟩:=zX ((nb 32 R++nb 32 s)++[]);obtain⟨B6,h6⟩:=zX ((nb 32 R1++nb 32 s1)++B7);obtain⟨B5,h5⟩:=zX (nb 32 k++B6);obtain⟨B4,h4⟩:=zX (jG i++B5);obtain⟨B3,h3⟩:=zX (wl++B4);obtain⟨B2,h2⟩:=zX (nb 32 root++B3);obtain⟨B1,h1⟩:=zX (jG b++B2);obtain⟨B0,h0⟩:=zX (jG v++B1);rw[h7,h6,h5,h4,h3,h2,h1,h0]at hO;have r7:B7.length≤1000:=(by rw[←h7];simp[aC]);have r6:B6.length≤1100:=(by rw[←h6];simp[aC];omega);have r5:B5.length≤1200:=(by rw[←h5];simp[aC];omega);have r4:B4.length≤1300:=(by rw[←h4];simp[cg];omega);have r3:B3.length≤1400:=(by rw[←h3];simp[nA];omega);have r2:B2.length≤1500:=(by rw[←h2];simp[aC];omega)
 have r1:B1.length≤1600:=(by rw[←h1];simp[cg];omega);have r0:B0.length≤1700:=(by rw[←h0];simp[cg];omega);have cN:=zH (fun w' (hb:Below w.heap.size w w')=>Ah vb OUT w' (h.below hb) (by rw[XW];decide));have q0:=zH (fun gc w (hc:Cur w gc OUT false)=>show Calls Tryz.prog 119 #[.pointer (some ⟨gc,0,none⟩),.int .i64 4] w _ from xe gc rT B0 w 4 (by rw[←hO];exact hc) rfl (by rw[←hO,XW];decide));have q1:=zH (fun gc w (hc:Cur w gc B0 false)=>CG gc B1 w v zOm (by rw[h0];exact hc) (by rw[h0];omega));have q2:=zH (fun gc w (hc:Cur w gc B1 false)=>CG gc B2 w b zOm (by rw[h1];exact hc) (by rw[h1];omega));have q3:=zH (fun gc w (hc:Cur w gc B2 false)=>H5 gc B3 w root (by rw[h2];exact hc) (by rw[h2];omega));have q4:=zH (fun gc w (hc:Cur w gc B3 false)=>show Calls Tryz.prog 119 #[.pointer (some ⟨gc,0,none⟩),.int .i64 80] w _ from xe gc wl B4 w 80 (by rw[h3];exact hc) nA (by rw[h3];omega))
 have q5:=zH (fun gc w (hc:Cur w gc B4 false)=>CG gc B5 w i zOm (by rw[h4];exact hc) (by rw[h4];omega));have q6:=zH (fun gc w (hc:Cur w gc B5 false)=>H5 gc B6 w k (by rw[h5];exact hc) (by rw[h5];omega));have q7:=zH (fun gc w (hc:Cur w gc B6 false)=>Ib gc B7 w R1 s1 (by rw[h6];exact hc) (by rw[h6];omega));have q8:=zH (fun gc w (hc:Cur w gc B7 false)=>Ib gc [] w R s (by rw[h7];exact hc) (by rw[h7];omega));have q9:=zH (fun gc w (hc:Cur w gc [] false)=>Ly gc [] false w hc);have cB:=zH (fun gw cw w=>Mj v b root (some ⟨gw,0,none⟩) cw i k R1 s1 R s hv lP hb hb2 hi w);clear hOe hO h7 h6 h5 h4 h3 h2 h1 h0 XW hv lP hb hb2 hi hi3 r0 r1 r2 r3 r4 r5 r6 r7 h;go_enter Tryz.func73,Tryz.ntmps73;go_upto_region 1 with fail
 refine aH (fun W aB k2 kb=>?_);replace k2:Arr W w.heap.size (bU 0 0 0 (.slice none 0 0) 0 0 0 0 0 0):=k2;clear aB;go_wp2_with fail;refine(cN.out _ kb).mono ?_;rintro e w1 ⟨gc,rfl,QI,hc,hb⟩;have hW0:w.heap.size<W.heap.size:=k2.lt;replace k2:=k2.below hb;replace kb:=az kb hb;obtain⟨g2,j9⟩:=zX w.heap.size;have ac3:g2<gc:=zOm;rw[j9]at k2⊢;clear cN hb QI hW0;go_wp2_with fail;refine(q0.out _ _ hc).mono ?_;rintro e w2 ⟨vt,rfl,ho,hg,hc⟩;have ep:=mH (P:=Tryz.prog) (Sl.of_own ho) 24 5 9 Tryz.underlying24 Tryz.underlying5 Tryz.underlying9;obtain⟨gt,ct,rfl,-⟩:=gn ho zDc;have k2:=qE k2 hg zOm;have kb:=gQ kb hg zOm kb.size;clear ho hg;go_upto_region 3 with fail
 clear ep;go_wp2_with fail;refine(q1.out _ _ hc).mono ?_;rintro e w3 ⟨rfl,hg,hc⟩;have k2:=qE k2 hg zOm;have kb:=gQ kb hg zOm kb.size;clear hg;go_upto_region 4 with(first|(refine bi rfl _ _ rfl (bU v 0 0 (.slice none 0 0) 0 0 0 0 0 0).toArray zKr ?_)|(refine aD rfl _ _ _ rfl _ (bU v 0 0 (.slice none 0 0) 0 0 0 0 0 0) rfl rfl _ (Arr.new _ _ _) zcf zcf (jd _ _ _ _ _ _ _ _ _ _ rfl) (fun w4 km hz hs=>?_)))
 have aA:=a9 hz;have NF:=hc.lt;have hI:=zH (show MrI w g2 gc w3.heap.size B1 (bU v 0 0 (.slice none 0 0) 0 0 0 0 0 0) w4 from⟨hc.below aA,km,k2.below aA,az kb aA,⟨by omega,ac3,NF⟩⟩);obtain⟨gm,hgm⟩:=zX w3.heap.size;rw[hgm]at hI⊢;clear hgm aA km hc k2 kb hz hs NF ac3;go_wp2_with fail;refine(q2.out _ _ hI.out.c).mono ?_;rintro e w3 ⟨rfl,hg,hc⟩;replace hI:=zH (hI.out.rd hg hc);clear hg hc;go_upto_region 5 with(refine bM rfl _ _ _ rfl gm 1 (.int .i64 b) rfl rfl _ hI.out.m zDk (by rw[a8];decide) rfl (fun w4 km hz hs=>?_))
 rw[R0]at km;replace hI:=zH (hI.out.st hz km);clear km hz hs;go_wp2_with fail;refine(q3.out _ _ hI.out.c).mono ?_;rintro e w3 ⟨rfl,hg,hc⟩;replace hI:=zH (hI.out.rd hg hc);clear hg hc;go_upto_region 6 with(refine eU rfl _ _ _ rfl gm 2 (ag 32 root) rfl rfl _ hI.out.m zbx (by rw[aa,a8];decide) (bm _ _) (fun w4 km hz=>?_))
 rw[RW]at km;replace hI:=zH (hI.out.st hz km);clear km hz;have Hx:=hI.out.m.lt;go_wp2_with fail;refine(q4.out _ _ hI.out.c).mono ?_;rintro e w3 ⟨vw,rfl,ho,hg,hc⟩;obtain⟨gw,cw,rfl,AN,-,-,Q1⟩:=gn ho zDc;replace hI:=zH (hI.out.rd hg hc);have vy:gm<gw:=zOm;have hw:=zH (Sl.of_own ho);have Vb:gc<gw:=(by have:=hI.out.n;omega);clear ho hg hc Q1 AN Hx;go_upto_region 7 with(refine bM rfl _ _ _ rfl gm 34 (.slice (some ⟨gw,0,none⟩) 80 cw) rfl rfl _ hI.out.m zDk (by rw[a8];decide) rfl (fun w4 km hz hs=>?_))
 rw[Eu]at km;replace hw:=zH (hw.out.keptN hz (fun a n c' e=>by cases e;exact Nat.ne_of_gt vy));replace hI:=zH (hI.out.st hz km);clear km hz hs;go_wp2_with fail;refine(q5.out _ _ hI.out.c).mono ?_;rintro e w3 ⟨rfl,hg,hc⟩;replace hw:=zH (hw.out.keptN hg (fun a n c' e=>by cases e;exact Nat.ne_of_gt Vb));replace hI:=zH (hI.out.rd hg hc);clear hg hc;go_upto_region 8 with(refine bM rfl _ _ _ rfl gm 35 (.int .i64 i) rfl rfl _ hI.out.m zDk (by rw[a8];decide) rfl (fun w4 km hz hs=>?_))
 rw[Oa]at km;replace hw:=zH (hw.out.keptN hz (fun a n c' e=>by cases e;exact Nat.ne_of_gt vy));replace hI:=zH (hI.out.st hz km);clear km hz hs;go_wp2_with fail;refine(q6.out _ _ hI.out.c).mono ?_;rintro e w3 ⟨rfl,hg,hc⟩;replace hw:=zH (hw.out.keptN hg (fun a n c' e=>by cases e;exact Nat.ne_of_gt Vb));replace hI:=zH (hI.out.rd hg hc);clear hg hc;go_upto_region 9 with(refine eU rfl _ _ _ rfl gm 36 (ag 32 k) rfl rfl _ hI.out.m zbx (by rw[aa,a8];decide) (bm _ _) (fun w4 km hz=>?_))
 rw[N8]at km;replace hw:=zH (hw.out.keptN hz (fun a n c' e=>by cases e;exact Nat.ne_of_gt vy));replace hI:=zH (hI.out.st hz km);clear km hz;go_wp2_with fail;refine(q7.out _ _ hI.out.c).mono ?_;rintro e w3 ⟨rfl,hg,hc⟩;replace hw:=zH (hw.out.keptN hg (fun a n c' e=>by cases e;exact Nat.ne_of_gt Vb));replace hI:=zH (hI.out.rd hg hc);clear hg hc;go_upto_region 10 with(refine eU rfl _ _ _ rfl gm 68 (mS R1 s1) rfl rfl _ hI.out.m zce (by rw[fI,a8];decide) (tR _ _) (fun w4 km hz=>?_))
 rw[N9]at km;replace hw:=zH (hw.out.keptN hz (fun a n c' e=>by cases e;exact Nat.ne_of_gt vy));replace hI:=zH (hI.out.st hz km);clear km hz;go_wp2_with fail;refine(q8.out _ _ hI.out.c).mono ?_;rintro e w3 ⟨rfl,hg,hc⟩;replace hw:=zH (hw.out.keptN hg (fun a n c' e=>by cases e;exact Nat.ne_of_gt Vb));replace hI:=zH (hI.out.rd hg hc);clear hg hc;go_upto_region 11 with(refine eU rfl _ _ _ rfl gm 132 (mS R s) rfl rfl _ hI.out.m zce (by rw[fI,a8];decide) (tR _ _) (fun w4 km hz=>?_))
 rw[Cr]at km;replace hw:=zH (hw.out.keptN hz (fun a n c' e=>by cases e;exact Nat.ne_of_gt vy));replace hI:=zH (hI.out.st hz km);clear km hz;go_wp2_with fail;refine zQ (q9.out _ _ hI.out.c) fun w5 hw5=>?_;obtain rfl:w4=w5:=hw5.symm;rw[show U2 [] false=true from rfl];go_wp2_with(refine ab rfl _ _ rfl _ rfl zDk _ hI.out.m zcf ?_);refine zQ (cB.out _ _ _) fun w6 Nj=>?_;replace hI:=zH (hI.out.below Nj);replace hw:=zH (hw.out.below Nj);clear Nj;go_wp2_with(first|(refine ab rfl _ _ rfl _ rfl zDk _ hI.out.m zcf ?_)|(refine aD rfl _ _ _ rfl _ (bU v b root (.slice (some ⟨gw,0,none⟩) 80 cw) i k R1 s1 R s) rfl rfl _ hI.out.r zcf (by rw[a8,a8]) (jd _ _ _ _ _ _ _ _ _ _ rfl) (fun w7 k7 lW Hx=>?_)));have hn:=hI.out.n;have kb7:=gQ hI.out.b lW hn.1 hI.out.b.size;have hw7:=hw.out.keptN lW (fun a n c' e=>by cases e;show gw≠g2;omega)
 exact bodyPost_ret (aT Tryz.results73 _ _ _ _ rfl Tryz.underlying88 rfl _ k7 zcf _ rfl) rfl ⟨gw,cw,rfl,hw7,by omega,kb7⟩
section
variable {w:World} {g:Nat} {v b:Int} {root:Nat} {wv:Value} {i:Int} {k R1 s1 R s:Nat}
theorem RY (h:Arr w g (bU v b root wv i k R1 s1 R s)):w.rangeAt g 36 (ay k):=h.range (fun j hj=>by
 rw[RV];exact gW zcb j hj)
theorem RX (h:Arr w g (bU v b root wv i k R1 s1 R s)):w.rangeAt g 35 (jZ i k R1 s1):=h.range (fun j hj=>by
 have e:bU v b root wv i k R1 s1 R s=(.int .i64 v::.int .i64 b::(ag 32 root++[wv]))++(jZ i k R1 s1++mS R s):=(by simp[bU]);rw[e];exact gW zcb j hj)
theorem RZ (h:Arr w g (bU v b root wv i k R1 s1 R s)):w.rangeAt g 132 (mS R s):=h.range (fun j hj=>by
 have e:bU v b root wv i k R1 s1 R s=(.int .i64 v::.int .i64 b::(ag 32 root++(wv::jZ i k R1 s1)))++(mS R s++[]):=(by simp[bU]);rw[e];exact gW (by simp[aa,nO]) j hj)
end
theorem J7 (K:Nat) (v b:Int) (root:Nat) (a:Option Addr) (c:Nat) (wl:List UInt8) (nA:wl.length=80) (i:Int) (k R1 s1 R s:Nat) (hv:0≤v) (lP:v≤2147483647) (hb:1≤b) (hb2:b≤32) (hi:td i=true)
 (hK:K<256^32) (hk:k<256^32) (hR1:R1<256^32) (kQ:s1<256^32) (hR:R<256^32) (hs:s<256^32) {V1 V2:Bool} (e1:(td i&&AH K R1 s1 (jT++(bS [i]++nb 32 k)))=V1) (e2:AH k R s (fj v b root wl i k R1 s1)=V2)
 (w:World) (hw:Sl w (.slice a 80 c) (aJ wl)):
 CB 74 #[.agg (ay K).toArray,.agg (bU v b root (.slice a 80 c) i k R1 s1 R s).toArray] w (.int .i64 (if(V1&&V2)=true then 0 else 11)):=by
 have cB:=zH (fun w' (jW:Below w.heap.size w w')=>RR v b root a c wl nA i k R1 s1 R s hv lP hb hb2 hi w' (hw.below jW));have cC:=zH (fun w=>Jc K k R1 s1 i hK hR1 kQ w);rw[e1]at cC;obtain⟨B,hB⟩:=zX (fj v b root wl i k R1 s1);rw[hB]at e2 cB;have cV:=zH (fun(w:World) g (h:Sls w (.slice (some ⟨g,0,none⟩) 1 1) [B])=>show CB 127 #[.agg (ay k).toArray,.agg (mS R s).toArray,.slice (some ⟨g,0,none⟩) 1 1] w (.bool V2) from by
  have q:=zR k R s hk hR hs (some ⟨g,0,none⟩) 1 1 [B] zac w h;rw[show[B].flatten=B by simp,e2]at q;exact q)
 clear hv lP hb hb2 hi hK hk hR1 kQ hR hs e1 e2 hB hw nA;go_enter Tryz.func74,Tryz.ntmps74;go_upto_region 1 with fail
 refine be (fun W aB k2 k3 kb=>?_);replace k2:Arr W w.heap.size (ay K):=k2;replace k3:Arr W (w.heap.size+1) (bU v b root (.slice a 80 c) i k R1 s1 R s):=k3;clear aB;go_wp2_with(refine ab rfl _ _ rfl _ rfl zDk _ k3 zcf ?_);refine(cB.out _ kb).mono ?_;rintro e w1 ⟨u,rfl,ho,hb⟩;obtain⟨gu,cu,rfl,-⟩:=gn ho zDc;have hSu:=zH (Sl.of_own ho);replace k2:=k2.below hb;replace k3:=k3.below hb;replace kb:=az kb hb;clear hb ho cB;have y35:=RX k3;go_wp2_with(first|(refine ab rfl _ _ rfl _ rfl zDk _ k2 zam ?_)|(refine aE rfl _ _ rfl _ _ rfl zKr _ y35 (by rw[nO];kernel_rfl) ?_));refine zQ (cC.out _) fun w2 hb=>?_;replace k3:=k3.below hb;replace kb:=az kb hb;replace hSu:=zH (hSu.out.below hb);clear hb cC y35;cases V1
 ·skip;exact zc4
 have y36:=RY k3;have y132:=RZ k3;have FA:=ae w2 (.cells #[.slice (some ⟨gu,0,none⟩) 236 cu] 24);have hSls:=zH (Sls.new1 hSu.out 24);go_wp2_with(first|(refine aE rfl _ _ rfl _ _ rfl zKr _ y36 zam ?_)|(refine aE rfl _ _ rfl _ _ rfl zKr _ y132 zce ?_));refine zQ (cV.out _ _ hSls.out) fun w3 hb=>?_;replace kb:=az kb (az FA hb);clear hb FA hSls cV y36 y132 hSu k2 k3;cases V2
 ·skip;exact zc4
 exact zc4
def HD (L:List UInt8):Nat:=iT (0::L)
def Ag (a b:Nat):Nat:=iT (1::(nb 32 a++nb 32 b))
def Fk:Nat→Nat→Nat→Nat
 |0,_,k=>k
 |f+1,n,k=>if k<n-k then Fk f n (k*2)else k
def oM (n:Nat):Nat:=Fk 20 n 1
theorem Lq:∀f n k,0<k→k<n→0<Fk f n k∧Fk f n k<n
 |0,_,_,h0,h=>⟨h0,h⟩
 |f+1,n,k,h0,h=>by
  unfold Fk;split
  ·exact Lq f n (k*2) zOm zOm
  ·exact⟨h0,h⟩
theorem Lr {n:Nat} (h:2≤n):0<oM n∧oM n<n:=Lq 20 n 1 zOm zOm
theorem Sl.headG {w:World} {b o n c m:Nat} {vs:List Value} (h:Sl w (.slice (some ⟨b,o,none⟩) n c) vs) (hm:m≤vs.length):Sl w (.slice (some ⟨b,o,none⟩) m c) (vs.take m):=by
 obtain⟨a',c',h1,h2,h3,h4,h5⟩:=h;simp only[Value.slice.injEq]at h1;obtain⟨rfl,-,rfl⟩:=h1;have hl:(vs.take m).length=m:=za6;refine⟨_,c,by rw[hl],by rw[hl];omega,h3,h4,fun x hx j u hu=>h5 x hx j u ?_⟩;have hj:j<m:=by
  have:=(zA18.1 hu).1;rwa[hl]at this
 rw[←hu];simp[hj]
theorem Sl.tailG {w:World} {b o n c m:Nat} {vs:List Value} (h:Sl w (.slice (some ⟨b,o,none⟩) n c) vs) (hm:m≤vs.length):Sl w (.slice (some ⟨b,o+m,none⟩) (n-m) (c-m)) (vs.drop m):=by
 obtain⟨a',c',h1,h2,h3,h4,h5⟩:=h;simp only[Value.slice.injEq]at h1;obtain⟨rfl,rfl,rfl⟩:=h1;have hl:(vs.drop m).length=vs.length-m:=List.length_drop;refine⟨_,c-m,by rw[hl],by rw[hl];omega,by omega,fun h=>zaa,fun x hx j u hu=>?_⟩;cases hx;have:=h5 _ rfl (m+j) u (by rw[←hu];simp);rw[Addr.add_lit]at this⊢;rw[Nat.add_assoc];exact this
theorem Sls.take {w:World} {b o n c m:Nat} {ls:List (List UInt8)} (h:Sls w (.slice (some ⟨b,o,none⟩) n c) ls) (hm:m≤ls.length):Sls w (.slice (some ⟨b,o,none⟩) m c) (ls.take m):=by
 obtain⟨vs,h1,h2,h3⟩:=h;refine⟨vs.take m,h1.headG zOm,by simp[h2],fun j a b ha hb=>?_⟩;rw[List.getElem?_take]at ha hb;split at ha
 ·rename_i hj;rw[if_pos hj]at hb;exact h3 j a b ha hb
 ·cases ha
theorem Sls.drop {w:World} {b o n c m:Nat} {ls:List (List UInt8)} (h:Sls w (.slice (some ⟨b,o,none⟩) n c) ls) (hm:m≤ls.length):Sls w (.slice (some ⟨b,o+m,none⟩) (n-m) (c-m)) (ls.drop m):=by
 obtain⟨vs,h1,h2,h3⟩:=h;refine⟨vs.drop m,h1.tailG zOm,by simp[h2],fun j a b ha hb=>?_⟩;rw[List.getElem?_drop]at ha hb;exact h3 _ a b ha hb
def tf:Nat→List (List UInt8)→Nat
 |_,[]=>iT []
 |_,[b]=>HD b
 |0,_=>0
 |f+1,b1::b2::ls=>Ag (tf f ((b1::b2::ls).take (oM (b1::b2::ls).length))) (tf f ((b1::b2::ls).drop (oM (b1::b2::ls).length)))
theorem OM (f:Nat) (b:List UInt8):tf f [b]=HD b:=by cases f<;>rfl
theorem Kt (f:Nat) (b1 b2:List UInt8) (ls:List (List UInt8)):tf (f+1) (b1::b2::ls)=Ag (tf f ((b1::b2::ls).take (oM (b1::b2::ls).length))) (tf f ((b1::b2::ls).drop (oM (b1::b2::ls).length))):=rfl
def xo (ls:List (List UInt8)):Nat:=tf ls.length ls
open Go.RowKit Go.Shelf
attribute [local go_sem] Oper.semAt_some
def xd (L:Nat):Nat:=(L+63)/64
def KpC (n₁ Bs Bn:Nat) (W W':World):Prop:=Below n₁ W W'∧W'.heap[Bs]? =W.heap[Bs]? ∧W'.heap[Bn]? =W.heap[Bn]?
theorem KpC.refl (n₁ Bs Bn:Nat) (W:World):KpC n₁ Bs Bn W W:=⟨zA6 _ _,rfl,rfl⟩
theorem KpC.trans {n₁ Bs Bn:Nat} {A B C:World} (h:KpC n₁ Bs Bn A B) (k:KpC n₁ Bs Bn B C):KpC n₁ Bs Bn A C:=⟨h.1.trans k.1,k.2.1.trans h.2.1,k.2.2.trans h.2.2⟩
theorem KpC.drew {n₁ Bs Bn:Nat} {A B:World} (h:KpC n₁ Bs Bn A B):KpC n₁ Bs Bn A B.drew:=⟨h.1.drew,h.2.1,h.2.2⟩
theorem KpC.s {n₁ Bs Bn:Nat} {A B:World} (h:KpC n₁ Bs Bn A B):B.cell? ⟨Bs,0,none⟩=A.cell? ⟨Bs,0,none⟩:=World.cell?_of_block h.2.1
theorem KpC.n {n₁ Bs Bn:Nat} {A B:World} (h:KpC n₁ Bs Bn A B):B.cell? ⟨Bn,0,none⟩=A.cell? ⟨Bn,0,none⟩:=World.cell?_of_block h.2.2
open Go.RowKit Go.Shelf
attribute [local go_sem] Oper.semAt_some
def FV (bs:List UInt8) (x:Nat):List UInt8:=(bs.drop (64*x)).take 64
def jP (bs:List UInt8) (x:Nat):List UInt8:=FV bs x++List.replicate (64-(FV bs x).length) 0
theorem xU (bs:List UInt8) (x:Nat):(jP bs x).length=64:=by
 have:(FV bs x).length≤64:=(by rw[FV,zA15];omega);rw[jP,zA5,List.length_replicate];omega
theorem uo {W:World} {g:Nat} {ys:Array Value} {t e:TypeId} (h:W.heap[g]? =some (.cells ys t (0,0))) (FL:t≠e) {base size k:Nat} {v:Value} {xs:List Value} (hr:W.ownsRow base e size v k xs):some g≠v.ownBlock:=by
 rcases hr.2 with⟨rfl,_⟩|⟨g',cap,cur,rfl,_,ND,_⟩
 ·simp[Value.ownBlock]
 ·intro e';obtain rfl:g=g':=(by simpa[Value.ownBlock]using e');have:=h.symm.trans ND;simp at this;exact FL this.2
def mr (L:Nat):Nat:=if L=0 then 1 else xd L
theorem Si {W:World} {b1 b2 n1 n2 s1 s2:Nat} {t e:TypeId} (FL:t≠e) {x u:Value} {xs us:List Value} (hx:W.ownsRow b1 t s1 x n1 xs) (hu:W.ownsRow b2 e s2 u n2 us):x.ownBlock=none∨x.ownBlock≠u.ownBlock:=by
 rcases hx.2 with⟨rfl,_⟩|⟨g,cap,cur,rfl,_,hg,_⟩
 ·exact .inl rfl
 ·exact .inr (fun e'=>uo hg FL hu e')
def oN (K:Nat) (v:Int) (bs:List UInt8):List (List UInt8):=(List.range (mr bs.length)).map (fun(i:Nat)=>kd K v i (jP bs i))
structure Plr where
 root:Nat
 sig:Nat
 dev:Nat
 key:Nat
 man:Value
 bl:Value
 f:Value
 o:Value
 d:Value
def fS (r s d k:Nat):List Value:=ag 32 r++(ag 32 s++(ag 32 d++ag 32 k))
theorem dS (r s d k:Nat):(fS r s d k).length=128:=by simp[fS,aa]
def Plr.cs (X:Plr) (a u:Value):List Value:=fS X.root X.sig X.dev X.key++[X.man,X.bl,X.f,X.o,X.d,a,u]
theorem Plr.len (X:Plr) (a u:Value):(X.cs a u).length=135:=by simp[Plr.cs,dS]
theorem Plr.at (X:Plr) (a u:Value) {j:Nat}:(X.cs a u)[128+j]? =[X.man,X.bl,X.f,X.o,X.d,a,u][j]? :=by
 rw[Plr.cs,zA2 (by rw[dS];exact Nat.le_add_right _ _),dS,Nat.add_sub_cancel_left]
theorem Plr.put (X:Plr) (a u x:Value) {j:Nat}:(X.cs a u).set (128+j) x=fS X.root X.sig X.dev X.key++[X.man,X.bl,X.f,X.o,X.d,a,u].set j x:=by
 rw[Plr.cs,List.set_append_right _ _ (by rw[dS];exact Nat.le_add_right _ _),dS,Nat.add_sub_cancel_left]
structure Cp (p B:Nat) (w w':World):Prop where
 os:w'.os=w.os
 tape:w'.tape=w.tape
 output:w'.output=w.output
 size:w.heap.size≤w'.heap.size
 block:∀k,k<B→k≠p→w'.heap[k]? =w.heap[k]?
theorem Cp.refl (p B:Nat) (w:World):Cp p B w w:=⟨rfl,rfl,rfl,zA0 _,fun _ _ _=>rfl⟩
theorem Cp.trans {p B:Nat} {a b c:World} (h:Cp p B a b) (k:Cp p B b c):Cp p B a c:=
 ⟨k.os.trans h.os,k.tape.trans h.tape,k.output.trans h.output,zA14 h.size k.size,fun i hi hn=>(k.block i hi hn).trans (h.block i hi hn)⟩
theorem Cp.of_below {p B:Nat} {w w':World} (h:Below w.heap.size w w') (hB:B≤w.heap.size):Cp p B w w':=⟨h.os,h.tape,h.output,h.size,fun k hk _=>h.block k (zA3 hk hB)⟩
theorem Cp.of_gr {p B:Nat} {w w':World} {r:Option Nat} (h:w.grownBy w' r) (hB:B≤w.heap.size) (hr:∀g,r=some g→g=p∨B≤g):Cp p B w w':=
 ⟨h.os,h.tape,h.output,h.size,fun k hk hn=>h.block k (zA3 hk hB) (fun e=>by rcases hr k e.symm with h1|h1;exact hn h1;omega)⟩
theorem Arr.cp {p B:Nat} {w w':World} {g:Nat} {xs:List Value} (h:Arr w g xs) (hc:Cp p B w w') (hg:g<B) (hp:g≠p):Arr w' g xs:=by
 obtain⟨T,h⟩:=h;exact⟨T,by rw[hc.block g hg hp];exact h⟩
theorem Gt (s:ByteArray):Lib.strCells s=aJ s.data.toList:=by simp[Lib.strCells,aJ]
theorem KA {P:Program} {a:Act} {o:Oper} {w:World} (t:TypeId) (parts:Array (Nat×Operand)) (ho:o.op=.build t parts) (cells:Array Value) (hc:P.built t (parts.map fun(i,x)=>(i,a.eval x)).toList=some cells):
 (execOp a.eval o).run P w=.ok (.value (.agg cells)) w:=by
 exact zfd
def Ph.sx (n:Nat) (xs:List Value):Ph:=⟨fun v w=>∃d:Nat×Nat,v=.slice (some ⟨d.1,0,none⟩) n d.2∧Sl w (.slice (some ⟨d.1,0,none⟩) n d.2) xs,fun _ _ _ ⟨d,h1,h2⟩ hb=>⟨d,h1,h2.below hb⟩,false,fun h=>by cases h⟩
def Ph.tx (B:Nat) (v b:Int) (root:Nat) (i:Int) (k R1 s1 R s:Nat) (wl:List UInt8):Ph:=⟨fun x w=>∃d:Nat×Nat,x=.tuple #[.agg (bU v b root (.slice (some ⟨d.1,0,none⟩) 80 d.2) i k R1 s1 R s).toArray,.int .i64 0]∧w.ownsRow B 5 1 (.slice (some ⟨d.1,0,none⟩) 80 d.2) 80 (aJ wl),fun _ _ _ ⟨d,h1,h2⟩ hb=>⟨d,h1,dg h2 hb⟩,false,fun h=>by cases h⟩
def Ph.mx (B:Nat) (v b:Int) (root:Nat) (i:Int) (k R1 s1 R s:Nat) (wl:List UInt8):Ph:=⟨fun x w=>∃d:Nat×Nat,x=.agg (bU v b root (.slice (some ⟨d.1,0,none⟩) 80 d.2) i k R1 s1 R s).toArray∧w.ownsRow B 5 1 (.slice (some ⟨d.1,0,none⟩) 80 d.2) 80 (aJ wl),fun _ _ _ ⟨d,h1,h2⟩ hb=>⟨d,h1,dg h2 hb⟩,false,fun h=>by cases h⟩
def Ph.at (B:Nat) (xs:List Value) (T:TypeId):Ph:=⟨fun x w=>∃g:Nat,x=.pointer (some ⟨g,0,none⟩)∧B≤g∧w.heap[g]? =some (.cells xs.toArray T (0,0)),fun _ _ _ ⟨g,h1,h2,h3⟩ hb=>⟨g,h1,h2,by
 have bK:g<_:=(Array.getElem?_eq_some_iff.1 h3).1;rw[hb.block g bK];exact h3⟩,false,fun h=>by cases h⟩
def dC (k:Nat) (v:Int):Nat:=iT (nb 32 k++bS [v])
theorem Tl {w:World} {g r s d k:Nat} (h:Arr w g (fS r s d k)):Sl w (.slice (some ⟨g,96,none⟩) 32 32) (aJ (nb 32 k)):=
 Sl.ofMid h (ag 32 r++(ag 32 s++ag 32 d)) [] (nb 32 k) (by simp only[fS,eB,zA16,zA31]) zcb (aC _ _) zDc
theorem KH {w:World} {g r s d k:Nat} (h:Arr w g (fS r s d k)):w.rangeAt g 0 (ag 32 r):=h.range (fun j hj=>gW (A:=[]) rfl j hj)
theorem KI {w:World} {g r s d k:Nat} (h:Arr w g (fS r s d k)):w.rangeAt g 32 (ag 32 s):=h.range (fun j hj=>gW (A:=ag 32 r) (aa _ _) j hj)
theorem KG {w:World} {g r s d k:Nat} (h:Arr w g (fS r s d k)):w.rangeAt g 64 (ag 32 d):=h.range (fun j hj=>by
 have q:=gW (A:=ag 32 r++ag 32 s) (B:=ag 32 d) (C:=ag 32 k) (o:=64) zcb j hj;rwa[zA16]at q)
def jS (r s d k:Nat) (id v:Int) (bs:List UInt8):List UInt8:=
 let KEY:=dC k v
 let c:=jT++(bS [id]++nb 32 (ev s))
 let b:=fj v (mr bs.length:Nat) (xo (oN KEY v bs)) (jw (bD d 9) (iT (nb 32 KEY)) KEY) id (ev s) (uF r c) (xv r c)
 b++(nb 32 (uF s b)++nb 32 (xv s b))
end Go.Proofs.YtgfkgolafkdjfaaGreatDoor
