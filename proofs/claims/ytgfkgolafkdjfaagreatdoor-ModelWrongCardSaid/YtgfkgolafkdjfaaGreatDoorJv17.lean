/- ModelWrong: part 17 of its proof: lemmas and contracts, each with its conditions in its own statement; the last part holds the law itself. -/
import Derived.Test.YtgfkgolafkdjfaaGreatDoorJv16

set_option maxHeartbeats 4000000
set_option maxRecDepth 100000
namespace Go.Proofs.YtgfkgolafkdjfaaGreatDoor
open Go.RowKit
theorem pG {P:Program} {ops:Array Oper} {rest:List Oper} {o:Oper} {a:Act} {w:World} {Q:Exit→Act→World→Prop} (hg:o.guard=none) (t:TypeId) (parts:Array (Nat×Operand)) (ho:o.op=.build t parts)
 (cells:Array Value) (hc:P.built t (parts.map fun(i,x)=>(i,a.eval x)).toList=some cells) (h:wpList P ops Q rest (a.put o.dst (.agg cells)) w):wpList P ops Q (o::rest) a w:=
 wpList_build hg t parts ho (by rw[hc];rfl) (by rw[hc];exact h)
theorem G0 (w:World):CB 243 #[] w (.agg (wd nE).toArray):=by
 have hl:=zH (show(wd nE).length=80 by rw[bV];exact ip.1);obtain⟨X,hX⟩:=zX (wd nE);have h1:=zH (vP nE);rw[hX]at hl h1⊢;replace hX:=zH hX;go_enter Tryz.func243,Tryz.ntmps243;go_upto_region 1 with fail
 refine aH (fun W aB k0 kb=>?_);replace k0:Arr W w.heap.size (wd (List.replicate 80 0)):=k0;clear aB;go_wp2_with(first|(refine pG rfl _ _ rfl (wd nE).toArray zKr ?_;rw[hX.out])|(refine aD rfl _ _ _ rfl _ X rfl rfl _ k0 zaZ (by rw[hl.out,bV];rfl) h1.out (fun w2 k0 hg aB=>?_)));have qb:=aq kb hg zOm kb.size;exact bodyPost_ret (aj Tryz.results243 _ _ _ rfl zKr _ k0 zaZ) rfl ⟨rfl,qb⟩
theorem I7 (w:World):Calls Tryz.prog 228 #[] w fun e w'=>∃g,e=.returned (.pointer (some ⟨g,0,none⟩))∧w.heap.size≤g∧Arr w' g (fM C8 (List.replicate 128 0) 0 0)∧Below w.heap.size w w':=by
 obtain⟨X,hX⟩:=zX (wd C8);obtain⟨Y,hY⟩:=zX (fM C8 (List.replicate 128 0) 0 0);replace hX:=zH hX;rw[hY];replace hY:=zH hY;go_enter Tryz.func228,Tryz.ntmps228;go_wp2_with(refine pG rfl _ _ rfl (wd C8).toArray zKr ?_;rw[hX.out]);refine zQ (G0 _) fun w1 kb=>?_;rw[←hX.out];go_wp2_with(refine pG rfl _ _ rfl (fM C8 (List.replicate 128 0) 0 0).toArray zKr ?_;rw[hY.out]);exact zec
theorem O8 (g n lg:Nat) (h:List Nat) (bs:List UInt8) (x:UInt8) (w:World) (k0:Arr w g (fM h bs n lg)) (h0:h.length=8∧W64 h) (hb:bs.length=128) (hn:n<128):
 Calls Tryz.prog 229 #[.pointer (some ⟨g,0,none⟩),.int .u8 (x.toNat:Int)] w fun e w'=>
  e=.returned (.tuple #[])∧Arr w' g (if n=127 then fM (DG h (bs.set n x)) (bs.set n x) 0 lg else fM h (bs.set n x) (n+1) lg)∧w.grownBy w' (some g):=by
 have qR:=Dc (n:=n) (lg:=lg) h0.1 hb;have qQ:=TP (n:=n) (lg:=lg) (bs:=bs) (j:=n) h0.1 zOm;rw[eY bs n zOm]at qQ;have aL:=KW (n:=n) (lg:=lg) (bs:=bs) (j:=n) (x:=x) h0.1 zOm;have hb2:(bs.set n x).length=128:=(by rw[zA23];exact hb);obtain⟨cs,nq⟩:=zX (bs.set n x);rw[nq]at aL hb2⊢;have uU:=Dc (n:=n) (lg:=lg) h0.1 hb2;have sW:=Dd (n:=n) (m:=n+1) (lg:=lg) h0.1 hb2;have BL:=Dc (n:=n+1) (lg:=lg) h0.1 hb2;have c1:=fun w k=>Pa (g:=g) (n:=n+1) (lg:=lg) w k h0 hb2;have hq:=Lm h0 cs;have Js:=Dc (n:=n+1) (lg:=lg) hq.1 hb2;have Cb:=Dd (n:=n+1) (m:=0) (lg:=lg) hq.1 hb2;obtain⟨Y,hY⟩:=zX ((if n=127 then fM (DG h cs) cs 0 lg else fM h cs (n+1) lg));rw[hY];replace hY:=zH hY;have fP:(bs[n]'zOm).toNat<256:=(bs[n]'zOm).toNat_lt;generalize (bs[n]'zOm).toNat=y at qQ fP;have n16:(n:Int)<128:=zOm;clear hb nq h0 hq;replace qR:=zH qR;replace qQ:=zH qQ;replace aL:=zH aL;replace hb2:=zH hb2;replace uU:=zH uU
 replace sW:=zH sW;replace BL:=zH BL;replace Js:=zH Js;replace Cb:=zH Cb;replace c1:=zH c1;go_enter Tryz.func229,Tryz.ntmps229;go_upto_region 0 with fail
 refine cH 9 10 fun aP=>?_;refine eZ ?_ 1 511 zaD [0,1,2,3,4,5,6,7,8] (fun w' hB=>by have e1:=(k0.below hB).cell qR.out;exact zRd) ?_;have k0':=k0.below aP;have bo:=k0'.cell qQ.out;have bT:=k0'.frozen (88+n);refine bf 1023 rfl zDk (fun K hK=>?_);go_simp;refine hK (fun _=>True) 9999 _ _ ?_;clear hK K;try simp only[Act.put]
 try simp only[zSa,zSz,zSs]
 refine ap zKr ?_;clear bo bT k0';have kg:=fX (bY w g (88+n) (.int .u8 (x.toNat:Int)));have k1:Arr (w.setCell ⟨g,88+n,none⟩ (.int .u8 (x.toNat:Int))).drew g (fM h cs n lg):=by
  have:=k0.set (88+n) (.int .u8 (x.toNat:Int));rw[aL.out]at this;exact this
 generalize (w.setCell ⟨g,88+n,none⟩ (.int .u8 (x.toNat:Int))).drew=w2 at*;have bo:=k1.cell uU.out;have bT:=k1.frozen 216;go_upto_region 2 with fail
 clear bo bT;have kg:=aN kg (bY w2 g 216 (.int .i64 ((n:Int)+1)));have k2:Arr (w2.setCell ⟨g,216,none⟩ (.int .i64 ((n:Int)+1))) g (fM h cs (n+1) lg):=by
  have:=k1.set 216 (.int .i64 ((n+1:Nat):Int));rw[sW.out]at this;exact this
 generalize w2.setCell ⟨g,216,none⟩ (.int .i64 ((n:Int)+1))=w3 at*;have bo:=k2.cell BL.out
 by_cases qJ:n=127
 ·have c2:=zH (c1.out w3 k2);clear c1;subst qJ;go_wp2_with fail;refine c2.out.mono ?_;rintro e w4 ⟨rfl,k3,kZ⟩;have kg:=aN kg kZ;clear kZ bo;have bo:=k3.cell Js.out;have bT:=k3.frozen 216;go_wp2_with fail;go_end0;replace k3:=k3.set 216 (.int .i64 ((0:Nat):Int));exact zeL
 ·have rW:((n+1:Nat):Int)≠128:=zOm;go_wp2_with fail;go_end0;exact ze2
def ry (L:List UInt8):Nat→List Nat
 |0=>C8
 |i+1=>DG (ry L i) ((L.drop (128*i)).take 128)
theorem rz (L:List UInt8):∀i,(ry L i).length=8∧W64 (ry L i)
 |0=>WL
 |i+1=>Lm (rz L i) _
theorem C6 (L M:List UInt8):∀i,128*i≤L.length→ry (L++M) i=ry L i
 |0,_=>rfl
 |i+1,h=>by
  rw[ry,ry,C6 L M i zOm,List.drop_append_of_le_length zOm,List.take_append_of_le_length za2]
def SStb (w:World) (g lg:Nat) (L:List UInt8):Prop:=∃bs,bs.length=128∧bs.take (L.length%128)=L.drop (128*(L.length/128))∧Arr w g (fM (ry L (L.length/128)) bs (L.length%128) lg)
theorem SStb.below {w w':World} {g lg:Nat} {L:List UInt8} (h:SStb w g lg L) (hb:Below w.heap.size w w'):SStb w' g lg L:=by
 exact zfM
theorem SStb.lt {w:World} {g lg:Nat} {L:List UInt8} (h:SStb w g lg L):g<w.heap.size:=by
 obtain⟨bs,-,-,h3⟩:=h;exact h3.lt
theorem SStb.start {w:World} {g:Nat} (h:Arr w g (fM C8 (List.replicate 128 0) 0 0)):SStb w g 0 []:=⟨_,by simp,rfl,h⟩
theorem SStb.n {w:World} {g lg:Nat} {L:List UInt8} (h:SStb w g lg L):w.cell? ⟨g,216,none⟩=some (.int .i64 ((L.length%128:Nat):Int)):=by
 obtain⟨bs,h1,-,h3⟩:=h;exact h3.cell (Dc (rz L _).1 h1)
theorem SStb.l {w:World} {g lg:Nat} {L:List UInt8} (h:SStb w g lg L):w.cell? ⟨g,217,none⟩=some (.int .u64 (lg:Int))∧w.frozen? ⟨g,217,none⟩=false:=by
 obtain⟨bs,h1,-,h3⟩:=h;exact⟨h3.cell (aaX (rz L _).1 h1),h3.frozen _⟩
theorem SStb.set {w:World} {g lg m:Nat} {L:List UInt8} (h:SStb w g lg L):SStb (w.setCell ⟨g,217,none⟩ (.int .u64 (m:Int))) g m L:=by
 obtain⟨bs,h1,h2,h3⟩:=h;refine⟨bs,h1,h2,?_⟩;have:=h3.set 217 (.int .u64 (m:Int));rwa[KY (rz L _).1 h1]at this
theorem xy (g lg:Nat) (L:List UInt8) (x:UInt8) (w:World) (k0:SStb w g lg L):
 Calls Tryz.prog 229 #[.pointer (some ⟨g,0,none⟩),.int .u8 (x.toNat:Int)] w fun e w'=>e=.returned (.tuple #[])∧SStb w' g lg (L++[x])∧w.grownBy w' (some g):=by
 obtain⟨bs,h1,h2,h3⟩:=k0;refine(O8 g (L.length%128) lg _ bs x w h3 (rz L _) h1 (zA1 _ zDc)).mono ?_;rintro e w' ⟨rfl,k1,kg⟩;refine⟨rfl,?_,kg⟩;have hl:(L++[x]).length=L.length+1:=zac;have e2:(bs.set (L.length%128) x).take (L.length%128+1)=L.drop (128*(L.length/128))++[x]:=by
  exact zfp
 have e4:(L++[x]).drop (128*(L.length/128))=L.drop (128*(L.length/128))++[x]:=List.drop_append_of_le_length zOm
 by_cases qJ:L.length%128=127
 ·rw[if_pos qJ]at k1;have e3:bs.set (L.length%128) x=L.drop (128*(L.length/128))++[x]:=by
   exact zfN
  have Ho:(L.drop (128*(L.length/128))++[x]).length=128:=zab;rw[e3]at k1;refine⟨_,Ho,?_,?_⟩
  ·rw[hl,show(L.length+1)%128=0 by omega,List.take_zero,show 128*((L.length+1)/128)=L.length+1 by omega,List.drop_of_length_le zOm]
  ·rw[hl,show(L.length+1)%128=0 by omega,show(L.length+1)/128=L.length/128+1 by omega,ry,C6 _ _ _ zOm,e4,zA8 zOm];exact k1
 ·rw[if_neg qJ]at k1;refine⟨bs.set (L.length%128) x,by rw[zA23];exact h1,?_,?_⟩
  ·rw[hl,show(L.length+1)%128=L.length%128+1 by omega,show(L.length+1)/128=L.length/128 by omega,e2,e4]
  ·rw[hl,show(L.length+1)%128=L.length%128+1 by omega,show(L.length+1)/128=L.length/128 by omega,C6 _ _ _ zOm];exact k1
end Go.Proofs.YtgfkgolafkdjfaaGreatDoor
