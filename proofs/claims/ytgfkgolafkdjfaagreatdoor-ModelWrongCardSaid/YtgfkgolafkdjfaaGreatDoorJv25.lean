/- ModelWrong: part 25 of its proof: lemmas and contracts, each with its conditions in its own statement; the last part holds the law itself. -/
import Derived.Test.YtgfkgolafkdjfaaGreatDoorJv24

set_option maxHeartbeats 4000000
set_option maxRecDepth 100000
namespace Go.Proofs.YtgfkgolafkdjfaaGreatDoor
open Go.RowKit
theorem Ro:(Tryz.prog.info? 3).map (fun i=>(i.zero,i.size,i.bytes))=some (some (.int .i64 0),1,8):=by kernel_rfl
def Lf (S:Stt) (w:World) (e:Ending) (w':World):Prop:=∃v:Sv,e=.returned (.agg (S.cs v).toArray)∧StOwn w.heap.size w' S v∧Below w.heap.size w w'
def mO:Stt:=⟨0,[],[],false,0,[],false,0,-1⟩
def aeU:Stt:=⟨0,[],[],false,0,[],false,0,0⟩
def nB:Sv:=⟨.slice none 0 0,.slice none 0 0,.slice none 0 0⟩
theorem HY (B:Nat) (w:World):StOwn B w mO nB:=⟨World.ownsRow_nil _ _ _ _,World.ownsRow_nil _ _ _ _,World.ownsRow_nil _ _ _ _⟩
theorem Mn (w:World):Calls Tryz.prog 28 #[] w (Lf mO w):=by
 go_enter Tryz.func28,Tryz.ntmps28;go_wp2_with fail;exact bodyPost_ret (v:=.agg (mO.cs nB).toArray) (by simp[results,Tryz.results28,go_sem,Stt.cs,mO,nB]) rfl ⟨nB,rfl,HY _ _,ae _ _⟩
def tgt (a:Int):Int:=if a=0 then 1 else 0
theorem vN (S:Stt) (v:Sv) (w:World):CB 134 #[.agg (S.cs v).toArray] w (.int .i64 (tgt S.act)):=by
 obtain⟨f,l,m0,d0,t0,m1,d1,t1,a⟩:=S;simp only[Stt.cs,tgt]
 by_cases h:a=0
 ·rw[if_pos h];go_enter Tryz.func134,Tryz.ntmps134;exact zeF
 ·rw[if_neg h];go_enter Tryz.func134,Tryz.ntmps134;exact zeF
theorem qn {w:World} {base:Nat} {e:TypeId} {v:Value} {n:Nat} {xs:List Value} (h:w.ownsRow base e 1 v n xs):∃a c,v=.slice a n c:=by
 obtain⟨a,cap,rfl,-⟩:=Sl.of_own h;have:=h.1;exact⟨a,cap,by rw[this,Nat.mul_one]⟩
theorem GW (x:Addr) (len cap:Nat) (l:List Int) (w:World) (hl:l.length=len) (hr:len*8≤140737488355328) (hc:Cells w x (uf l)):
 Calls Tryz.prog 185 #[.slice (some x) len cap] w fun e w'=>
  ∃v,e=.returned v∧w'.ownsRow w.heap.size 3 1 v len (uf l)∧Below w.heap.size w w':=by
 obtain⟨i,hi,jN,jA,jB⟩:=info_parts Ro;have ZN:=fun(x:Option Addr) (n c:Nat)=>Lib.run_eql_slice_nil (P:=Tryz.prog) w 65 3 x n c 0 0 Tryz.underlying65;have Zj:Hid (Cells (w.alloc (.cells #[] 3)) x (uf l)):=hc.alloc _;clear hc;have hl':=zH hl;clear hl;go_enter Tryz.func185,Tryz.ntmps185;go_wp2_with(at_builtin;refine wpList_append_own _ rfl _ _ 65 rfl w.heap.size 3 i (.int .i64 0) 1 8 Tryz.underlying65 hi jN jA jB rfl zDc _ 0 [] rfl (World.ownsRow_made _ _ _ (zA0 _) (zA28 _) rfl) x len cap (uf l) rfl ?c1 Zj.out (Ru l) ?c2 ?c3 ?c4 ?_)
 case c1=>rw[s7];have:=hl'.out;omega
 case c2=>unfold maxLen;omega
 case c3=>omega
 case c4=>simp
 intro v' w' cf hg hn;go_wp2;go_ret;refine⟨v',rfl,by simpa using cf,((zA6 _ _).alloc (zA0 _) _).grown hg zac ?_⟩;intro k hk;simp[Value.ownBlock]at hk;omega
theorem Jf (v:Value) (l:List Int) (w:World) (hb:Sl w v (uf l)) (hr:l.length*8≤140737488355328):
 Calls Tryz.prog 185 #[v] w fun e w'=>∃v,e=.returned v∧w'.ownsRow w.heap.size 3 1 v l.length (uf l)∧Below w.heap.size w w':=by
 obtain⟨a,cap,rfl,h2,h3,h4,h5⟩:=hb;rw[s7]at*;cases a with
 |none=>
  obtain rfl:=h4 rfl;have:l=[]:=List.eq_nil_of_length_eq_zero zOm;subst this;have ZN:=fun(x:Option Addr) (n c:Nat)=>Lib.run_eql_slice_nil (P:=Tryz.prog) w 65 3 x n c 0 0 Tryz.underlying65;go_enter Tryz.func185,Tryz.ntmps185;go_wp2;go_ret;exact⟨_,rfl,World.ownsRow_nil _ _ _ _,zA6 _ _⟩
 |some x=>exact GW x l.length cap l w rfl hr (h5 x rfl)
structure StFit (S:Stt):Prop where
 rv:S.rev.length≤1000000
 m0:S.m0.length≤1000000
 m1:S.m1.length≤1000000
structure CpRel (j B:Nat) (w:World) (S:Stt) (v v':Sv):Prop where
 rv:w.ownsRow B 3 1 v'.rv S.rev.length (uf S.rev)
 m0:0<j→w.ownsRow B 5 1 v'.m0 S.m0.length (aJ S.m0)
 m1:1<j→w.ownsRow B 5 1 v'.m1 S.m1.length (aJ S.m1)
 e0:j=0→v'.m0=v.m0
 e1:j≤1→v'.m1=v.m1
theorem UY {S:Stt} {v:Sv} (x:Value):(S.cs v).set 2 x=S.cs {v with m0:=x}:=rfl
theorem UZ {S:Stt} {v:Sv} (x:Value):(S.cs v).set 5 x=S.cs {v with m1:=x}:=rfl
theorem ach {S:Stt} {v:Sv} (x:Value):(S.cs v).set 1 x=S.cs {v with rv:=x}:=rfl
theorem PT (S:Stt) (v:Sv) (w:World) (h:StOk w S v) (hf:StFit S):Calls Tryz.prog 149 #[.agg (S.cs v).toArray] w (Lf S w):=by
 have XM:=hf.rv;have hf2:=hf.m0;have hf3:=hf.m1;have ho:=zH h;clear h hf;go_enter Tryz.func149,Tryz.ntmps149;go_upto_region 1 with fail
 refine be (fun W aB k1 k2 kb=>?_);have k1:Arr W w.heap.size (S.cs v):=k1;obtain⟨G,hG⟩:=zX w.heap.size;rw[hG]at k1 k2 aB⊢;replace hG:=zH hG;have x1:=k1.cell (j:=1) rfl;go_wp2_with fail;refine(Jf _ _ _ (ho.out.rv.below kb) zOm).mono ?_;rintro e w1 ⟨vr,rfl,o1,hb⟩;obtain⟨ar,cr,rfl⟩:=qn o1;obtain⟨k1,k2⟩:=fZ k1 k2 hb;have kb:=az kb hb;have kQ:=hb.size;clear x1 hb;replace k2:=zH k2;replace kb:=zH kb;replace o1:=zH o1;replace aB:=zH aB;have jX:=k1.cell (j:=1) rfl;have XM:=k1.frozen 1;replace k1:=zH k1;go_upto_region 2 with fail
 refine jm k1.out (fun w2 k1 hg Dv=>?_);rw[ach]at k1;clear jX XM;have o1:=zH (gL o1.out hg (by have:=aB.out;omega));have k2:=zH (k2.out.kept hg zOm);have kb:=zH (aq kb.out hg zb5 kb.out.size);have xO:G+2≤w2.heap.size:=(by have:=aB.out;omega);have o1:Hid (w2.ownsRow (G+2) 3 1 (.slice ar S.rev.length cr) S.rev.length (uf S.rev)):=(by have:=ej (base':=G+2) o1.out (by have:=aB.out;omega);exact this);clear hg Dv kQ aB;replace k1:=zH k1;go_wp2_with fail;go_loopw[8] (fun jv wr=>∃(j:Nat) (v':Sv),j≤2∧jv=.int .i64 j∧Arr wr G (S.cs v')∧Arr wr (G+1) (aeU.cs nB)∧Below w.heap.size w wr∧G+2≤wr.heap.size∧CpRel j (G+2) wr S v v') (fun jv _=>2-(intOf jv).toNat)
 case atStart=>exact⟨0,_,by omega,rfl,k1.out,k2.out,kb.out,xO,o1.out,fun h=>absurd h zOm,fun h=>absurd h zOm,fun _=>rfl,fun _=>rfl⟩
 case round=>
  clear k1 k2 kb o1 xO;obtain⟨j,v',hj,rfl,k1,k2,kb,xO,hr⟩:=hrel;obtain⟨vr,vm0,vm1⟩:=v';obtain⟨r1,r2,r3,r4,r5⟩:=hr;simp only at r1 r2 r3 r4 r5;have r1:=zH r1;have k2:=zH k2;have kb:=zH kb;obtain rfl|rfl|rfl:j=0∨j=1∨j=2:=zOm
  ·obtain rfl:=r4 rfl;obtain rfl:=r5 zOm;clear r2 r3 r4 r5;have x2:=k1.cell (j:=2) rfl;go_upto_region 5 with fail
   go_wp2_with fail;refine(jy _ S.m0 _ (ho.out.m0.below kb.out) zOm).mono ?_;rintro e w1 ⟨u,rfl,o2,hb,-⟩;obtain⟨a2,c2,rfl⟩:=qn o2;have k1:=k1.below hb;have k2:=zH (k2.out.below hb);have kb:=zH (az kb.out hb);have r1:=zH (dg r1.out hb);have o2:=zH o2;have hsb:=hb.size;have jX:=k1.cell (j:=2) rfl;have XM:=k1.frozen 2;replace k1:=zH k1;clear hb x2;go_upto_region 6 with fail
   refine jm k1.out (fun w2 k1 hg Dv=>?_);rw[UY]at k1;clear jX XM;have o2:=zH (gL o2.out hg zOm);have r1:=zH (gL r1.out hg zOm);have k2:=zH (k2.out.kept hg zOm);have kb:=zH (aq kb.out hg zb5 kb.out.size);clear hg;have k1:=zH k1;go_wp2_with fail;exact⟨⟨1,_,by omega,by go_num,k1.out,k2.out,kb.out,by omega,r1.out,fun _=>ej o2.out xO,fun h=>absurd h zOm,fun h=>absurd h zOm,fun _=>rfl⟩,by simp[intOf]⟩
  ·obtain rfl:=r5 zOm;have r2:=zH (r2 zOm);clear r3 r4 r5;have x2:=k1.cell (j:=5) rfl;go_upto_region 5 with fail
   go_wp2_with fail;refine(jy _ S.m1 _ (ho.out.m1.below kb.out) zOm).mono ?_;rintro e w1 ⟨u,rfl,o2,hb,-⟩;obtain⟨a2,c2,rfl⟩:=qn o2;have k1:=k1.below hb;have k2:=zH (k2.out.below hb);have kb:=zH (az kb.out hb);have r1:=zH (dg r1.out hb);have r2:=zH (dg r2.out hb);have o2:=zH o2;have hsb:=hb.size;have jX:=k1.cell (j:=5) rfl;have XM:=k1.frozen 5;replace k1:=zH k1;clear hb x2;go_upto_region 6 with fail
   refine jm k1.out (fun w2 k1 hg Dv=>?_);rw[UZ]at k1;clear jX XM;have o2:=zH (gL o2.out hg zOm);have r1:=zH (gL r1.out hg zOm);have r2:=zH (gL r2.out hg zOm);have k2:=zH (k2.out.kept hg zOm);have kb:=zH (aq kb.out hg zb5 kb.out.size);clear hg;have k1:=zH k1;go_wp2_with fail;exact⟨⟨2,_,by omega,by go_num,k1.out,k2.out,kb.out,by omega,r1.out,fun _=>r2.out,fun _=>ej o2.out xO,fun h=>absurd h zOm,fun h=>absurd h zOm⟩,by simp[intOf]⟩
  ·have r2:=zH (r2 zOm);have r3:=zH (r3 zOm);clear r4 r5;have ee:StOwn (G+2) wr S ⟨vr,vm0,vm1⟩:=⟨r1.out,r2.out,r3.out⟩;have fQ:=zH (StOk.one ee.ok);have ee:=zH ee;replace k2:=k2.out;go_wp2_with(first|(refine aR ?_)|(refine aD rfl _ _ _ rfl _ _ rfl rfl _ k2 zKr rfl fQ.out (fun W k2 hg aB=>?_)));have af9:StOwn (G+2) W S ⟨vr,vm0,vm1⟩:=⟨gL ee.out.rv hg zOm,gL ee.out.m0 hg zOm,gL ee.out.m1 hg zOm⟩;have kb:=aq kb.out hg zb5 kb.out.size;exact bodyPost_ret (aj Tryz.results149 _ _ _ rfl zKr _ zaE zLn) rfl ⟨_,rfl,af9.mono zb5,kb⟩
noncomputable def AB (S:Stt):Bool:= @decide (mayP S) (Classical.propDecidable _)
theorem tb (S:Stt):AB S=true↔mayP S:=by unfold AB;simp
theorem N5 {S:Stt} {w:World} {e:Ending} {w':World} (h:EX S w e w'):e=.returned (.bool (AB S))∧Below w.heap.size w w':=by
 obtain⟨r,rfl,h1,h2⟩:=h;refine⟨?_,h2⟩;rw[←tb]at h1;rw[Bool.eq_iff_iff.2 h1]
theorem Cn (S:Stt) (v:Sv) (w:World) (h:StOk w S v):CB 133 #[.agg (S.cs v).toArray] w (.bool (AB S)):=
 (Vw S v w h).mono fun _ _ h=>N5 h
theorem RQ {S:Stt} (h:mayP S):StFit S:=by
 refine⟨by have:=h.len;omega,?_,?_⟩
 ·have:=h.s0;unfold l5 at this;split at this
  ·omega
  ·simp at this;omega
 ·have:=h.s1;unfold l5 at this;split at this
  ·omega
  ·simp at this;omega
def Ie (S:Stt) (m:List UInt8):Stt:=if S.act=0 then {S with m1:=m,d1:=false,t1:=0}else {S with m0:=m,d0:=false,t0:=0}
noncomputable def Xi (F:Stt→Stt) (S:Stt):Stt:=if AB S=true then F S else mO
noncomputable def Kl (S:Stt) (m:List UInt8):Stt:=if m.length=300 then Xi (fun S=>Ie S m) S else mO
structure StOff (g:Nat) (v:Sv):Prop where
 rv:v.rv.ownBlock≠some g
 m0:v.m0.ownBlock≠some g
 m1:v.m1.ownBlock≠some g
theorem StOwn.off {B g:Nat} {w:World} {S:Stt} {v:Sv} (h:StOwn B w S v) (hg:w.heap.size≤g):StOff g v:=
 ⟨fun e=>by have:=(h.rv.lt g e).2;omega,fun e=>by have:=(h.m0.lt g e).2;omega,fun e=>by have:=(h.m1.lt g e).2;omega⟩
theorem StOwn.kept {B g:Nat} {w w':World} {S:Stt} {v:Sv} (h:StOwn B w S v) (hg:w.grownBy w' (some g)) (ho:StOff g v):StOwn B w' S v:=
 ⟨fH h.rv hg ho.rv,fH h.m0 hg ho.m0,fH h.m1 hg ho.m1⟩
def Ps (g B:Nat) (S':Stt) (w:World) (e:Ending) (w':World):Prop:=e=.returned (.tuple #[])∧∃v',Arr w' g (S'.cs v')∧StOwn B w' S' v'∧w.grownBy w' (some g)
theorem SB (S:Stt) (v:Sv) (g gc B off:Nat) (m:List UInt8) (vm:Value) (w:World) (k1:Arr w g (S.cs v)) (kc:Arr w gc [vm]) (ho:Hid (StOwn B w S v)) (JO:Hid (StOff g v)) (hm:Sl w vm (aJ m)) (hl:m.length≤140737488355328)
 (hB:B≤w.heap.size) (bK:g<w.heap.size) (hof:off=if S.act=0 then 5 else 2):
 Calls Tryz.prog 136 #[.pointer (some ⟨g,0,none⟩),.pointer (some ⟨g,off,none⟩),.pointer (some ⟨gc,0,none⟩)] w (Ps g B (Ie S m) w):=by
 by_cases ha:S.act=0
 ·rw[if_pos ha]at hof;subst hof;have hp:Ie S m={S with m1:=m,d1:=false,t1:=0}:=(by unfold Ie;rw[if_pos ha]);rw[hp];clear hp ha;go_enter Tryz.func136,Tryz.ntmps136;have xc:=kc.cell (j:=0) rfl;go_wp2_with fail;refine(jy _ m _ hm hl).mono ?_;rintro e w1 ⟨u,rfl,o2,hb,-⟩;have k1:=k1.below hb;have ho:=zH (ho.out.below hb);obtain⟨a2,c2,rfl⟩:=qn o2;have hbz:=hb.size;have hb:=zH hb;have o2:=zH o2;have fQ:∀u∈ [Value.slice a2 m.length c2,.bool false,.int .i64 0],u.oneCell'=true:=(by simp[Value.oneCell']);replace fQ:=zH fQ;go_wp2_with(refine eU rfl _ _ _ rfl _ 5 [.slice a2 m.length c2,.bool false,.int .i64 0] rfl rfl _ k1 zKr (Nat.le_of_ble_eq_true rfl) fQ.out (fun W k2 hg=>?_));have rW:(Value.slice a2 m.length c2).ownBlock≠some g:=fun e=>by have:=(o2.out.lt g e).1;omega
  have o3:=ej (fH o2.out hg rW) hB;have Ds:=ho.out.kept hg JO.out;go_end0;exact⟨rfl,{v with m1:=.slice a2 m.length c2},k2,⟨Ds.rv,Ds.m0,o3⟩,aN (bO hb.out) hg⟩
 ·rw[if_neg ha]at hof;subst hof;have hp:Ie S m={S with m0:=m,d0:=false,t0:=0}:=(by unfold Ie;rw[if_neg ha]);rw[hp];clear hp ha;go_enter Tryz.func136,Tryz.ntmps136;have xc:=kc.cell (j:=0) rfl;go_wp2_with fail;refine(jy _ m _ hm hl).mono ?_;rintro e w1 ⟨u,rfl,o2,hb,-⟩;have k1:=k1.below hb;have ho:=zH (ho.out.below hb);obtain⟨a2,c2,rfl⟩:=qn o2;have hbz:=hb.size;have hb:=zH hb;have o2:=zH o2;have fQ:∀u∈ [Value.slice a2 m.length c2,.bool false,.int .i64 0],u.oneCell'=true:=(by simp[Value.oneCell']);replace fQ:=zH fQ;go_wp2_with(refine eU rfl _ _ _ rfl _ 2 [.slice a2 m.length c2,.bool false,.int .i64 0] rfl rfl _ k1 zKr (Nat.le_of_ble_eq_true rfl) fQ.out (fun W k2 hg=>?_));have rW:(Value.slice a2 m.length c2).ownBlock≠some g:=fun e=>by have:=(o2.out.lt g e).1;omega
  have o3:=ej (fH o2.out hg rW) hB;have Ds:=ho.out.kept hg JO.out;go_end0;exact⟨rfl,{v with m0:=.slice a2 m.length c2},k2,⟨Ds.rv,o3,Ds.m1⟩,aN (bO hb.out) hg⟩
theorem StOwn.same {B:Nat} {w:World} {S S':Stt} {v:Sv} (h:StOwn B w S v) (h1:S'.rev=S.rev) (h2:S'.m0=S.m0) (h3:S'.m1=S.m1):StOwn B w S' v:=by
 obtain⟨r,a,b⟩:=h;exact⟨by rw[h1];exact r,by rw[h2];exact a,by rw[h3];exact b⟩
def Pu (fn:Value) (F:Stt→Stt) (w0:World):Prop:=∃(f:FuncId) (cap:Array Value),fn=.func (.func f) #[] cap∧(∀args w,(callFunc f args).run Tryz.prog w=.ok (.enter f args) w)∧
 ∀(S:Stt) (v:Sv) (g B off:Nat) (w:World),mayP S→Below w0.heap.size w0 w→w0.heap.size≤g→Arr w g (S.cs v)→StOwn B w S v→StOff g v→B≤w.heap.size→off=(if S.act=0 then 5 else 2)→
  Calls Tryz.prog f (#[.pointer (some ⟨g,0,none⟩),.pointer (some ⟨g,off,none⟩)]++cap) w (Ps g B (F S) w)
theorem StOwn.grown {B g:Nat} {w w':World} {S:Stt} {v:Sv} (h:StOwn B w S v) (hg:w.grownBy w' (some g)) (hb:g<B):StOwn B w' S v:=⟨gL h.rv hg hb,gL h.m0 hg hb,gL h.m1 hg hb⟩
theorem MX {w W:World} {o:Obj} (hg:(w.alloc o).grownBy W (some w.heap.size)):Below w.heap.size w W:=aq (ae w o) hg (zA0 _) zac
theorem Jd (S:Stt) (v:Sv) (fn:Value) (F:Stt→Stt) (w:World) (h:StOk w S v) (hc:Pu fn F w):Calls Tryz.prog 135 #[.agg (S.cs v).toArray,fn] w (Lf (Xi F S) w):=by
 have ho:=zH h;clear h;go_enter Tryz.func135,Tryz.ntmps135;go_upto_region 1 with fail
 refine be (fun W aB k1 k2 kb=>?_);have k1:Arr W w.heap.size (S.cs v):=k1;obtain⟨G,hG⟩:=zX w.heap.size;rw[hG]at k1 k2 aB⊢;replace hG:=zH hG;go_wp2_with(first|(refine aR ?_)|fail);refine(Cn S v _ (ho.out.below kb)).mono ?_;rintro e w1 ⟨he,hb⟩;obtain⟨k1,k2⟩:=fZ k1 k2 hb;have kb:=az kb hb;have kQ:G+2≤w1.heap.size:=(by have:=hb.size;omega);clear hb aB;cases hm:AB S with
 |false=>
  rw[hm]at he;subst he;have Up:Xi F S=mO:=(by unfold Xi;rw[hm];rfl);replace Up:=zH Up;clear hm;have IT:=zH k2;go_wp2_with fail;refine(Mn _).mono ?_;rintro e w2 ⟨v2,rfl,rJ,hb⟩;have k2:=k2.below hb;have kb:=az kb hb;have fQ:=zH (StOk.one rJ.ok);clear hb IT;go_wp2_with(first|(refine aR ?_)|(refine aD rfl _ _ _ rfl _ _ rfl rfl _ k2 zKr rfl fQ.out (fun W k2 hg aB=>?_)));have Ds:=rJ.grown hg zOm;have kb3:=aq kb hg zb5 kb.size;exact bodyPost_ret (aj Tryz.results135 _ _ _ rfl zKr _ zaE zLn) rfl (by rw[Up.out];exact⟨_,rfl,(show StOwn w.heap.size W mO v2 from Ds.mono zb5),kb3⟩)
 |true=>
  rw[hm]at he;subst he;have XU:=zH ((tb S).1 hm);have Up:Xi F S=F S:=(by unfold Xi;rw[hm];rfl);replace Up:=zH Up;clear hm;obtain⟨f,cap,rfl,hcf,lU⟩:=hc;have IT:=zH k2;clear k2;go_wp2_with(first|(refine aR ?_)|fail);refine(PT S v _ (ho.out.below kb) (RQ XU.out)).mono ?_;rintro e w2 ⟨v2,rfl,rJ,hb⟩;have fQ:=zH (StOk.one rJ.ok);have hb2:=hb.size;have k2:=zH (IT.out.below hb);have k1:=k1.below hb;have kb:=az kb hb;clear hb IT;have JO:=zH (rJ.off (zA0 _));go_upto_region 4 with(first|(refine aD rfl _ _ _ rfl _ _ rfl rfl _ (Arr.new _ _ _) zKr rfl fQ.out (fun W3 k5 hg aB=>?_)))
  have nj:=MX hg;have k2:=zH (k2.out.below nj);have k1:=k1.below nj;have kb:=az kb nj;have rJ:=zH (rJ.below nj);have Ek:=nj.size;obtain⟨g5,jJ⟩:=zX w2.heap.size;rw[jJ]at k5 JO⊢;have lV:g5<W3.heap.size:=k5.lt;clear hg nj aB;go_wp2_with(first|(refine aR ?_)|fail);refine(vN S v _).mono ?_;rintro e w4 ⟨he,hb⟩;have k2:=zH (k2.out.below hb);have k5:=k5.below hb;have kb:=az kb hb;have rJ:=zH (rJ.out.below hb);have hs4:=hb.size;clear hb k1;replace kb:=zH kb;have Ab:=lU S v2 g5 w1.heap.size (if S.act=0 then 5 else 2) w4 XU.out kb.out zb5 k5 rJ.out JO.out zOm rfl;replace Ab:=zH Ab;clear lU
  by_cases ha:S.act=0
  ·rw[show tgt S.act=1 from if_pos ha]at he;rw[if_pos ha]at Ab;exact zdc
  ·rw[show tgt S.act=0 from if_neg ha]at he;rw[if_neg ha]at Ab;exact zdc
theorem Jh {w:World} {gc:Nat} {vm:Value} {m:List UInt8} (kc:Arr w gc [vm]) (hm:Sl w vm (aJ m)) (hl:m.length≤140737488355328):Pu (.func (.func 136) #[] #[.pointer (some ⟨gc,0,none⟩)]) (fun S=>Ie S m) w:=
 ⟨_,_,rfl,fun _ _=>by kernel_rfl,fun S v g B off w _ hb hg k1 ho JO hB hof=>SB S v g gc B off m vm w k1 (kc.below hb) (zH ho) (zH JO) (hm.below hb) hl hB k1.lt hof⟩
theorem V3 (S:Stt) (v:Sv) (vm:Value) (m:List UInt8) (w:World) (h:StOk w S v) (hm:Sl w vm (aJ m)) (hl:m.length≤140737488355328):Calls Tryz.prog 79 #[.agg (S.cs v).toArray,vm] w (Lf (Kl S m) w):=by
 have ho:=zH h;clear h;obtain⟨am,cm,rfl,jX,pH⟩:=xw hm;rw[ai]at hm jX;simp only[ai];have hm:=zH hm;go_enter Tryz.func79,Tryz.ntmps79;go_upto_region 1 with fail
 refine bZ (fun W aB k1 kc k2 kb=>?_);have k1:Arr W w.heap.size (S.cs v):=k1;have kc:Arr W (w.heap.size+1) [.slice am m.length cm]:=kc;obtain⟨G,hG⟩:=zX w.heap.size;rw[hG]at k1 k2 kc aB⊢;replace hG:=zH hG;have c0:=kc.cell (j:=0) rfl
 by_cases h3:m.length=300
 ·have iw:(m.length:Int)=300:=zOm;have QY:Kl S m=Xi (fun S=>Ie S m) S:=if_pos h3;replace QY:=zH QY;have As:=zH h3;clear h3;go_upto_region 3 with fail
  clear iw;go_wp2_with(first|(refine aR ?_)|fail);refine(Jd S v _ _ _ (ho.out.below kb) (Jh kc (hm.out.below kb) hl)).mono ?_;exact zdh
 ·have iw:¬(m.length:Int)=300:=zOm;have QY:Kl S m=mO:=if_neg h3;replace QY:=zH QY;clear h3;go_wp2_with fail;refine(Mn _).mono ?_;exact zdh
noncomputable def AG (S:Stt):Int:=if AB S=true then tgt S.act else -1
theorem Ap (S:Stt) (v:Sv) (w:World) (h:StOk w S v):CB 77 #[.agg (S.cs v).toArray] w (.int .i64 (AG S)):=by
 have ho:=zH h;clear h;go_enter Tryz.func77,Tryz.ntmps77;go_upto_region 1 with fail
 refine aH (fun W aB k1 kb=>?_);have k1:Arr W w.heap.size (S.cs v):=k1;clear aB;go_wp2_with(first|(refine aR ?_)|fail);refine(Cn S v _ (ho.out.below kb)).mono ?_;rintro e w1 ⟨he,hb⟩;have k1:=k1.below hb;have kb:=az kb hb;clear hb;obtain⟨m,hm⟩:=zX (AB S);cases m with
 |false=>
  have ht:=zH (show AG S= -1 by unfold AG;rw[hm];rfl);rw[hm]at he;subst he;clear hm;exact zfO
 |true=>
  have ht:=zH (show AG S=tgt S.act by unfold AG;rw[hm];rfl);rw[hm]at he;subst he;clear hm;go_wp2_with(first|(refine aR ?_)|fail);refine zQ (vN S v _) fun w2 hb=>?_;have kb:=az kb hb;clear hb;exact zfO
noncomputable def CF (S:Stt) (b0 b1:Bool):Int×Bool:=
 if AB S=true then
  (if S.act=0 then(if(S.d1&&decide (S.t1<3)&&b1)=true then(1,true)else if b0=true then(0,false)else(-1,false))
  else if S.act=1 then(if(S.d0&&decide (S.t0<3)&&b0)=true then(0,true)else if b1=true then(1,false)else(-1,false))
  else(if(S.d0&&decide (S.t0<3)&&b0)=true then(0,true)else(-1,false)))
 else(-1,false)
theorem K1 {a a':Int} {b b':Bool} {p:Int×Bool} (h:p=(a,b)) (h1:a'=a) (h2:b'=b):Ending.returned (.tuple #[.int .i64 a',.bool b'])=.returned (.tuple #[.int .i64 p.1,.bool p.2]):=by rw[h,h1,h2]
theorem Sm (S:Stt) (v:Sv) (b0 b1:Bool) (w:World) (h:StOk w S v):CB 86 #[.agg (S.cs v).toArray,.agg #[.bool b0,.bool b1]] w (.tuple #[.int .i64 (CF S b0 b1).1,.bool (CF S b0 b1).2]):=by
 have ho:=zH h;clear h;obtain⟨pp,XY⟩:=zX (CF S b0 b1);rw[XY];replace XY:=zH XY;go_enter Tryz.func86,Tryz.ntmps86;go_upto_region 1 with fail
 refine be (fun W aB k1 k2 kb=>?_);have k1:Arr W w.heap.size (S.cs v):=k1;have k2:Arr W (w.heap.size+1) [.bool b0,.bool b1]:=k2;clear aB;replace k2:=zH k2;go_wp2_with(first|(refine aR ?_)|fail);refine(Cn S v _ (ho.out.below kb)).mono ?_;rintro e w1 ⟨he,hb⟩;have k1:=k1.below hb;have k2:=k2.out.below hb;have kb:=az kb hb;clear hb;cases hm:AB S with
 |false=>
  have hp:Hid (pp=(-1,false)):=zH (by rw[←XY.out];unfold CF;rw[hm];rfl);rw[hm]at he;subst he;clear hm k1 k2 XY;exact zdv
 |true=>
  rw[hm]at he;subst he;have XU:=(tb S).1 hm;have NH:=XU.lo;have Zr:=XU.hi;have Ay:=XY.out;unfold CF at Ay;rw[if_pos hm]at Ay;replace Ay:=zH Ay;replace hm:=zH hm;clear XU XY;replace k2:=zH k2;go_wp2_with(first|(refine aR ?_)|fail);refine(vN S v _).mono ?_;rintro e w2 ⟨he,hb⟩;have k1:=k1.below hb;have k2:=k2.out.below hb;have kb:=az kb hb;clear hb;obtain⟨f,l,m0,d0,t0,m1,d1,t1,a⟩:=S;simp only at NH Zr Ay he;have ha:a= -1∨a=0∨a=1:=zOm;clear NH Zr;rcases ha with rfl|rfl|rfl
  all_goals
   (have x3:=k1.cell (j:=3) rfl)
   (have x4:=k1.cell (j:=4) rfl)
   (have x6:=k1.cell (j:=6) rfl)
   (have x7:=k1.cell (j:=7) rfl)
   (have x8:=k1.cell (j:=8) rfl)
   (have y0:=k2.cell (j:=0) rfl)
   (have y1:=k2.cell (j:=1) rfl)
   (simp only at x3 x4 x6 x7 x8)
   (clear k1 k2)
  ·replace he:e=.returned (.int .i64 0):=he;subst he;have hp:=Ay.out
   by_cases ht:t0<3
   ·simp only[ht]at hp;clear Ay;cases d0<;>cases b0<;>cases b1<;>simp at hp<;>replace hp:=zH hp.symm
    all_goals
     exact zdv
   ·simp only[ht]at hp;clear Ay;cases d0<;>cases b0<;>cases b1<;>simp at hp<;>replace hp:=zH hp.symm
    all_goals
     exact zdv
  ·replace he:e=.returned (.int .i64 1):=he;subst he;have hp:=Ay.out
   by_cases ht:t1<3
   ·simp only[ht]at hp;clear Ay;cases d1<;>cases b0<;>cases b1<;>simp at hp<;>replace hp:=zH hp.symm
    all_goals
     exact zdv
   ·simp only[ht]at hp;clear Ay;cases d1<;>cases b0<;>cases b1<;>simp at hp<;>replace hp:=zH hp.symm
    all_goals
     exact zdv
  ·replace he:e=.returned (.int .i64 0):=he;subst he;have hp:=Ay.out
   by_cases ht:t0<3
   ·simp only[ht]at hp;clear Ay;cases d0<;>cases b0<;>cases b1<;>simp at hp<;>replace hp:=zH hp.symm
    all_goals
     exact zdv
   ·simp only[ht]at hp;clear Ay;cases d0<;>cases b0<;>cases b1<;>simp at hp<;>replace hp:=zH hp.symm
    all_goals
     exact zdv
theorem HS (g:Nat) (w:World) (hc:Cur w g [] true):
 CB 121 #[.pointer (some ⟨g,0,none⟩)] w (.agg (ag 32 0).toArray):=by
 have mM:Hid ((Tryz.prog.info? 5).map (·.size)=some 1):=zH zKr;have cR:=zH (fun w' (hb:Below w.heap.size w w')=>C3 (AV g [] 32 w' (hc.below hb)));clear hc;go_enter Tryz.func121,Tryz.ntmps121;go_upto_region 2 with fail
 refine be (fun W aB k2 k3 kb=>?_);replace k2:Arr W w.heap.size (ag 32 0):=k2;replace k3:Arr W (w.heap.size+1) (ag 32 0):=k3;obtain⟨g2,j9⟩:=zX w.heap.size;rw[j9]at k2 k3⊢;have rK:w.heap.size≤g2:=zOm;clear aB j9;refine cH 3 4 fun aP=>?_;refine eZ ?_ 2 3 zaD [0,1] (fun _ _=>zRd) ?_;refine eg 2 7 aP (cR.out _ (az kb aP)) fun i8 bn=>?_;refine bf 15 rfl zDk (fun K hK=>?_);replace k2:=k2.below bn;replace k3:=k3.below bn;replace kb:=az kb bn;clear bn;refine mu rfl _ _ 24 24 rfl 5 Tryz.underlying24 mM.out (g2+1) 0 32 32 rfl _ k3 zb8 _ rfl [] (Sl.nil _) (fun u hu=>by cases hu) 0 rfl (ag 32 0) zac (fun W3 k3 hg aB=>?_);replace k2:=k2.kept hg zOm;replace kb:=aq kb hg zOm kb.size;refine hK (fun _=>True) 9999 _ _ ?_;clear hK K;try simp only[Act.put]
 try simp only[zSa,zSz,zSs]
 refine ap zKr ?_;go_wp2_with(first|(refine ab rfl _ _ rfl _ rfl zDk _ k3 zbx ?_)|(refine aD rfl _ _ _ rfl _ (ag 32 0) rfl rfl _ k2 zbx (by rw[aa]) (bm _ _) (fun w9 k2 hg aB=>?_)));have qb:=aq kb hg rK kb.size;exact bodyPost_ret (aj Tryz.results121 _ _ _ rfl zKr _ k2 zbx) rfl ⟨rfl,qb⟩
theorem HV (g:Nat) (w:World) (hc:Cur w g [] true):
 CB 122 #[.pointer (some ⟨g,0,none⟩)] w (.agg (ag 64 0).toArray):=by
 have mM:Hid ((Tryz.prog.info? 5).map (·.size)=some 1):=zH zKr;have cR:=zH (fun w' (hb:Below w.heap.size w w')=>C3 (AV g [] 64 w' (hc.below hb)));clear hc;go_enter Tryz.func122,Tryz.ntmps122;go_upto_region 2 with fail
 refine be (fun W aB k2 k3 kb=>?_);replace k2:Arr W w.heap.size (ag 64 0):=k2;replace k3:Arr W (w.heap.size+1) (ag 64 0):=k3;obtain⟨g2,j9⟩:=zX w.heap.size;rw[j9]at k2 k3⊢;have rK:w.heap.size≤g2:=zOm;clear aB j9;refine cH 3 4 fun bB=>?_;refine eZ ?_ 2 3 zaI [0,1] (fun _ _=>zRd) ?_;refine eg 2 7 bB (cR.out _ (az kb bB)) fun pJ b9=>?_;refine bf 15 rfl zDk (fun K hK=>?_);replace k2:=k2.below b9;replace k3:=k3.below b9;replace kb:=az kb b9;clear b9;refine mu rfl _ _ 24 24 rfl 5 Tryz.underlying24 mM.out (g2+1) 0 64 64 rfl _ k3 zb8 _ rfl [] (Sl.nil _) (fun u hu=>by cases hu) 0 rfl (ag 64 0) zac (fun W3 k3 hg aB=>?_);replace k2:=k2.kept hg zOm;replace kb:=aq kb hg zOm kb.size;refine hK (fun _=>True) 9999 _ _ ?_;clear hK K;try simp only[Act.put]
 try simp only[zSa,zSz,zSs]
 refine ap zKr ?_;go_wp2_with(first|(refine ab rfl _ _ rfl _ rfl zDk _ k3 zbx ?_)|(refine aD rfl _ _ _ rfl _ (ag 64 0) rfl rfl _ k2 zbx (by rw[aa]) (bm _ _) (fun w9 k2 hg aB=>?_)));have qb:=aq kb hg rK kb.size;exact bodyPost_ret (aj Tryz.results122 _ _ _ rfl zKr _ k2 zbx) rfl ⟨rfl,qb⟩
def xQ:List Value:=.int .i64 0::.int .i64 0::(ag 32 0++(.slice none 0 0::.int .i64 0::(ag 32 0++(ag 64 0++ag 64 0))))
theorem Et:xQ.length=196∧(xQ[1]? =some (.int .i64 0)∧xQ[34]? =some (.slice none 0 0)∧xQ[35]? =some (.int .i64 0))∧(xQ.set 1 (.int .i64 0)=xQ∧xQ.set 34 (.slice none 0 0)=xQ∧xQ.set 35 (.int .i64 0)=xQ)∧
 (gJ 2 (ag 32 0) xQ=xQ∧gJ 36 (ag 32 0) xQ=xQ∧gJ 68 (ag 64 0) xQ=xQ∧gJ 132 (ag 64 0) xQ=xQ):=
 ⟨by kernel_rfl,⟨by kernel_rfl,by kernel_rfl,by kernel_rfl⟩,⟨by kernel_rfl,by kernel_rfl,by kernel_rfl⟩,by kernel_rfl,by kernel_rfl,by kernel_rfl,by kernel_rfl⟩
theorem Mk:∀v∈xQ,v.oneCell'=true:=by
 intro v hv;simp only[xQ,List.mem_cons,List.mem_append]at hv;rcases hv with rfl|rfl|h|rfl|rfl|h|h|h<;>first|rfl|exact bm _ _ _ h
theorem Rt:Rr [] true=(0,[],true):=by decide+kernel
theorem Cur.keptE {w w':World} {g k:Nat} {bad:Bool} (h:Cur w g [] bad) (hg:w.grownBy w' (some k)) (hk:k≠g):Cur w' g [] bad:=by
 have bK:=h.lt;obtain⟨v,h1,h2,h3,h4,h5⟩:=h;have hb:=hg.block g bK (by simp only[ne_eq,Option.some.injEq];exact fun e=>hk e.symm);refine⟨v,by rw[World.cell?_of_block (a:=⟨g,0,none⟩) hb];exact h1,by rw[World.cell?_of_block (a:=⟨g,1,none⟩) hb];exact h2,by rw[World.frozen?_of_block (a:=⟨g,0,none⟩) hb];exact h3,by rw[World.frozen?_of_block (a:=⟨g,1,none⟩) hb];exact h4,?_⟩;rcases h5 with h|⟨b,o,cap,rfl,q1,q2,q3,q4,q5⟩
 ·exact .inl h
 ·exact .inr ⟨b,o,cap,rfl,q1,q2,q3,zA3 q4 hg.size,fun j u hu=>by simp[aJ]at hu⟩
theorem FO (g:Nat) (w:World) (hc:Cur w g [] true):Calls Tryz.prog 120 #[.pointer (some ⟨g,0,none⟩)] w fun e w'=>e=.returned (.int .i64 0)∧w.grownBy w' (some g)∧Cur w' g [] true:=by
 have h:=Ma g [] true w hc zDc;rw[Rt]at h;exact h
theorem HU (vb:Value) (bs:List UInt8) (nj:bs.length≤3) (w:World) (hs:Sl w vb (aJ bs)):
 CB 73 #[vb] w (.tuple #[.agg xQ.toArray,.int .i64 4]):=by
 have fQ:=zH Mk;have hZ0:xQ=xQ:=rfl;obtain⟨aI,⟨x1,x34,x35⟩,⟨s1,s34,s35⟩,p2,p36,p68,p132⟩:=Et;obtain⟨X,hX⟩:=zX xQ;rw[hX]at aI x1 x34 x35 s1 s34 s35 p2 p36 p68 p132 fQ⊢;clear hZ0;replace hX:=zH hX;replace aI:=zH aI;replace x1:=zH x1;replace x34:=zH x34;replace x35:=zH x35;replace s1:=zH s1;replace s34:=zH s34;replace s35:=zH s35;replace p2:=zH p2;replace p36:=zH p36;replace p68:=zH p68;replace p132:=zH p132;have cN:=zH (fun w' (hb:Below w.heap.size w w')=>Ah vb bs w' (hs.below hb) zOm);replace nj:=zH nj;clear hs;go_enter Tryz.func73,Tryz.ntmps73;go_upto_region 1 with fail
 refine aH (fun W aB k2 kb=>?_);replace k2:Arr W w.heap.size X:=(congrArg (Arr W w.heap.size) ((by kernel_rfl:_=xQ).trans hX.out)).mp k2;obtain⟨g2,j9⟩:=zX w.heap.size;rw[j9]at k2⊢;have rK:w.heap.size≤g2:=zOm;clear aB j9;go_wp2_with fail;refine(cN.out _ kb).mono ?_;rintro e w1 ⟨gc,rfl,QI,kc,hb⟩;have h2c:=k2.lt;have ahW:g2<gc:=zOm;replace k2:=k2.below hb;replace kb:=az kb hb;have cW:=zH (SH gc bs 4 w1 kc (.inr (by have:=nj.out;omega)));clear hb QI cN h2c kc;go_wp2_with fail;refine cW.out.mono ?_;rintro e w2 ⟨rfl,hg,kc⟩;replace k2:=k2.kept hg zOm;replace kb:=aq kb hg zOm kb.size;clear cW hg;have ep:(convert 24 9 (.slice none 0 0)).run Tryz.prog w2=.ok (.string ⟨#[]⟩) w2:=aeD (bs:=[]) (Sl.nil _);have cI:=zH (FO gc _ kc);clear kc;go_wp2_with fail;refine cI.out.mono ?_;rintro e w3 ⟨rfl,hg,kc⟩;replace k2:=k2.kept hg zOm;replace kb:=aq kb hg zOm kb.size;clear cI hg;clear ep
 go_upto_region 4 with(first|(refine bi rfl _ _ rfl xQ.toArray zKr ?_;rw[hX.out])|(refine aD rfl _ _ _ rfl _ X rfl rfl _ (Arr.new _ _ _) zb9 zb9 fQ.out (fun w4 k6 hg aB=>?_)))
 have hb:=a9 hg;have IR:=kc.lt;replace k2:=k2.below hb;replace kc:=kc.below hb;replace kb:=az kb hb;obtain⟨g6,lV⟩:=zX w3.heap.size;rw[lV]at k6 IR⊢;have hw6:w.heap.size≤g6:=zOm;clear hb aB hg lV;have cI:=zH (FO gc _ kc);clear kc;go_wp2_with fail;refine cI.out.mono ?_;rintro e w5 ⟨rfl,hg,kc⟩;replace k2:=k2.kept hg zOm;replace k6:=k6.kept hg zOm;replace kb:=aq kb hg zOm kb.size;clear cI hg;have q1:=k6.cell x1.out;have q2:=k6.frozen 1;go_upto_region 5 with fail
 clear q1 q2;refine jm k6 (fun w6 k6 hg aB=>?_);replace k2:=k2.kept hg zOm;replace kb:=aq kb hg zOm kb.size;replace kc:=Cur.keptE kc hg zOm;clear hg aB;rw[s1.out]at k6;have cS:=zH (HS gc _ kc);go_wp2_with fail;refine cS.out.mono ?_;rintro e w7 ⟨rfl,hb⟩;replace k2:=k2.below hb;replace k6:=k6.below hb;replace kc:=kc.below hb;replace kb:=az kb hb;clear hb cS;go_upto_region 6 with(refine eU rfl _ _ _ rfl g6 2 (ag 32 0) rfl rfl _ k6 zbx zca (bm _ _) (fun w8 k6 hg=>?_))
 rw[p2.out]at k6;replace k2:=k2.kept hg zOm;replace kb:=aq kb hg zOm kb.size;replace kc:=Cur.keptE kc hg zOm;clear hg;have cW:=zH (AV gc [] 80 _ kc);go_wp2_with fail;refine cW.out.mono ?_;rintro e wR ⟨rfl,hw⟩;subst hw;clear cW;have q1:=k6.cell x34.out;have q2:=k6.frozen 34;go_upto_region 7 with fail
 clear q1 q2;refine jm k6 (fun w10 k6 hg aB=>?_);replace k2:=k2.kept hg zOm;replace kb:=aq kb hg zOm kb.size;replace kc:=Cur.keptE kc hg zOm;clear hg aB;rw[s34.out]at k6;have cI:=zH (FO gc _ kc);clear kc;go_wp2_with fail;refine cI.out.mono ?_;rintro e w11 ⟨rfl,hg,kc⟩;replace k2:=k2.kept hg zOm;replace k6:=k6.kept hg zOm;replace kb:=aq kb hg zOm kb.size;clear cI hg;have q1:=k6.cell x35.out;have q2:=k6.frozen 35;go_upto_region 8 with fail
 clear q1 q2;refine jm k6 (fun w12 k6 hg aB=>?_);replace k2:=k2.kept hg zOm;replace kb:=aq kb hg zOm kb.size;replace kc:=Cur.keptE kc hg zOm;clear hg aB;rw[s35.out]at k6;have cS:=zH (HS gc _ kc);go_wp2_with fail;refine cS.out.mono ?_;rintro e wS ⟨rfl,hb⟩;replace k2:=k2.below hb;replace k6:=k6.below hb;replace kc:=kc.below hb;replace kb:=az kb hb;clear hb cS;go_upto_region 9 with(refine eU rfl _ _ _ rfl g6 36 (ag 32 0) rfl rfl _ k6 zbx zca (bm _ _) (fun w8 k6 hg=>?_))
 rw[p36.out]at k6;replace k2:=k2.kept hg zOm;replace kb:=aq kb hg zOm kb.size;replace kc:=Cur.keptE kc hg zOm;clear hg;have cS:=zH (HV gc _ kc);go_wp2_with fail;refine cS.out.mono ?_;rintro e wS ⟨rfl,hb⟩;replace k2:=k2.below hb;replace k6:=k6.below hb;replace kc:=kc.below hb;replace kb:=az kb hb;clear hb cS;go_upto_region 10 with(refine eU rfl _ _ _ rfl g6 68 (ag 64 0) rfl rfl _ k6 zbx zca (bm _ _) (fun w8 k6 hg=>?_))
 rw[p68.out]at k6;replace k2:=k2.kept hg zOm;replace kb:=aq kb hg zOm kb.size;replace kc:=Cur.keptE kc hg zOm;clear hg;have cS:=zH (HV gc _ kc);go_wp2_with fail;refine cS.out.mono ?_;rintro e wS ⟨rfl,hb⟩;replace k2:=k2.below hb;replace k6:=k6.below hb;replace kc:=kc.below hb;replace kb:=az kb hb;clear hb cS;go_upto_region 11 with(refine eU rfl _ _ _ rfl g6 132 (ag 64 0) rfl rfl _ k6 zbx zca (bm _ _) (fun w8 k6 hg=>?_))
 replace k2:=k2.kept hg zOm;replace kb:=aq kb hg zOm kb.size;replace kc:=Cur.keptE kc hg zOm;clear hg k6;have cE:=Ly gc [] true _ kc;rw[show U2 [] true=false from rfl]at cE;replace cE:=zH cE;go_wp2_with fail;refine cE.out.mono ?_;rintro e wE ⟨rfl,hw⟩;subst hw;clear cE kc;go_wp2_with(first|(refine bi rfl _ _ rfl xQ.toArray zKr ?_;rw[hX.out])|(refine aD rfl _ _ _ rfl _ X rfl rfl _ k2 zb9 (by rw[aI.out]) fQ.out (fun w9 k2 hg aB=>?_)));have qb:=aq kb hg rK kb.size;exact bodyPost_ret (aT Tryz.results73 _ _ g2 _ rfl Tryz.underlying88 rfl X k2 zb9 _ rfl) rfl ⟨rfl,qb⟩
def qm (v i:Int):Bool:=decide (0≤v)&&(decide (v≤2147483647)&&(decide (0≤i)&&decide (i<32)))
theorem Ce (v i:Int) (w:World):CB 138 #[.int .i64 v,.int .i64 i] w (.bool (qm v i)):=by
 obtain⟨V,hV⟩:=zX (qm v i);rw[hV];unfold qm at hV;replace hV:=zH hV;have fin:∀ {b:Bool},(decide (0≤v)&&(decide (v≤2147483647)&&(decide (0≤i)&&decide (i<32))))=b→Hid (V=b):=fun h=>zH (by rw[←hV.out,h])
 by_cases h1:0≤v
 ·by_cases h2:v≤2147483647
  ·by_cases h3:0≤i
   ·by_cases h4:i<32
    ·have hv:=fin (b:=true) (by simp[h1,h2,h3,h4]);exact zdi
    ·exact ze8
   ·exact ze8
  ·exact ze8
 ·exact ze8
end Go.Proofs.YtgfkgolafkdjfaaGreatDoor
