/- ModelWrong: part 10 of its proof: lemmas and contracts, each with its conditions in its own statement; the last part holds the law itself. -/
import Derived.Test.YtgfkgolafkdjfaaGreatDoorJv09

set_option maxHeartbeats 4000000
set_option maxRecDepth 100000
namespace Go.Proofs.YtgfkgolafkdjfaaGreatDoor
open Go.RowKit
theorem bi {P:Program} {ops:Array Oper} {rest:List Oper} {o:Oper} {a:Act} {w:World} {Q:Exit→Act→World→Prop} (hg:o.guard=none) (t:TypeId) (parts:Array (Nat×Operand)) (ho:o.op=.build t parts)
 (cells:Array Value) (hc:P.built t (parts.map fun(i,x)=>(i,a.eval x)).toList=some cells) (h:wpList P ops Q rest (a.put o.dst (.agg cells)) w):wpList P ops Q (o::rest) a w:=
 wpList_build hg t parts ho (by rw[hc];rfl) (by rw[hc];exact h)
theorem GZ (w:World):CB 217 #[] w (.agg (ws ju).toArray):=by
 have hl:=zH (show(ws ju).length=64 by rw[a7];exact im.1);obtain⟨X,hX⟩:=zX (ws ju);have h1:=zH (oH ju);rw[hX]at hl h1⊢;replace hX:=zH hX;go_enter Tryz.func217,Tryz.ntmps217;go_upto_region 1 with fail
 refine aH (fun W aB k0 kb=>?_);replace k0:Arr W w.heap.size (ws (List.replicate 64 0)):=k0;clear aB;go_wp2_with(first|(refine bi rfl _ _ rfl (ws ju).toArray zKr ?_;rw[hX.out])|(refine aD rfl _ _ _ rfl _ X rfl rfl _ k0 zaZ (by rw[hl.out,a7];rfl) h1.out (fun w2 k0 hg aB=>?_)));have qb:=aq kb hg zOm kb.size;exact bodyPost_ret (aj Tryz.results217 _ _ _ rfl zKr _ k0 zaZ) rfl ⟨rfl,qb⟩
theorem I6 (w:World):Calls Tryz.prog 183 #[] w fun e w'=>∃g,e=.returned (.pointer (some ⟨g,0,none⟩))∧w.heap.size≤g∧Arr w' g (fL C7 (List.replicate 64 0) 0 0)∧Below w.heap.size w w':=by
 obtain⟨X,hX⟩:=zX (ws C7);obtain⟨Y,hY⟩:=zX (fL C7 (List.replicate 64 0) 0 0);replace hX:=zH hX;rw[hY];replace hY:=zH hY;go_enter Tryz.func183,Tryz.ntmps183;go_wp2_with(refine bi rfl _ _ rfl (ws C7).toArray zKr ?_;rw[hX.out]);refine zQ (GZ _) fun w1 kb=>?_;rw[←hX.out];go_wp2_with(refine bi rfl _ _ rfl (fL C7 (List.replicate 64 0) 0 0).toArray zKr ?_;rw[hY.out]);exact zec
theorem O7 (g n lg:Nat) (h:List Nat) (bs:List UInt8) (x:UInt8) (w:World) (k0:Arr w g (fL h bs n lg)) (h0:h.length=8∧W32 h) (hb:bs.length=64) (hn:n<64):
 Calls Tryz.prog 184 #[.pointer (some ⟨g,0,none⟩),.int .u8 (x.toNat:Int)] w fun e w'=>
  e=.returned (.tuple #[])∧Arr w' g (if n=63 then fL (DF h (bs.set n x)) (bs.set n x) 0 lg else fL h (bs.set n x) (n+1) lg)∧w.grownBy w' (some g):=by
 have qR:=Da (n:=n) (lg:=lg) h0.1 hb;have qQ:=TM (n:=n) (lg:=lg) (bs:=bs) (j:=n) h0.1 zOm;rw[eY bs n zOm]at qQ;have aL:=KS (n:=n) (lg:=lg) (bs:=bs) (j:=n) (x:=x) h0.1 zOm;have hb2:(bs.set n x).length=64:=(by rw[zA23];exact hb);obtain⟨cs,nq⟩:=zX (bs.set n x);rw[nq]at aL hb2⊢;have uU:=Da (n:=n) (lg:=lg) h0.1 hb2;have sW:=Db (n:=n) (m:=n+1) (lg:=lg) h0.1 hb2;have BL:=Da (n:=n+1) (lg:=lg) h0.1 hb2;have c1:=fun w k=>O9 (g:=g) (n:=n+1) (lg:=lg) w k h0 hb2;have hq:=Ll h0 cs;have Js:=Da (n:=n+1) (lg:=lg) hq.1 hb2;have Cb:=Db (n:=n+1) (m:=0) (lg:=lg) hq.1 hb2;obtain⟨Y,hY⟩:=zX ((if n=63 then fL (DF h cs) cs 0 lg else fL h cs (n+1) lg));rw[hY];replace hY:=zH hY;have fP:(bs[n]'zOm).toNat<256:=(bs[n]'zOm).toNat_lt;generalize (bs[n]'zOm).toNat=y at qQ fP;have n16:(n:Int)<64:=zOm;clear hb nq h0 hq;replace qR:=zH qR;replace qQ:=zH qQ;replace aL:=zH aL;replace hb2:=zH hb2;replace uU:=zH uU
 replace sW:=zH sW;replace BL:=zH BL;replace Js:=zH Js;replace Cb:=zH Cb;replace c1:=zH c1;go_enter Tryz.func184,Tryz.ntmps184;go_upto_region 0 with fail
 refine cH 9 10 fun aP=>?_;refine eZ ?_ 1 511 zaD [0,1,2,3,4,5,6,7,8] (fun w' hB=>by have e1:=(k0.below hB).cell qR.out;exact zRd) ?_;have k0':=k0.below aP;have bo:=k0'.cell qQ.out;have bT:=k0'.frozen (72+n);refine bf 1023 rfl zDk (fun K hK=>?_);go_simp;refine hK (fun _=>True) 9999 _ _ ?_;clear hK K;try simp only[Act.put]
 try simp only[zSa,zSz,zSs]
 refine ap zKr ?_;clear bo bT k0';have kg:=fX (bY w g (72+n) (.int .u8 (x.toNat:Int)));have k1:Arr (w.setCell ⟨g,72+n,none⟩ (.int .u8 (x.toNat:Int))).drew g (fL h cs n lg):=by
  have:=k0.set (72+n) (.int .u8 (x.toNat:Int));rw[aL.out]at this;exact this
 generalize (w.setCell ⟨g,72+n,none⟩ (.int .u8 (x.toNat:Int))).drew=w2 at*;have bo:=k1.cell uU.out;have bT:=k1.frozen 136;go_upto_region 2 with fail
 clear bo bT;have kg:=aN kg (bY w2 g 136 (.int .i64 ((n:Int)+1)));have k2:Arr (w2.setCell ⟨g,136,none⟩ (.int .i64 ((n:Int)+1))) g (fL h cs (n+1) lg):=by
  have:=k1.set 136 (.int .i64 ((n+1:Nat):Int));rw[sW.out]at this;exact this
 generalize w2.setCell ⟨g,136,none⟩ (.int .i64 ((n:Int)+1))=w3 at*;have bo:=k2.cell BL.out
 by_cases qJ:n=63
 ·have c2:=zH (c1.out w3 k2);clear c1;subst qJ;go_wp2_with fail;refine c2.out.mono ?_;rintro e w4 ⟨rfl,k3,kZ⟩;have kg:=aN kg kZ;clear kZ bo;have bo:=k3.cell Js.out;have bT:=k3.frozen 136;go_wp2_with fail;go_end0;replace k3:=k3.set 136 (.int .i64 ((0:Nat):Int));exact zeL
 ·have rW:((n+1:Nat):Int)≠64:=zOm;go_wp2_with fail;go_end0;exact ze2
def rr (L:List UInt8):Nat→List Nat
 |0=>C7
 |i+1=>DF (rr L i) ((L.drop (64*i)).take 64)
theorem ru (L:List UInt8):∀i,(rr L i).length=8∧W32 (rr L i)
 |0=>WK
 |i+1=>Ll (ru L i) _
theorem C5 (L M:List UInt8):∀i,64*i≤L.length→rr (L++M) i=rr L i
 |0,_=>rfl
 |i+1,h=>by
  rw[rr,rr,C5 L M i zOm,List.drop_append_of_le_length zOm,List.take_append_of_le_length za2]
def SSta (w:World) (g lg:Nat) (L:List UInt8):Prop:=∃bs,bs.length=64∧bs.take (L.length%64)=L.drop (64*(L.length/64))∧Arr w g (fL (rr L (L.length/64)) bs (L.length%64) lg)
theorem SSta.below {w w':World} {g lg:Nat} {L:List UInt8} (h:SSta w g lg L) (hb:Below w.heap.size w w'):SSta w' g lg L:=by
 exact zfM
theorem SSta.lt {w:World} {g lg:Nat} {L:List UInt8} (h:SSta w g lg L):g<w.heap.size:=by
 obtain⟨bs,-,-,h3⟩:=h;exact h3.lt
theorem SSta.start {w:World} {g:Nat} (h:Arr w g (fL C7 (List.replicate 64 0) 0 0)):SSta w g 0 []:=⟨_,by simp,rfl,h⟩
theorem SSta.n {w:World} {g lg:Nat} {L:List UInt8} (h:SSta w g lg L):w.cell? ⟨g,136,none⟩=some (.int .i64 ((L.length%64:Nat):Int)):=by
 obtain⟨bs,h1,-,h3⟩:=h;exact h3.cell (Da (ru L _).1 h1)
theorem SSta.l {w:World} {g lg:Nat} {L:List UInt8} (h:SSta w g lg L):w.cell? ⟨g,137,none⟩=some (.int .u64 (lg:Int))∧w.frozen? ⟨g,137,none⟩=false:=by
 obtain⟨bs,h1,-,h3⟩:=h;exact⟨h3.cell (aaV (ru L _).1 h1),h3.frozen _⟩
theorem SSta.set {w:World} {g lg m:Nat} {L:List UInt8} (h:SSta w g lg L):SSta (w.setCell ⟨g,137,none⟩ (.int .u64 (m:Int))) g m L:=by
 obtain⟨bs,h1,h2,h3⟩:=h;refine⟨bs,h1,h2,?_⟩;have:=h3.set 137 (.int .u64 (m:Int));rwa[KV (ru L _).1 h1]at this
theorem xx (g lg:Nat) (L:List UInt8) (x:UInt8) (w:World) (k0:SSta w g lg L):
 Calls Tryz.prog 184 #[.pointer (some ⟨g,0,none⟩),.int .u8 (x.toNat:Int)] w fun e w'=>e=.returned (.tuple #[])∧SSta w' g lg (L++[x])∧w.grownBy w' (some g):=by
 obtain⟨bs,h1,h2,h3⟩:=k0;refine(O7 g (L.length%64) lg _ bs x w h3 (ru L _) h1 (zA1 _ zDc)).mono ?_;rintro e w' ⟨rfl,k1,kg⟩;refine⟨rfl,?_,kg⟩;have hl:(L++[x]).length=L.length+1:=zac;have e2:(bs.set (L.length%64) x).take (L.length%64+1)=L.drop (64*(L.length/64))++[x]:=by
  exact zfp
 have e4:(L++[x]).drop (64*(L.length/64))=L.drop (64*(L.length/64))++[x]:=List.drop_append_of_le_length zOm
 by_cases qJ:L.length%64=63
 ·rw[if_pos qJ]at k1;have e3:bs.set (L.length%64) x=L.drop (64*(L.length/64))++[x]:=by
   exact zfN
  have Ho:(L.drop (64*(L.length/64))++[x]).length=64:=zab;rw[e3]at k1;refine⟨_,Ho,?_,?_⟩
  ·rw[hl,show(L.length+1)%64=0 by omega,List.take_zero,show 64*((L.length+1)/64)=L.length+1 by omega,List.drop_of_length_le zOm]
  ·rw[hl,show(L.length+1)%64=0 by omega,show(L.length+1)/64=L.length/64+1 by omega,rr,C5 _ _ _ zOm,e4,zA8 zOm];exact k1
 ·rw[if_neg qJ]at k1;refine⟨bs.set (L.length%64) x,by rw[zA23];exact h1,?_,?_⟩
  ·rw[hl,show(L.length+1)%64=L.length%64+1 by omega,show(L.length+1)/64=L.length/64 by omega,e2,e4]
  ·rw[hl,show(L.length+1)%64=L.length%64+1 by omega,show(L.length+1)/64=L.length/64 by omega,C5 _ _ _ zOm];exact k1
section
variable {P:Program} {Q:Exit→Act→World→Prop}
def AI (l:List Oper) (is:List Nat):Nat→Nat→Nat→Bool
 |0,q,p=>df l q p
 |n+1,q,p=>df l q p ||is.any (fun r=>df l q r&&AI l is n r p)
theorem Bp {l:List Oper} {is:List Nat} {m:Nat} (hW:∀q,q∈is→m.testBit q=true→∀j,df l q j=true→m.testBit j=true):∀(n q p:Nat),q∈is→m.testBit q=true→AI l is n q p=true→m.testBit p=true
 |0,q,p,hq,hm,h=>hW q hq hm p h
 |n+1,q,p,hq,hm,h=>by
  rw[AI,Bool.or_eq_true]at h;rcases h with h|h
  ·exact hW q hq hm p h
  ·obtain⟨r,hr,h2⟩:=List.any_eq_true.1 h;rw[Bool.and_eq_true]at h2;exact Bp hW n r p hr (hW q hq hm r h2.1) h2.2
def FW (l:List Oper) (size f d:Nat) (is:List Nat) (deps:List (Bool×List (Nat×Nat))) (f' d':Nat):Bool:=
 f==f'+is.length&&is.foldl (fun m i=>m |||2^i) d==d'&&lL l d is&&
 G4 l is&&
 is.all (fun i=>match gd l i with|some t=>decide (t<size)|none=>true)&&
 deps.length==is.length&&(is.zip deps).all (fun p=>xW l is p.1 p.2.2&&qB p.2.2&&(!p.2.1 ||Ef l d p.1))&&
 (List.range l.length).all (fun k=>d.testBit k ||is.contains k ||(is.zip deps).all (fun p=>p.2.1 ||df l k p.1 ||is.any (fun q=>df l k q&&AI l is 6 q p.1)) ||(List.range l.length).any (fun k'=>!d.testBit k'&& !is.contains k'&&df l k k'))
theorem Ba {l:List Oper} {S:World→Prop} {B:Nat} {w:World} {f d:Nat} {a:Act} (Ext:World→World→Prop) (f' d':Nat) (is:List Nat) (deps:List (Bool×List (Nat×Nat))) (Φ N:Nat→Value→World→Prop) (Pr:Nat→Value→Nat→Value→Prop)
 (ee:FW l a.tmps.size f d is deps f' d'=true) (oh:Region.noSelect l.toArray=true) (hBp:is.contains B=false) (Hw:∀w,Ext w w) (Cd:∀w1 w2 w3,Ext w1 w2→Ext w2 w3→Ext w1 w3)
 (hS:S w) (hSE:∀w1 w2,S w1→Ext w1 w2→S w2) (hΦ:∀i v w1 w2,Φ i v w1→Ext w1 w2→Φ i v w2)
 (hN:∀i j v u w,i≠j→N i v w→Φ j u w→Pr i v j u∧Pr j u i v)
 (BY:A9 P l Q S Ext Φ N a w is deps)
 (H:∀(vs:Nat→Value) w',S w'→Ext w w'→(∀i∈is,Φ i (vs i) w')→(∀i∈is,∀j∈is,i≠j→Pr i (vs i) j (vs j))→Tx P l Q S B f' d' (iy l d' vs is a) w'):Tx P l Q S B f d a w:=by
 simp only[FW,Bool.and_eq_true,beq_iff_eq]at ee;obtain⟨⟨⟨⟨⟨⟨⟨hf,Uq⟩,Q9⟩,hpw⟩,aB⟩,Ur⟩,Hl⟩,Nk⟩:=ee;have nX:I1 l is:=Fn is hpw;have IU:∀i∈is,d.testBit i=false:=by
  have key:∀(js:List Nat) (e:Nat),lL l e js=true→∀i∈js,e.testBit i=false:=by
   intro js
   induction js with
   |nil=>intro e _ i hi;cases hi
   |cons j js ih=>
    intro e h i hi;simp only[lL,Bool.and_eq_true,Bool.not_eq_true']at h;rcases List.mem_cons.1 hi with rfl|hi
    ·exact h.1.2
    ·exact zfE
  exact key is d Q9
 have main:∀(n m:Nat) (vs:Nat→Value) (w1:World),(is.filter fun i=>!m.testBit i).length=n→(∀k,k∉is→m.testBit k=d.testBit k)→S w1→Ext w w1→
  (∀i∈is,m.testBit i=true→Φ i (vs i) w1)→(∀i∈is,∀j∈is,m.testBit i=true→m.testBit j=true→i≠j→Pr i (vs i) j (vs j))→(∀i∈is,m.testBit i=true→∀j,df l i j=true→m.testBit j=true)→Tx P l Q S B (f'+n) m (iy l m vs is a) w1:=by
  intro n
  induction n with
  |zero=>
   intro m vs w1 hn hm hS1 hE hP hR hW;have dB:∀i∈is,m.testBit i=true:=by
    exact zeI
   have em:m=d':=by
    apply Nat.eq_of_testBit_eq;intro k;rw[←Uq,uO]
    by_cases hk:k∈is
    ·rw[dB k hk];simp[hk]
    ·rw[hm k hk];simp[hk]
   exact zeK
  |succ n ih=>
   intro m vs w1 hn hm hS1 hE hP hR hW;have NM:∃i∈is,m.testBit i=false:=by
    exact zd0
   have Ju:∀k,d.testBit k=true→m.testBit k=true:=by
    intro k hk
    by_cases QN:k∈is
    ·rw[IU k QN]at hk;cases hk
    ·rw[hm k QN];exact hk
   obtain⟨i1,QT,og⟩:=oF is d Q9 Ju NM
   by_cases hEx:∃i ds,(i,(true,ds))∈is.zip deps∧i∈Region.ready .any l.toArray (jr l.length m)
   ·obtain⟨i,ds0,jN,hi⟩:=hEx;have iO:i∈is:=(List.of_mem_zip jN).1;obtain⟨bb,ds,hz,BZ⟩:=kn is deps BY i iO;have kK:bb=true:=Dr is deps Ur (nX.imp (fun h=>h.1)) hz jN;rw[if_pos kK]at BZ;obtain⟨o2,rJ,JN⟩:=BZ;obtain⟨xP,o,ho,Zl⟩:=mem_ready.1 hi;have sS:l[i]? =some o:=zai;have FF:i<l.length:=(zA18.1 sS).1;rw[eM FF]at xP;have nY:∀j,df l i j=true→m.testBit j=true:=by
     intro j hj;unfold df at hj;rw[sS]at hj;simp only[Array.any_eq_true]at hj;obtain⟨x,hx,hb⟩:=hj;simp only[Bool.and_eq_true,beq_iff_eq]at hb;have:=Zl _ (Array.getElem_mem hx) hb.1;rw[hb.2]at this
     by_cases Av:j<l.length
     ·exact zfL
     ·exact zfK
    rw[sS]at rJ;have Ds:=Option.some.inj rJ;subst Ds;have Qt:=zA19.1 Hl (i,(bb,ds)) hz;simp only[Bool.and_eq_true,xW]at Qt;obtain⟨⟨⟨tH,xM⟩,Jt⟩,oZ⟩:=Qt;have Jt:=lN ds Jt;have sV:∀t∈o.looksAt l.toArray,(iy l m vs is a).tmps[t]? =(aG vs ds a).tmps[t]? :=by
     intro t ht
     by_cases hex:∃j∈is,gd l j=some t
     ·obtain⟨j,hj,BV⟩:=hex;have h1:=zA19.1 xM j hj;rw[sS,BV]at h1;simp only[Bool.or_eq_true,Bool.not_eq_true']at h1;have h2:(j,t)∈ds:=by
       rcases h1 with h1|h1
       ·exact zeJ
       ·simpa using h1
      have h3:=zA19.1 tH _ h2;simp only[Bool.and_eq_true]at h3;have bK:t<a.tmps.size:=by
       exact zep
      exact zen
     ·exact zc7
    have ZO:∀cs b,o.op≠.select cs b:=fun cs b=>Region.noSelect_spec oh i o cs b ho;have JQ:rZ Φ vs w1 ds:=pO ds (fun p hp=>by
     have h3:=zA19.1 tH p hp;simp only[Bool.and_eq_true]at h3;exact hP p.1 zas (nY p.1 h3.2))
    have wH:∀v w2,Φ i v w2∧Ext w1 w2∧N i v w1→if i=B then wpAny P .any l.toArray (NoP Q) (f'+n) ((jr l.length m).setIfInBounds i true) ((iy l m vs is a).put o.dst v) w2 else S w2∧jK P .any l.toArray (NoP Q) S B (f'+n) ((jr l.length m).setIfInBounds i true) ((iy l m vs is a).put o.dst v) w2:=by
     rintro v w2 ⟨hv,hE2,hNv⟩;have AO:¬i=B:=fun e=>by rw[e]at iO;rw[List.contains_iff_mem.2 iO]at hBp;cases hBp
     rw[if_neg AO];refine⟨hSE _ _ hS1 hE2,?_⟩;have jR:gd l i=o.dst:=zat;rw[jt,←jR,sk is a nX iO xP];refine ih (m |||2^i) (upd vs i v) w2 ?_ ?_ (hSE _ _ hS1 hE2) (Cd _ _ _ hE hE2) ?_ ?_ (fun j0 uz hb j hj=>by
      rw[aM]at hb⊢
      by_cases e:i=j0
      ·exact ze3
      ·rw[decide_eq_false e,Bool.or_false]at hb;rw[hW j0 uz hb j hj,Bool.true_or])
     ·have key:∀(js:List Nat),js.Nodup→(js.filter fun k=>!(m |||2^i).testBit k).length+(if i∈js then 1 else 0)=(js.filter fun k=>!m.testBit k).length:=by
       intro js
       induction js with
       |nil=>intro _;rfl
       |cons j js ihj=>
        intro vB;rw[List.nodup_cons]at vB;have h6:=ihj vB.2
        by_cases e:i=j
        ·exact zdj
        ·have e2:(i∈j::js)=(i∈js):=(by simp[e]);have e3:(m |||2^i).testBit j=m.testBit j:=zau;rw[List.filter_cons,List.filter_cons,e3];have e2:(if i∈j::js then 1 else 0)=(if i∈js then 1 else 0):=by
          by_cases xN:i∈js
          ·exact zez
          ·exact zfa
         exact zdl
      exact zdJ
     ·exact zdG
     ·intro j hj zo;unfold upd
      by_cases e:j=i
      ·exact zfq
      ·exact zdx
     ·intro j hj k hk zo sH AP;unfold upd
      by_cases e:j=i
      ·exact zdb
      ·rw[if_neg e];rw[aM,decide_eq_false (Ne.symm e),Bool.or_false]at zo
       by_cases e2:k=i
       ·exact zdR
       ·exact zdB
    obtain⟨v,hwd,zq,hv,hNv⟩:=JN vs w1 hS1 hE JQ;have hl:=wH v w1 ⟨hv,Hw w1,hNv⟩;have AO:¬i=B:=fun e=>by rw[e]at iO;rw[List.contains_iff_mem.2 iO]at hBp;cases hBp
    rw[if_neg AO]at hl;have FD:Ef l d i=true:=(by rw[kK]at oZ;simpa using oZ);refine tr ho (Region.noSelect_spec oh) (fun c a w hq=>hq) AO (f'+n) _ _ _ (fun j oj hj rS po vC=>?_) hi (.inl ⟨by rw[pn sV];exact hwd,fun w'=>by rw[tF ZO sV];exact zq w'⟩) hS1 hl.2;have Av:j<l.length:=zaw;have LY:l[j]? =some oj:=zax;rw[eM Av]at po;unfold Ef at FD;rw[sS]at FD;have h1:=zA19.1 FD j (List.mem_range.2 Av);rw[LY]at h1;simp only[Bool.or_eq_true,beq_iff_eq]at h1;rcases h1 with(((h1|h1)|h1)|h1)|h1
    ·exact absurd h1 rS
    ·rw[Ju j h1]at po;cases po
    ·exact zd9
    ·rw[nY j h1]at po;cases po
    ·exact h1
   ·unfold Tx;refine⟨fun h0=>(by rw[h0]at og;cases og),fun i hi=>?_⟩;obtain⟨xP,o,ho,Zl⟩:=mem_ready.1 hi;have sS:l[i]? =some o:=zai;have FF:i<l.length:=(zA18.1 sS).1;rw[eM FF]at xP;have nY:∀j,df l i j=true→m.testBit j=true:=by
     intro j hj;unfold df at hj;rw[sS]at hj;simp only[Array.any_eq_true]at hj;obtain⟨x,hx,hb⟩:=hj;simp only[Bool.and_eq_true,beq_iff_eq]at hb;have:=Zl _ (Array.getElem_mem hx) hb.1;rw[hb.2]at this
     by_cases Av:j<l.length
     ·exact zfL
     ·exact zfK
    have iO:i∈is:=by
     by_cases iO:i∈is
     ·exact iO
     ·exfalso;have h1:=zA19.1 Nk i (List.mem_range.2 FF);simp only[Bool.or_eq_true]at h1;rcases h1 with((h1|h1)|h1)|h1
      ·rw[←hm i iO,xP]at h1;cases h1
      ·exact iO (by simpa using h1)
      ·obtain⟨b1,ds1,jA,-⟩:=kn is deps BY i1 QT;have h2:=zA19.1 h1 _ jA;simp only[Bool.or_eq_true]at h2;rcases h2 with(h2|h2)|h2
       ·exact hEx ⟨i1,ds1,by rw[←h2];exact jA,og⟩
       rotate_left
       ·obtain⟨q,hq,h5⟩:=List.any_eq_true.1 h2;rw[Bool.and_eq_true]at h5;have h3:=Bp (m:=m) (fun q hq hm j hw=>hW q hq hm j hw) 6 q i1 hq (nY q h5.1) h5.2;exact zdp
       ·have h3:=nY i1 h2;exact zdp
      ·exact zea
    obtain⟨bb,ds,hz,BZ⟩:=kn is deps BY i iO;have kK:¬bb=true:=fun e=>hEx ⟨i,ds,by rw[←e];exact hz,hi⟩;rw[if_neg kK]at BZ;obtain⟨o2,rJ,JN⟩:=BZ;rw[sS]at rJ;have Ds:=Option.some.inj rJ;subst Ds;have Qt:=zA19.1 Hl (i,(bb,ds)) hz;simp only[Bool.and_eq_true,xW]at Qt;obtain⟨⟨⟨tH,xM⟩,Jt⟩,oZ⟩:=Qt;have Jt:=lN ds Jt;have sV:∀t∈o.looksAt l.toArray,(iy l m vs is a).tmps[t]? =(aG vs ds a).tmps[t]? :=by
     intro t ht
     by_cases hex:∃j∈is,gd l j=some t
     ·obtain⟨j,hj,BV⟩:=hex;have h1:=zA19.1 xM j hj;rw[sS,BV]at h1;simp only[Bool.or_eq_true,Bool.not_eq_true']at h1;have h2:(j,t)∈ds:=by
       rcases h1 with h1|h1
       ·exact zeJ
       ·simpa using h1
      have h3:=zA19.1 tH _ h2;simp only[Bool.and_eq_true]at h3;have bK:t<a.tmps.size:=by
       exact zep
      exact zen
     ·exact zc7
    have ZO:∀cs b,o.op≠.select cs b:=fun cs b=>Region.noSelect_spec oh i o cs b ho;have JQ:rZ Φ vs w1 ds:=pO ds (fun p hp=>by
     have h3:=zA19.1 tH p hp;simp only[Bool.and_eq_true]at h3;exact hP p.1 zas (nY p.1 h3.2))
    have wH:∀v w2,Φ i v w2∧Ext w1 w2∧N i v w1→if i=B then wpAny P .any l.toArray (NoP Q) (f'+n) ((jr l.length m).setIfInBounds i true) ((iy l m vs is a).put o.dst v) w2 else S w2∧jK P .any l.toArray (NoP Q) S B (f'+n) ((jr l.length m).setIfInBounds i true) ((iy l m vs is a).put o.dst v) w2:=by
     rintro v w2 ⟨hv,hE2,hNv⟩;have AO:¬i=B:=fun e=>by rw[e]at iO;rw[List.contains_iff_mem.2 iO]at hBp;cases hBp
     rw[if_neg AO];refine⟨hSE _ _ hS1 hE2,?_⟩;have jR:gd l i=o.dst:=zat;rw[jt,←jR,sk is a nX iO xP];refine ih (m |||2^i) (upd vs i v) w2 ?_ ?_ (hSE _ _ hS1 hE2) (Cd _ _ _ hE hE2) ?_ ?_ (fun j0 uz hb j hj=>by
      rw[aM]at hb⊢
      by_cases e:i=j0
      ·exact ze3
      ·rw[decide_eq_false e,Bool.or_false]at hb;rw[hW j0 uz hb j hj,Bool.true_or])
     ·have key:∀(js:List Nat),js.Nodup→(js.filter fun k=>!(m |||2^i).testBit k).length+(if i∈js then 1 else 0)=(js.filter fun k=>!m.testBit k).length:=by
       intro js
       induction js with
       |nil=>intro _;rfl
       |cons j js ihj=>
        intro vB;rw[List.nodup_cons]at vB;have h6:=ihj vB.2
        by_cases e:i=j
        ·exact zdj
        ·have e2:(i∈j::js)=(i∈js):=(by simp[e]);have e3:(m |||2^i).testBit j=m.testBit j:=zau;rw[List.filter_cons,List.filter_cons,e3];have e2:(if i∈j::js then 1 else 0)=(if i∈js then 1 else 0):=by
          by_cases xN:i∈js
          ·exact zez
          ·exact zfa
         exact zdl
      exact zdJ
     ·exact zdG
     ·intro j hj zo;unfold upd
      by_cases e:j=i
      ·exact zfq
      ·exact zdx
     ·intro j hj k hk zo sH AP;unfold upd
      by_cases e:j=i
      ·exact zdb
      ·rw[if_neg e];rw[aM,decide_eq_false (Ne.symm e),Bool.or_false]at zo
       by_cases e2:k=i
       ·exact zdR
       ·exact zdB
    have FG:=JN vs w1 hS1 hE JQ (fun c w'=>∃v,c=(aG vs ds a).put o.dst v∧Φ i v w'∧Ext w1 w'∧N i v w1) (fun v w' h1 h2 h3=>⟨v,rfl,h1,h2,h3⟩);unfold wpOp;simp only[ho];rw[pn sV];have Qv:∀t,o.dst=some t→t<(aG vs ds a).tmps.size:=by
     exact zeC
    split
    ·exact zfF
    ·rename_i hw;rw[if_neg hw]at FG;obtain⟨v,h1,h2,h3,As⟩:=FG;have h4:=wH v w1 ⟨h2,h3,As⟩;rcases Ga Qv h1 with h5|h5
     ·rw[h5]at h4⊢;exact h4
     ·rw[h5];exact h4
 have h0:=main is.length d (fun _=>undef) w (by
  rw[List.filter_eq_self.2];intro i hi;rw[IU i hi];rfl) (fun _ _=>rfl) hS (Hw w) (fun i hi hb=>by rw[IU i hi]at hb;cases hb) (fun i hi _ _ hb _ _=>by rw[IU i hi]at hb;cases hb) (fun i hi hb=>by rw[IU i hi]at hb;cases hb)
 rw[hf];have e:iy l d (fun _=>undef) is a=a:=by
  have key:∀(js:List Nat) (b:Act),(∀i∈js,d.testBit i=false)→iy l d (fun _=>undef) js b=b:=by
   intro js
   induction js with
   |nil=>intro b _;rfl
   |cons j js ihj=>
    exact zfm
  exact key is a IU
 rw[e]at h0;exact h0
theorem ts {l:List Oper} {W w:World} {B f d:Nat} {a:Act} (f' d':Nat) (slots:List (Nat×Nat)) (deps:List (Bool×List (Nat×Nat))) (Φ:List (Nat×Ph))
 (ee:(FW l a.tmps.size f d (slots.map (·.1)) deps f' d'&&(slots.all fun p=>d'.testBit p.1&&gd l p.1==some p.2)&&(Φ.map (·.1)==slots.map (·.1))&& !(slots.map (·.1)).contains B)=true) (oh:Region.noSelect l.toArray=true)
 (hS:Below W.heap.size W w)
 (BY:A9 P l Q (fun w'=>Below W.heap.size W w') (fun w1 w2=>Below w1.heap.size w1 w2) (Pq Φ) (Cw Φ) a w (slots.map (·.1)) deps)
 (H:∀(vs:Nat→Value) w',Below W.heap.size W w'→Below w.heap.size w w'→UE Φ vs w' Φ→(∀i j,(slots.map (·.1)).contains i=true→(slots.map (·.1)).contains j=true→(i != j)=true→gT Φ i=true→gT Φ j=true→vs i≠vs j)→Tx P l Q (fun w'=>Below W.heap.size W w') B f' d' (aG vs slots a) w'):Tx P l Q (fun w'=>Below W.heap.size W w') B f d a w:=by
 simp only[Bool.and_eq_true,beq_iff_eq,Bool.not_eq_true']at ee;refine Ba _ f' d' _ deps (Pq Φ) (Cw Φ) (fun i v j u=>gT Φ i=true→gT Φ j=true→v≠u) ee.1.1.1 oh ee.2 (fun w=>zA6 _ _) (fun w1 w2 w3 h1 h2=>aW h1 (zA0 _) h2) hS (fun w1 w2 h1 h2=>aW h1 (zA0 _) h2)
  (fun i v w1 w2 h1 h2=>CE h2 Φ h1) (fun i j v u w _ h1 h2=>?_) BY ?_
 ·have key:gT Φ i=true→gT Φ j=true→v≠u:=by
   exact zed
  exact⟨key,fun h3 h4 h5=>key h4 h3 h5.symm⟩
 exact zdX
end
theorem kl (b:Nat):∀(xs ys:List Nat),val b (xs++ys)=val b xs+b^xs.length*val b ys
 | [],ys=>by simp[val]
 |x::xs,ys=>by
  rw[List.cons_append,val,val,kl b xs ys,List.length_cons,zA24,Nat.mul_comm (b^xs.length) b,Nat.mul_add,zA26];omega
def ag (k n:Nat):List Value:=(bF 256 k n).map fun(x:Nat)=>.int .u8 (x:Int)
theorem aa (k n:Nat):(ag k n).length=k:=by simp[ag,bj]
theorem bX (k n i:Nat) (h:i<k):(ag k n)[i]? =some (.int .u8 ((n/256^i%256:Nat):Int)):=by simp[ag,eG _ _ _ _ h]
theorem bm (k n:Nat):∀v∈ag k n,v.oneCell'=true:=by
 intro v hv;simp only[ag,List.mem_map]at hv;exact zeg
theorem sd (k a:Nat):ag k a=aJ ((bF 256 k a).map UInt8.ofNat):=by
 simp only[ag,aJ,List.map_map];exact zfu
theorem Uh (k a:Nat) (hk:k≤64) (ha:a<256^k):val 256 ((((bF 256 k a).map UInt8.ofNat).take 64).map (·.toNat))=a:=by
 rw[zA8 (by simpa[bj]using hk),List.map_map];have e:List.map ((fun x=>x.toNat)∘UInt8.ofNat) (bF 256 k a)=bF 256 k a:=by
  conv=>rhs;rw[←List.map_id (bF 256 k a)]
  exact zfu
 rw[e,ir,zA4 ha]
theorem GS {k n:Nat} (h:n<256^k):ea k (ag 64 n) (ag 64 0)=ag 64 n:=by
 apply List.ext_getElem?;intro j
 by_cases hj:j<64
 ·rw[eh za3 (by rw[aa];exact hj)];split
  ·rfl
  ·rw[bX _ _ _ hj,bX _ _ _ hj,zA32 (zA3 h (Nat.pow_le_pow_right zDc zOm)),Nat.zero_div]
 ·rw[zA13 (by rw[wT za3,aa];omega),zA13 za4]
def iu (t:List Nat):List Value:=t.map fun(x:Nat)=>.int .i64 (x:Int)
theorem mz (t:List Nat):(iu t).length=t.length:=by simp[iu]
theorem eH {t:List Nat} {i x:Nat} (h:t[i]? =some x):(iu t)[i]? =some (.int .i64 (x:Int)):=by simp[iu,h]
theorem iD (t:List Nat) (i x:Nat):(iu t).set i (.int .i64 (x:Int))=iu (t.set i x):=by simp[iu,List.map_set]
theorem tE (t:List Nat):∀v∈iu t,v.oneCell'=true:=by
 intro v hv;simp only[iu,List.mem_map]at hv;exact zeg
theorem dE {xs:List Nat} {i:Nat} (h:i<xs.length):xs[i]? =some (xs.getD i 0):=by
 rw[zA10,zA7 h];rfl
theorem jg {b:Nat} {ys:List Nat} {j:Nat} (h:j<ys.length):val b (ys.take (j+1))=val b (ys.take j)+b^j*ys.getD j 0:=by
 rw[List.take_succ_eq_append_getElem h,kl,zA15,Nat.min_eq_left zOm,zA10,zA7 h];simp[val]
theorem tU (b:Nat) (xs:List Nat) (k:Nat) (h:k≤xs.length):val b xs=val b (xs.take k)+b^k*val b (xs.drop k):=by
 conv=>lhs;rw[←List.take_append_drop k xs]
 rw[kl,zA15,Nat.min_eq_left h]
def Le (B:Nat) (t:List Nat):Prop:=∀m,t.getD m 0≤B
theorem Le.mono {A B:Nat} {t:List Nat} (h:Le A t) (hAB:A≤B):Le B t:=fun m=>zA14 (h m) hAB
theorem qX (k n:Nat):Le 255 (bF 256 k n):=by
 intro m;rw[zA10];cases h:(bF 256 k n)[m]? with
 |none=>simp
 |some d=>have:=nD 256 k n zDc d (List.mem_of_getElem? h);simp;omega
theorem Ug (T:List Nat) {k:Nat} (hk:k<T.length):(val 256 (T.take k)/256^k+T.getD k 0)%256=val 256 T/256^k%256∧val 256 (T.take (k+1))/256^(k+1)=(val 256 (T.take k)/256^k+T.getD k 0)/256:=by
 have h1:=jg (b:=256) (ys:=T) (j:=k) hk;have h2:=tU 256 T (k+1) zOm;have hp:0<256^k:=Nat.pow_pos zDc;have h3:val 256 (T.take (k+1))/256^k=val 256 (T.take k)/256^k+T.getD k 0:=(by rw[h1,zA30 _ _ hp]);constructor
 ·rw[h2,zA24,zA26,zA30 _ _ hp,zA27,h3]
 ·rw[zA24,←zA22,h3]
end Go.Proofs.YtgfkgolafkdjfaaGreatDoor
