/- ModelWrong: part 31 of its proof: lemmas and contracts, each with its conditions in its own statement; the last part holds the law itself. -/
import Derived.Test.YtgfkgolafkdjfaaGreatDoorJv30

set_option maxHeartbeats 4000000
set_option maxRecDepth 100000
namespace Go.Proofs.YtgfkgolafkdjfaaGreatDoor
open Go.RowKit
def OR (k c n:Nat) (bs:List UInt8):Nat→List UInt8
 |0=>bs
 |i+1=>(OR k c n bs i).set i (UInt8.ofNat ((bs.getD i 0).toNat ^^^J2 k c n i))
theorem Gj (k c n:Nat) (bs:List UInt8):∀i,(OR k c n bs i).length=bs.length
 |0=>rfl
 |i+1=>by rw[OR,zA23,Gj k c n bs i]
theorem Ir (k c n:Nat) (bs:List UInt8):∀i j,i≤j→(OR k c n bs i)[j]? =bs[j]?
 |0,_,_=>rfl
 |i+1,j,h=>by rw[OR,List.getElem?_set_ne zOm,Ir k c n bs i j zOm]
theorem MC (k c n:Nat) (bs:List UInt8):∀i j,j<i→i≤bs.length→(OR k c n bs i)[j]? =some (UInt8.ofNat ((bs.getD j 0).toNat ^^^J2 k c n j))
 |0,j,h,_=>absurd h zOm
 |i+1,j,h,hi=>by
  rw[OR,List.getElem?_set]
  by_cases e:i=j
  ·subst e;rw[if_pos rfl,if_pos (by rw[Gj];omega)]
  ·rw[if_neg e,MC k c n bs i j zOm zOm]
theorem Wr (k c n:Nat) (bs:List UInt8):OR k c n bs bs.length=ID k c n bs:=by
 apply List.ext_getElem?;intro j
 by_cases h:j<bs.length
 ·rw[MC k c n bs _ j h (zA0 _),Gw k c n h]
 ·rw[zA13 (by rw[Gj];omega),zA13 (by rw[nG];omega)]
theorem Tg {k c n i x y:Nat} {bs:List UInt8} (hx:(bs.getD i 0).toNat=x) (hk:J2 k c n i=y) (lx:x<256) (ly:y<256):
 (aJ (OR k c n bs i)).set i (.int .u8 ((x ^^^y:Nat):Int))=aJ (OR k c n bs (i+1)):=by
 have e:((x ^^^y:Nat):Int)=(((UInt8.ofNat (x ^^^y)).toNat:Nat):Int):=(by rw[UInt8.toNat_ofNat',zA4 (xJ lx ly)]);rw[e,OR,hx,hk];exact zfy
theorem rc {w:World} {B:Nat} {e:TypeId} {v:Value} {n:Nat} {xs:List Value} (h:w.ownsRow B e 1 v n xs):∃a c,v=.slice a n c:=by
 rcases h.2 with⟨rfl,rfl⟩|⟨g,cap,cur,rfl,-⟩<;>exact⟨_,_,rfl⟩
theorem VM {w:World} {B n j c:Nat} {e:TypeId} {a:Option Addr} {xs:List Value} (h:w.ownsRow B e 1 (.slice a n c) n xs) (hj:j<n):∃g,a=some ⟨g,0,none⟩∧B≤g∧g<w.heap.size:=by
 rcases id h.2 with⟨-,h0⟩|⟨g,cap,cur,he,hb,hg,_⟩
 ·omega
 ·simp only[Value.slice.injEq]at he;obtain⟨rfl,-,-⟩:=he;exact⟨g,rfl,hb,(Array.getElem?_eq_some_iff.1 hg).1⟩
theorem EJ (k n c:Nat) (a:Option Addr) (cap:Nat) (bs:List UInt8) (hc:c<4294967296) (hl:bs.length≤100000) (w:World) (h:Sl w (.slice a bs.length cap) (aJ bs)):
 Calls Tryz.prog 40 #[.agg (ag 32 k).toArray,.int .i64 (c:Int),.agg (ag 12 n).toArray,.slice a bs.length cap] w fun e w'=>
  ∃v,e=.returned v∧w'.ownsRow w.heap.size 5 1 v bs.length (aJ (ID k c n bs))∧Below w.heap.size w w':=by
 have ec:bits .and .i64 (c:Int) 4294967295=(c:Int):=by
  rw[jx (c:Int) 32 zDc 4294967295 zDc];omega
 have hs:=zH h;clear h;obtain⟨ti,hti,ago,agp,agq⟩:=info_parts ig;have c2:Hid (0+(aJ bs).length≤maxLen):=zH zbQ;have c3:Hid ((0+(aJ bs).length)*1≤140737488355328):=zH zaV;go_enter Tryz.func40,Tryz.ntmps40;go_upto_region 1 with fail
 refine be (fun W aB k4 k6 kb=>?_);have k4:Arr W w.heap.size (ag 32 k):=k4;have k6:Arr W (w.heap.size+1) (ag 12 n):=k6;have hs:=zH (hs.out.below kb);clear aB;go_upto_region 2 with(at_builtin;refine dO rfl _ _ 24 rfl W.heap.size 5 Tryz.underlying24 hti ago agp agq rfl _ 0 [] rfl (World.ownsRow_nil _ _ _ _) _ (aJ bs) rfl hs.out (dr _) c2.out c3.out (zA0 _) ?_)
 intro v9 w9 own hg;have hb:Below W.heap.size W w9:=(zA6 _ _).grown hg (zA0 _) (fun k hk=>by simp[Value.ownBlock]at hk);replace own:w9.ownsRow W.heap.size 5 1 v9 bs.length (aJ (OR k c n bs 0)):=by
  have q:=own;rw[ai]at q;exact q
 have h4B:=k4.lt;have h6B:=k6.lt;replace k4:=k4.below hb;replace k6:=k6.below hb;have hBs:=kb.size;replace kb:=az kb hb;have hB9:=hb.size;obtain⟨B,hBe⟩:=zX W.heap.size;rw[hBe]at own h4B h6B hB9 hBs;obtain⟨aO,cO,rfl⟩:=rc own;clear hg hb c2 c3 hBe;go_wp2_with fail;go_upto_region 4 with fail
 refine aH (fun w3 aB k10 hb=>?_);replace k10:Arr w3 w9.heap.size (ag 64 0):=k10;have hO:=own.lt;replace k4:=k4.below hb;replace k6:=k6.below hb;replace own:=dg own hb;replace kb:=az kb hb;obtain⟨g10,qT⟩:=zX w9.heap.size;rw[qT]at k10 hO hB9⊢;replace hO:=zH hO;clear hb aB qT;obtain⟨g4,mT⟩:=zX w.heap.size;rw[mT]at k4 k6 h4B h6B hBs⊢;replace mT:=zH mT;go_wp2_with fail;go_loopw[12] (fun iv wr=>∃i X:Nat,i≤bs.length∧iv=.int .i64 i∧Arr wr g4 (ag 32 k)∧Arr wr (g4+1) (ag 12 n)∧wr.ownsRow B 5 1 (.slice aO bs.length cO) bs.length (aJ (OR k c n bs i))∧Arr wr g10 (ag 64 X)∧(i%64≠0→X=fV k ((c+i/64)%4294967296) n 64)∧Below w.heap.size w wr) (fun iv _=>bs.length-(intOf iv).toNat)
 case atStart=>exact⟨0,0,zA28 _,rfl,k4,k6,own,k10,fun h=>absurd rfl h,kb⟩
 case round=>
 clear k4 k6 own k10 kb;obtain⟨i,X,hi,rfl,k4,k6,own,k10,hX,kb⟩:=hrel;replace hX:=zH hX;have mA:(0:Int)≤(i:Int):=zOm
 by_cases iS:i<bs.length
 ·have ub:(i:Int)<(bs.length:Int):=zOm;obtain⟨g,Zo,Qx,-⟩:=VM own iS;subst Zo;have hgO:g<g10:=(hO.out g rfl).2;obtain⟨x,hx⟩:=zX ((bs[i]).toNat);have lx:x<256:=zaW;have dP:wr.cell? ⟨g,i,none⟩=some (.int .u8 (x:Int)):=Sh own (by
   have e:=Ir k c n bs i i (zA0 _);rw[zA7 iS]at e;simp[aJ,e,hx])
  have Rj:Hid ((bs.getD i 0).toNat=x):=zH (by rw[←hx,zA10,zA7 iS];rfl);clear hx;obtain⟨m,hm⟩:=zX (i%64);have lm:m<64:=zOm;have ft:Int.tmod (i:Int) 64=(m:Int):=zbK;have fm:IntKind.i64.wrap (m:Int)=(m:Int):=i64_in zOm;have lZ:(0:Int)≤(m:Int):=zOm;have Vg:(m:Int)<64:=zOm;obtain⟨ks,Aw⟩:=zX (J2 k c n i)
  by_cases hm64:m=0
  ·subst hm64;have ft0:Int.tmod (i:Int) 64=0:=ft;have fm0:IntKind.i64.wrap 0=0:=zDc;obtain⟨q,hq⟩:=zX (i/64);obtain⟨d,hd⟩:=zX (c+q);have fq:Int.tdiv (i:Int) 64=(q:Int):=(by rw[Int.tdiv_eq_ediv_of_nonneg mA];omega);have fqw:IntKind.i64.wrap (q:Int)=(q:Int):=i64_in zOm;have fd:(c:Int)+(q:Int)=(d:Int):=zOm;have fdw:IntKind.i64.wrap (d:Int)=(d:Int):=i64_in zOm;have hXn:Hid ((i+1)%64≠0→fV k (d%4294967296) n 64=fV k ((c+(i+1)/64)%4294967296) n 64):=zH (fun _=>by congr 3;omega);have sH:Hid (fV k (d%4294967296) n 64/256^0%256=ks):=zH (by rw[r8 k _ n 64 0 zDc,←Aw,J2,hm,hq,hd]);replace hq:=zH hq;replace hd:=zH hd;clear ft fm hm hX;go_wp2_with(first|(refine ab rfl _ _ rfl _ rfl zDk _ k4 zbx ?_)|(refine ab rfl _ _ rfl _ rfl zDk _ k6 zbx ?_));refine zQ (CN k n d _) fun w5 hb=>?_;replace k4:=k4.below hb;replace k6:=k6.below hb
   replace dP:w5.cell? ⟨g,i,none⟩=some (.int .u8 (x:Int)):=(by rw[hb.cell (p:=⟨g,i,none⟩) (zA11 _ _ dP)];exact dP);replace own:=dg own hb;replace k10:=k10.below hb;replace kb:=az kb hb;clear hb;go_upto_region 9 with(refine aD rfl _ _ _ rfl _ (ag 64 (fV k (d%4294967296) n 64)) rfl rfl _ k10 zbx za3 (bm _ _) (fun w6 k10 hg aB=>?_))
   replace k4:=k4.kept hg zOm;replace k6:=k6.kept hg zOm;replace dP:w6.cell? ⟨g,i,none⟩=some (.int .u8 (x:Int)):=hg.cell dP zab;replace own:=fH own hg zcp;replace kb:=aq kb hg zbL kb.size;clear hg aB;have rI:w6.cell? ⟨g10,0,none⟩=some (.int .u8 (ks:Int)):=by
    have q:=k10.cell (bX 64 (fV k (d%4294967296) n 64) 0 zDc);rw[sH.out]at q;exact q
   have lk:Hid (ks<256):=zH zbM;have fx:=rG lx lk.out;have aL:=zH (Tg (bs:=bs) Rj.out Aw lx lk.out);clear Aw;go_upto_region 9 with fail
   obtain⟨wq,lq⟩:∃wq:World,w6=wq:=⟨_,rfl⟩;rw[lq]at k4 k6 own k10 kb dP rI⊢;clear lq;refine cH 12 13 fun aP=>?_;refine eZ ?_ 1 4095 zaD [0,1,2,3,4,5,6,7,8,9,10,11] (fun w' hB=>by have e1:w'.cell? ⟨g,i,none⟩=some (.int .u8 (x:Int)):=zcq;have e2:w'.cell? ⟨g10,0,none⟩=some (.int .u8 (ks:Int)):=(by rw[hB.cell (p:=⟨g10,0,none⟩) (zA11 _ _ rI)];exact rI);exact zRd) ?_;refine bf 8191 rfl zDk (fun K hK=>?_);obtain⟨k4,k6,k10⟩:=dZ k4 k6 k10 aP;replace own:=dg own aP;replace kb:=az kb aP;clear aP;refine EL rfl _ _ _ rfl g i (.int .u8 ((x ^^^ks:Nat):Int)) rfl rfl B 5 bs.length cO _ own zKr iS rfl (fun w7 own hg aB=>?_);rw[aL.out]at own;have q4:=k4.kept hg zOm;have q6:=k6.kept hg zOm;have q10:=k10.kept hg zOm;have qb:=aq kb hg zbL kb.size;refine hK (fun _=>True) 9999 _ _ ?_;clear hK K;try simp only[Act.put]
   try simp only[zSa,zSz,zSs]
   refine ap zKr ?_;go_wp2_with fail;exact⟨⟨i+1,fV k (d%4294967296) n 64,by omega,by go_num,q4,q6,own,q10,hXn.out,qb⟩,by simp[intOf];omega⟩
  ·have dm:((m:Int)==0)=false:=zab;have sH:Hid (X/256^m%256=ks):=zH zbN;have hXn:Hid ((i+1)%64≠0→X=fV k ((c+(i+1)/64)%4294967296) n 64):=zH (fun h=>by rw[hX.out zOm];congr 3;omega);have rI:wr.cell? ⟨g10,m,none⟩=some (.int .u8 (ks:Int)):=by
    have q:=k10.cell (bX 64 X m lm);rw[sH.out]at q;exact q
   clear hm hX;have lk:Hid (ks<256):=zH zbM;have fx:=rG lx lk.out;have aL:=zH (Tg (bs:=bs) Rj.out Aw lx lk.out);clear Aw;go_upto_region 9 with fail
   obtain⟨wq,lq⟩:∃wq:World,wr=wq:=⟨_,rfl⟩;rw[lq]at k4 k6 own k10 kb dP rI⊢;clear lq;refine cH 12 13 fun bn=>?_;refine eZ ?_ 1 4095 za0 [0,1,2,3,4,5,6,7,8,9,10,11] (fun w' hB=>by have e1:w'.cell? ⟨g,i,none⟩=some (.int .u8 (x:Int)):=zcq;have e2:w'.cell? ⟨g10,m,none⟩=some (.int .u8 (ks:Int)):=(by rw[hB.cell (p:=⟨g10,m,none⟩) (zA11 _ _ rI)];exact rI);exact zRd) ?_;refine bf 8191 rfl zDk (fun K hK=>?_);obtain⟨k4,k6,k10⟩:=dZ k4 k6 k10 bn;replace own:=dg own bn;replace kb:=az kb bn;clear bn;refine EL rfl _ _ _ rfl g i (.int .u8 ((x ^^^ks:Nat):Int)) rfl rfl B 5 bs.length cO _ own zKr iS rfl (fun w7 own hg aB=>?_);rw[aL.out]at own;have q4:=k4.kept hg zOm;have q6:=k6.kept hg zOm;have q10:=k10.kept hg zOm;have qb:=aq kb hg zbL kb.size;refine hK (fun _=>True) 9999 _ _ ?_;clear hK K;try simp only[Act.put]
   try simp only[zSa,zSz,zSs]
   refine ap zKr ?_;go_wp2_with fail;exact⟨⟨i+1,X,by omega,by go_num,q4,q6,own,q10,hXn.out,qb⟩,by simp[intOf];omega⟩
 ·have dj:decide ((i:Int)<(bs.length:Int))=false:=decide_eq_false zOm;have jM:Hid (i=bs.length):=zH zOm;rw[jM.out,Wr]at own;go_wp2_with fail;go_ret;exact⟨_,rfl,ej own zbL,kb⟩
def Sn (L:Int) (k:Nat) (y o:Value):List Value:=if k=0 then[.int .i64 L,y,o]else[.int .i64 L,o,y]
theorem VT (L:Int) (k:Nat) (y o:Value):(Sn L k y o).length=3:=by unfold Sn;split<;>rfl
theorem VS {L:Int} {k:Nat} {y o:Value} (hk:k<2):(Sn L k y o)[1+k]? =some y:=by
 match k,hk with
 |0,_=>rfl
 |1,_=>rfl
theorem VU {L:Int} {k:Nat} {y o z:Value} (hk:k<2):(Sn L k y o).set (1+k) z=Sn L k z o:=by
 match k,hk with
 |0,_=>rfl
 |1,_=>rfl
theorem Yg (L:Int) (k:Nat) (y o:Value):(Sn L k y o)[0]? =some (.int .i64 L):=by unfold Sn;split<;>rfl
theorem Ch.of_grow {w w':World} {b:Option Nat} (h:w.grownBy w' b):Ch b.toList w w':=⟨h.os,h.tape,h.output,h.size,fun k hk hn=>h.block k hk (fun e=>hn (by subst e;simp))⟩
theorem R80.grown {B n:Nat} {w w':World} {o v:Value} (h:R80 w o) (hr:Rw B w v n) (hg:w.grownBy w' v.ownBlock) (rW:∀g,o.ownBlock=some g→g<B):R80 w' o:=by
 cases hv:v.ownBlock with
 |none=>rw[hv]at hg;exact h.below ⟨hg.os,hg.tape,hg.output,hg.size,fun k hk=>hg.block k hk (fun e=>nomatch e)⟩
 |some g=>
  rw[hv]at hg;obtain⟨hb,z,hz,a,m,c,rfl⟩:=hr.zero hv;exact h.kept hg hz (fun n e=>nomatch e) (fun e=>by have:=rW g e;omega)
theorem Rw.not_mem {B n:Nat} {w:World} {v:Value} (hr:Rw B w v n) {p:Nat} {xs:List Value} {L:Int} (kp:Arr w p xs) (h0:xs[0]? =some (.int .i64 L)):p∉v.ownBlock.toList:=by
 intro h;cases hv:v.ownBlock with
 |none=>rw[hv]at h;cases h
 |some g=>
  rw[hv]at h;have e:p=g:=zar;subst e;obtain⟨-,z,hz,a,m,c,rfl⟩:=hr.zero hv;rw[kp.cell h0]at hz;cases hz
def Obk (n:Nat) (y:Value):Prop:=∀g,y.ownBlock=some g→n≤g
theorem Nd (L:Int) (w:World):
 Calls Tryz.prog 24 #[.int .i64 L] w fun e w'=>∃p y o,e=.returned (.pointer (some ⟨p,0,none⟩))∧w.heap.size≤p∧Arr w' p [.int .i64 L,y,o]∧R80 w' y∧Obk w.heap.size y∧Below w.heap.size w w':=by
 have cR:=zH (fun(w:World) g (h:Sl w (.slice (some ⟨g,0,none⟩) 1 1) (aJ [255]))=>show Calls Tryz.prog 53 #[.slice (some ⟨g,0,none⟩) 1 1,.int .i64 80] w _ from Kr (some ⟨g,0,none⟩) 255 80 zDc zDc w h);obtain⟨i0,hi,jN,jA,jB⟩:=info_parts wO;replace hi:=zH hi;replace jN:=zH jN;replace jA:=zH jA;replace jB:=zH jB;go_enter Tryz.func24,Tryz.ntmps24;go_upto_region 2 with fail
 refine aH (fun W aB kp kb=>?_);replace kp:Arr W w.heap.size (Sn L 0 (.slice none 0 0) (.slice none 0 0)):=kp;have hp:=kp.lt;obtain⟨p,XX⟩:=zX w.heap.size;rw[XX]at kp hp⊢;replace XX:=zH XX;clear aB;go_wp2_with fail;go_loopw[8] (fun kv wr=>∃(k:Nat) (y o:Value),k≤2∧kv=.int .i64 (k:Int)∧Arr wr p (Sn L 0 y o)∧(k<2→o=.slice none 0 0)∧(k=0→y=.slice none 0 0)∧(0<k→R80 wr y∧Obk w.heap.size y)∧Below w.heap.size w wr) (fun kv _=>2-(intOf kv).toNat)
 case atStart=>exact⟨0,_,_,by decide,rfl,kp,fun _=>rfl,fun _=>rfl,fun h=>absurd h zDc,kb⟩
 case round=>
 clear kp kb hp;obtain⟨k,y,o,IT,rfl,kp,ho,J0,Dx,kb⟩:=hrel
 by_cases hk:k<2
 ·have kI:(k:Int)<2:=zOm;have k0:(0:Int)≤(k:Int):=zOm;obtain⟨O,hO,hO1,hOb,kp2⟩:∃O,(k=0→O=.slice none 0 0)∧(k=1→R80 wr O)∧Hid (k=1→Obk w.heap.size O)∧Arr wr p (Sn L k (.slice none 0 0) O):=by
   match k,hk,ho,J0,Dx with
   |0,_,ho,J0,_=>exact⟨_,fun _=>rfl,fun e=>absurd e zDc,zH (fun e=>absurd e zDc),by rw[ho zDc,J0 rfl]at kp;exact kp⟩
   |1,_,ho,_,Dx=>exact⟨y,fun e=>absurd e zDc,fun _=>(Dx zDc).1,zH (fun _=>(Dx zDc).2),by rw[ho zDc]at kp;exact kp⟩
  have GH:=kp2.lt;obtain⟨B,hB⟩:=zX wr.heap.size;have hBw:w.heap.size≤B:=(by rw[←hB];exact kb.size);rw[hB]at GH;clear ho J0 Dx kp;go_wp2_with fail;go_loopw[11] (fun iv w2=>∃(i:Nat) (y:Value),i≤32∧iv=.int .i64 (i:Int)∧Arr w2 p (Sn L k y O)∧Rw B w2 y i∧(k=1→R80 w2 O∧∀g,O.ownBlock=some g→g<B)∧Below w.heap.size w w2∧B≤w2.heap.size) (fun iv _=>32-(intOf iv).toNat)
  case atStart=>exact⟨0,_,by decide,rfl,kp2,Rw.nil0 _ _,fun e=>⟨hO1 e,fun g hg=>by
   obtain⟨g',c,xs,rfl,h1,-⟩:=hO1 e;have e:g'=g:=(by simpa[Value.ownBlock]using hg);rw[←e,←hB];exact h1.lt⟩,kb,by rw[hB];exact zA0 _⟩
  case round=>
  clear kp2 kb hO1 hB;obtain⟨i,y,Zt,rfl,kp,hr,hO1,kb,hBs⟩:=hrel
  by_cases IS:i<32
  ·have iI:(i:Int)<32:=zOm;go_upto_region 7 with fail
   have hpM:=hr.not_mem kp (Yg _ _ _ _);obtain⟨M,hM⟩:∃M:List Nat,y.ownBlock.toList=M:=⟨_,rfl⟩;rw[hM]at hpM;replace hM:=zH hM;replace hr:=zH hr;replace hO1:=zH hO1;replace hO:=zH hO;replace hpM:=zH hpM;replace GH:=zH GH;refine eC (fun w'=>Ch M wr w') 15 16 rfl zKr ?_;have b1:Below wr.heap.size wr wr.drew:=(zA6 _ _).drew;have hS:Ch M wr wr.drew:=Ch.of_below b1;refine eZ ?_ 6 12543 zcr [0,1,2,3,4,5,6,7,12,13] (fun w' hB=>by have bo:=(kp.ch hB hpM.out).cell (VS hk);have bT:=(kp.ch hB hpM.out).frozen (1+k);exact zRd) ?_;refine aY 8 12799 rfl zDk (fun K hK=>?_);go_simp;have b2:=b1.alloc b1.size (.cells #[.int .u8 255] 5);refine hK _ _ _ (Ch.of_below b2) (fun _ h=>h) ?_;clear hK K;refine aY 9 13311 rfl zDk (fun K hK=>?_);go_simp;have kQ:Sl (wr.drew.alloc (.cells #[.int .u8 255] 5)) (.slice (some ⟨wr.heap.size,0,none⟩) 1 1) (aJ [255]):=Sl.new1 wr.drew (.int .u8 255) 5
   refine(cR.out _ _ kQ).mono ?_;rintro e w9 ⟨g9,pad,rfl,kP,k9,fO⟩;have b3:=az b2 fO;refine hK _ _ _ (Ch.of_below b3) (fun _ h=>h) ?_;clear hK K;refine aY 10 14335 rfl zDk (fun K hK=>?_);go_simp;have b4:=b3.alloc b3.size (.cells #[.slice (some ⟨g9,0,none⟩) 80 80] 24);have ba:=ae w9 (.cells #[.slice (some ⟨g9,0,none⟩) 80 80] 24);refine hK _ _ _ (Ch.of_below b4) (fun _ h=>h) ?_;clear hK K kQ;have e9:=(E80.new k9).below ba;have Du:=hr.out.below b4;obtain⟨us,h1,h2⟩:=Du.own;have hBs2:=zA14 hBs b4.size;have kp4:=kp.below b4;have kb4:=az kb b4;refine aY 11 16383 rfl zDk (fun K hK=>?_);refine eJ rfl _ _ 25 rfl B 24 Tryz.underlying25 hi.out jN.out jA.out jB.out rfl y i us rfl h1 _ [.slice (some ⟨g9,0,none⟩) 80 80] rfl (Sl.new1 w9 _ _) (fun u hu=>by rw[List.mem_singleton.1 hu];rfl) (by unfold maxLen;simp;omega) zab hBs2 (fun v' w' h3 hg=>?_)
   have c5:Ch M wr w':=(Ch.of_below b4).trans (by rw[←hM.out];exact Ch.of_grow hg);refine hK _ _ _ c5 (fun _ h=>h) ?_;have Ux:Rw B w' v' (i+1):=⟨⟨_,h3,fun u hu=>by
    rcases List.mem_append.1 hu with hu|hu
    ·exact(h2 u hu).grown Du hg
    ·rw[List.mem_singleton.1 hu];exact e9.grown Du hg⟩,fun h=>absurd h zOm⟩
   have hO3:Hid (k=1→R80 w' O∧∀g,O.ownBlock=some g→g<B):=zH (fun e=>⟨((hO1.out e).1.below b4).grown Du hg (hO1.out e).2,(hO1.out e).2⟩);have kp3:=kp.ch c5 hpM.out;have kb3:=f9 kb4 (ej h1 hBw) kb4.size hg;have hB3:=zA14 hBs2 hg.size;obtain⟨av,cv,rfl⟩:=rc h3;clear hK K h1 h2 h3 hg e9 Du hr hO1 kp kb b1 b2 b3 b4 ba k9 fO hBs hBs2 kp4 kb4 hM;replace Ux:=zH Ux;refine eZ ?_ 1 32767 (by exact c5) [14] (fun _ _=>zRd) ?_;clear c5;refine bf 65535 rfl zDk (fun K hK=>?_);refine br rfl _ _ _ rfl p (1+k) (.slice av (i+1) cv) rfl rfl _ kp3 zKr (by rw[VT];omega) rfl (fun w7 k7 lW Hx=>?_);rw[VU hk]at k7;refine hK (fun _=>True) 9999 _ _ ?_;clear hK K;try simp only[Act.put]
   try simp only[zSa,zSz,zSs]
   refine ap zKr ?_;have Z9:=kp3.cell (Yg L k y O);have hr4:Hid (Rw B w7 (.slice av (i+1) cv) (i+1)):=zH (by
    obtain⟨⟨us,h1,h2⟩,h3⟩:=Ux.out;exact⟨⟨us,fH h1 lW (fun e=>by have:=gj h1 p e;have:=GH.out;omega),fun u hu=>(h2 u hu).kept lW Z9 (fun n e=>nomatch e)⟩,h3⟩)
   have hO4:Hid (k=1→R80 w7 O∧∀g,O.ownBlock=some g→g<B):=zH (fun e=>by
    obtain⟨h1,h2⟩:=hO3.out e;refine⟨h1.kept lW Z9 (fun n e=>nomatch e) (fun e2=>?_),h2⟩;obtain⟨g',c,xs,rfl,h3,h4⟩:=h1;have e3:g'=p:=(by simpa[Value.ownBlock]using e2);subst e3;obtain⟨u,h5,d,cd,bs,rfl,-⟩:=h4 0 zDc;rw[h3.cell h5]at Z9;cases Z9)
   have kb5:=aq kb3 lW (by rw[XX.out];exact zA0 _) kb3.size;have hB5:B≤w7.heap.size:=(by rw[Hx];exact hB3);clear Z9 Ux hO3 kp3 kb3 hB3 lW Hx;go_wp2_with fail;exact⟨⟨i+1,_,by omega,by go_num,k7,hr4.out,hO4.out,kb5,hB5⟩,by simp[intOf];omega⟩
  ·have iI:¬(i:Int)<32:=zOm;obtain rfl:i=32:=zOm;have hf:=hr.full;have hfb:=zH (show Obk w.heap.size y from fun g hg=>by obtain⟨us,h1,-⟩:=hr.own;exact zA14 hBw (gj h1 g hg));replace hO1:=zH hO1;replace hf:=zH hf;replace hO:=zH hO;replace hk:=zH hk;clear hr hi jN jA jB cR;have dj:decide (((32:Nat):Int)<32)=false:=zDc;go_wp2_with fail;have uA:=hk.out;refine⟨?_,by simp[intOf];omega⟩
   match k,uA,kp,hO,hO1 with
   |0,_,kp,hO,_=>exact⟨1,y,O,by decide,rfl,kp,fun _=>hO.out rfl,fun e=>absurd e zDc,fun _=>⟨hf.out,hfb.out⟩,kb⟩
   |1,_,kp,_,hO1=>exact⟨2,O,y,by decide,rfl,kp,fun e=>absurd e zDc,fun e=>absurd e zDc,fun _=>⟨(hO1.out rfl).1,hOb.out rfl⟩,kb⟩
 ·have kI:¬(k:Int)<2:=zOm;have hf:=zH (Dx zOm);clear ho J0 Dx;go_wp2_with fail;go_ret;exact⟨p,rfl,by rw[XX.out];exact zA0 _,y,⟨o,kp⟩,hf.out.1,hf.out.2,kb⟩
theorem Kg:CF mO false false=(-1,false):=by
 unfold CF mO;split
 ·rw[if_neg zDc,if_neg zDc,if_neg zDc]
 ·rfl
theorem HX (w:World):StOk w mO nB:=⟨Sl.nil _,Sl.nil _,Sl.nil _⟩
theorem GP (kv:Value) (c r s:Nat) (bt:Int) (w:World) (k0:Arr w c (nN kv r s bt)):
 Calls Tryz.prog 49 #[.pointer (some ⟨c,0,none⟩)] w fun e w'=>e=.returned (.int .i64 18)∧Arr w' c (nN kv r s (-1))∧Ch [c] w w':=by
 obtain⟨X,hX⟩:=zX (nN kv r s bt);have hXq:Hid (∀j,j<rU.length→X[65+j]? =rU[j]?):=zH (by rw[←hX];exact fun _ hj=>Fi hj);have hXs:Hid (X.set 74 (.int .i64 (-1))=nN kv r s (-1)):=zH (by rw[←hX];exact PR _ _ _ _ _);have hXc:Hid (X[74]? =some (.int .i64 bt)):=zH (by rw[←hX];exact Lo _ _ _ _);have c0:=zH (show Calls Tryz.prog 85 #[.pointer (some ⟨c,0,none⟩),.int .i64 0] w _ from Es kv c r s 0 bt zDc w k0);have c1:=zH (fun w' (hb:Below w.heap.size w w')=>show Calls Tryz.prog 85 #[.pointer (some ⟨c,0,none⟩),.int .i64 1] w' _ from Es kv c r s 1 bt zDc w' (k0.below hb));have cP:=zH (fun w'=>show CB 86 #[.agg rU.toArray,.agg #[.bool false,.bool false]] w' (.tuple #[.int .i64 (-1),.bool false]) by
  have q:=Sm mO nB false false w' (HX w');rw[Kg,WR]at q;exact q)
 rw[hX]at k0;clear hX;have bK:=k0.lt;have kb:=zA6 w.heap.size w;go_enter Tryz.func49,Tryz.ntmps49;go_wp2_with fail;refine c0.out.mono ?_;rintro e w1 ⟨rfl,hb⟩;replace kb:=az kb hb;clear hb c0;go_wp2_with fail;refine zQ (c1.out _ kb) fun w2 hb=>?_;replace kb:=az kb hb;clear hb c1;go_upto_region 2 with fail
 have k0:=k0.below kb;have k1:Arr (w2.alloc (.cells #[.bool false,.bool false] 166)) w2.heap.size [.bool false,.bool false]:=Arr.new _ _ _;have kb2:=ae w2 (.cells #[.bool false,.bool false] 166);replace k0:=k0.below kb2;replace kb:=az kb kb2;have aB:=kb.size;obtain⟨W,hW⟩:=zX (w2.alloc (.cells #[.bool false,.bool false] 166));obtain⟨g,hg⟩:=zX w2.heap.size;rw[hW]at k0 k1 kb⊢;rw[hg]at k1⊢;clear kb2 hW hg aB;replace k1:=zH k1;refine cH 9999 11 fun aP=>?_;refine dz ?_ 6 31 zaD [0,1,2,3,4] (fun w' hB=>by have yr:=(k0.below hB).range (o:=65) (cs:=rU) (hXq.out);have y1:=k1.out.below hB;exact zRm) ?_;refine eg 5 63 aP cP.out fun i8 bn=>?_;refine dz ?_ 0 2047 za0 [6,7,8,9,10] (fun _ _=>zRd) ?_;refine ap zKr ?_;have k0:=k0.below bn;have kb:=az kb bn;clear bn;have f74:=k0.frozen 74;have x74:=k0.cell hXc.out;go_upto_region 8 with fail
 refine jm k0 (fun w7 k7 hg aB=>?_);rw[hXs.out]at k7;have hc:=zH ((Ch.of_below (M:=[c]) kb).trans (Ch.of_gr hg zac));clear hg aB kb f74 x74 hXs hXc hXq;go_wp2_with fail;go_ret;exact⟨rfl,k7,hc.out⟩
theorem TV (v:Value) (w:World):(Instr.typeAssert (.iface 112 v) 20 105 true).run Tryz.prog w=.ok (.tuple #[.slice none 0 0,.bool false]) w:=by kernel_rfl
theorem O5 (v:Value) (w:World):(Instr.typeAssert (.iface 112 v) 20 107 true).run Tryz.prog w=.ok (.tuple #[.agg #[.int .i64 0,.slice none 0 0,.int .i64 0],.bool false]) w:=by kernel_rfl
theorem KZ (v:Value) (w:World):(Instr.typeAssert (.iface 112 v) 20 110 true).run Tryz.prog w=.ok (.tuple #[.agg #[],.bool false]) w:=by kernel_rfl
theorem TU (v:Value) (w:World):(Instr.typeAssert (.iface 112 v) 20 112 true).run Tryz.prog w=.ok (.tuple #[v,.bool true]) w:=by kernel_rfl
theorem Ff (kv:Value) (c r s:Nat) (bt:Int) (w:World) (k0:Arr w c (nN kv r s bt)):
 Calls Tryz.prog 29 #[.pointer (some ⟨c,0,none⟩)] w fun e w'=>e=.returned (.int .i64 bt)∧w'=w:=by
 have x74:=k0.cell (Lo _ _ _ _);clear k0;go_enter Tryz.func29,Tryz.ntmps29;exact zdA
theorem aao (bv:Value) (n:Int) (w:World):
 CB 45 #[.agg #[.int .i64 4,bv,.int .i64 n]] w (.iface 112 (.agg #[])):=by
 go_enter Tryz.func45,Tryz.ntmps45;exact zeF
theorem afl (kv:Value) (c r s:Nat) (bt:Int) (bv:Value) (n:Int) (w:World) (k0:Arr w c (nN kv r s bt)):
 Calls Tryz.prog 23 #[.pointer (some ⟨c,0,none⟩),.agg #[.int .i64 4,bv,.int .i64 n]] w fun e w'=>e=.returned (.tuple #[.slice none 0 0,.int .i64 18])∧Arr w' c (nN kv r s (-1))∧Ch [c] w w':=by
 have cM:=zH (fun w'=>aao bv n w');have cB:=zH (fun w' (hb:Below w.heap.size w w')=>GP kv c r s bt w' (k0.below hb));clear k0;have f1:=TV (.agg #[]);have f2:=O5 (.agg #[]);have f3:=KZ (.agg #[]);have f4:=TU (.agg #[]);go_enter Tryz.func23,Tryz.ntmps23;go_upto_region 1 with fail
 have kb:=ae w (.cells #[.int .i64 4,bv,.int .i64 n] 39);have k1:Arr (w.alloc (.cells #[.int .i64 4,bv,.int .i64 n] 39)) w.heap.size [.int .i64 4,bv,.int .i64 n]:=Arr.new _ _ _;obtain⟨W,hW⟩:=zX (w.alloc (.cells #[.int .i64 4,bv,.int .i64 n] 39));obtain⟨g,hg⟩:=zX w.heap.size;rw[hW]at kb k1⊢;rw[hg]at k1⊢;clear hW hg;go_wp2_with(refine aR ?_);refine zQ (cM.out _) fun w1 hb=>?_;replace kb:=az kb hb;clear hb k1 cM;go_wp2_with fail;replace kb:=az kb (ae w1 (.cells #[] 112));refine(cB.out _ kb).mono ?_;rintro e w2 ⟨rfl,k2,hc⟩;have hq:=(Ch.of_below (M:=[c]) kb).trans hc;clear cB kb hc f1 f2 f3 f4;replace hq:=zH hq;go_wp2_with fail;go_ret2;exact⟨rfl,k2,hq.out⟩
def G80 (w:World) (g:Nat):Prop:=∃xs:List Value,Arr w g xs∧∀j,j<32→∃u,xs[j]? =some u∧E80 w u
theorem R80.g {w:World} {v:Value} (h:R80 w v):∃g k,v=.slice (some ⟨g,0,none⟩) 32 k∧G80 w g:=by
 obtain⟨g,c,xs,e,h1,h2⟩:=h;exact⟨g,c,e,xs,h1,h2⟩
theorem G80.below {w w':World} {g:Nat} (h:G80 w g) (hb:Below w.heap.size w w'):G80 w' g:=by
 obtain⟨xs,h1,h2⟩:=h;exact⟨xs,h1.below hb,fun j hj=>by obtain⟨u,h3,h4⟩:=h2 j hj;exact⟨u,h3,h4.below hb⟩⟩
theorem G80.cell0 {w:World} {g:Nat} (h:G80 w g):∃a n c,w.cell? ⟨g,0,none⟩=some (.slice a n c):=by
 obtain⟨xs,h1,h2⟩:=h;obtain⟨u,h3,d,cd,bs,rfl,-⟩:=h2 0 zDc;exact⟨_,_,_,h1.cell h3⟩
theorem G80.lt {w:World} {g:Nat} (h:G80 w g):g<w.heap.size:=by
 obtain⟨xs,h1,-⟩:=h;exact h1.lt
theorem G80.ne {w:World} {g k:Nat} {xs:List Value} {z:Value} (h:G80 w g) (hk:Arr w k xs) (hz:xs[0]? =some z) (jB:∀a n c,z≠.slice a n c):k≠g:=by
 rintro rfl;obtain⟨a,n,c,h1⟩:=h.cell0;rw[hk.cell hz]at h1;exact jB _ _ _ (Option.some.inj h1)
theorem G80.kept {w w':World} {g k:Nat} {xs:List Value} {z:Value} (h:G80 w g) (hk:Arr w k xs) (hz:xs[0]? =some z) (jB:∀n,z≠.int .u8 n) (hg:w.grownBy w' (some k)) (rW:g≠k):G80 w' g:=by
 obtain⟨ys,h1,h2⟩:=h;exact⟨ys,h1.kept hg (Ne.symm rW),fun j hj=>by obtain⟨u,h3,h4⟩:=h2 j hj;exact⟨u,h3,h4.kept hg (hk.cell hz) jB⟩⟩
theorem G80.put {w w':World} {g i:Nat} {u:Value} {ys xs:List Value} (hx:Arr w g xs) (hy:ys=xs.set i u) (h2:∀j,j<32→∃u,xs[j]? =some u∧E80 w u) (h:Arr w' g ys) (hg:w.grownBy w' (some g)) (hu:E80 w u):G80 w' g:=by
 subst hy;have hk:∀z,E80 w z→E80 w' z:=fun z hz=>by
  obtain⟨a,n,c,h3⟩:=(show G80 w g from⟨xs,hx,h2⟩).cell0;exact hz.kept hg h3 (fun n e=>nomatch e)
 refine⟨_,h,fun j hj=>?_⟩;obtain⟨v,h3,h4⟩:=h2 j hj
 by_cases e:i=j
 ·subst e;exact⟨u,by rw[List.getElem?_set_self (zA18.1 h3).1],hk _ hu⟩
 ·exact⟨v,by rw[List.getElem?_set_ne e];exact h3,hk _ h4⟩
theorem tK {M:List Nat} {w w':World} {B:Nat} {e:TypeId} {v:Value} {n:Nat} {xs:List Value} (h:w.ownsRow B e 1 v n xs) (hc:Ch M w w') (hM:∀k,k∈M→k<B):w'.ownsRow B e 1 v n xs:=by
 refine⟨h.1,?_⟩;rcases h.2 with hn|⟨g,cap,cur,rfl,jW,hg,rest⟩
 ·exact .inl hn
 ·exact .inr ⟨g,cap,cur,rfl,jW,by rw[hc.block g (Array.getElem?_eq_some_iff.1 hg).1 (fun hm=>by have:=hM g hm;omega)];exact hg,rest⟩
theorem StOwn.chM {M:List Nat} {B:Nat} {w w':World} {S:Stt} {v:Sv} (h:StOwn B w S v) (hc:Ch M w w') (hM:∀k,k∈M→k<B):StOwn B w' S v:=
 ⟨tK h.rv hc hM,tK h.m0 hc hM,tK h.m1 hc hM⟩
theorem E80.chM {M:List Nat} {w w':World} {u:Value} (h:E80 w u) (hc:Ch M w w') (hM:∀k,k∈M→∃z,w.cell? ⟨k,0,none⟩=some z∧∀n,z≠.int .u8 n):E80 w' u:=by
 obtain⟨d,cd,bs,rfl,h1,h2⟩:=h;refine⟨d,cd,bs,rfl,h1,h2.ch hc (fun a n c e hm=>?_)⟩;cases e;obtain⟨z,hz,jB⟩:=hM d hm;obtain⟨a,c,e2,-,-,-,h5⟩:=h2;have e3:some ⟨d,0,none⟩=a:=(by injection e2);subst e3
 match bs,h1,h5 with
 |b::bs,h1,h5=>
  exact zeq
theorem Arr.chm {w w':World} {M:List Nat} {k:Nat} {xs:List Value} (h:Arr w k xs) (hc:Ch M w w') (hk:k∉M):Arr w' k xs:=by
 obtain⟨f,hf⟩:=h;have hl:k<w.heap.size:=Arr.lt ⟨f,hf⟩;exact⟨f,by rw[hc.block k hl hk];exact hf⟩
theorem G80.chM {M:List Nat} {w w':World} {g:Nat} (h:G80 w g) (hc:Ch M w w') (hM:∀k,k∈M→∃z,w.cell? ⟨k,0,none⟩=some z∧(∀n,z≠.int .u8 n)∧∀a n c,z≠.slice a n c):G80 w' g:=by
 have hn:g∉M:=fun hm=>by
  obtain⟨z,hz,-,h2⟩:=hM g hm;obtain⟨a,n,c,h3⟩:=h.cell0;rw[hz]at h3;exact h2 _ _ _ (Option.some.inj h3)
 obtain⟨xs,h1,h2⟩:=h;exact⟨xs,h1.chm hc hn,fun j hj=>by obtain⟨u,h3,h4⟩:=h2 j hj;exact⟨u,h3,h4.chM hc (fun k hk=>by obtain⟨z,h5,h6,-⟩:=hM k hk;exact⟨z,h5,h6⟩)⟩⟩
def Mt (p:Nat):Value:=.iface 56 (.pointer (some ⟨p,0,none⟩))
structure Md (w:World) (m p c g:Nat) (L:Int) (r s:Nat) (S:Stt) (v:Sv) (bt:Int):Prop where
 hm:Arr w m [.pointer (some ⟨p,0,none⟩),.pointer (some ⟨c,0,none⟩)]
 hp:∃k o,Arr w p [.int .i64 L,.slice (some ⟨g,0,none⟩) 32 k,o]
 hg:G80 w g
 hc:Arr w c (tY (Mt p) r s S v bt 0)
 hs:∃B,g<B∧StOwn B w S v
theorem Md.below {w w':World} {m p c g r s:Nat} {L bt:Int} {S:Stt} {v:Sv} (h:Md w m p c g L r s S v bt) (hb:Below w.heap.size w w'):Md w' m p c g L r s S v bt:=by
 obtain⟨h1,⟨k,o,h2⟩,h3,h4,B,h5,h6⟩:=h;exact⟨h1.below hb,⟨k,o,h2.below hb⟩,h3.below hb,h4.below hb,B,h5,h6.below hb⟩
theorem Md.turned {w w':World} {m p c g r s:Nat} {L bt:Int} {S:Stt} {v:Sv} (h:Md w m p c g L r s S v bt) (hc:Ch [g] w w') (hg:G80 w' g):Md w' m p c g L r s S v bt:=by
 obtain⟨h1,⟨k,o,h2⟩,h3,h4,B,h5,h6⟩:=h;have n1:m∉ [g]:=(by simpa using h3.ne h1 rfl (fun _ _ _ e=>nomatch e));have n2:p∉ [g]:=(by simpa using h3.ne h2 rfl (fun _ _ _ e=>nomatch e));have n3:c∉ [g]:=(by simpa using h3.ne h4 rfl (fun _ _ _ e=>nomatch e));exact⟨h1.chm hc n1,⟨k,o,h2.chm hc n2⟩,hg,h4.chm hc n3,B,h5,h6.chM hc (by simpa using h5)⟩
theorem Tw:∀v∈rU,v.oneCell'=true:=by
 intro v hv;simp only[rU,List.mem_cons,List.not_mem_nil,or_false]at hv;rcases hv with rfl|rfl|rfl|rfl|rfl|rfl|rfl|rfl|rfl<;>rfl
def agL:List Value:=[.int .i64 0,.slice none 0 0,.slice none 0 0,.bool false,.int .i64 0,.slice none 0 0,.bool false,.int .i64 0,.int .i64 0]
theorem aeC (w:World):CB 28 #[] w (.agg rU.toArray):=by
 go_enter Tryz.func28,Tryz.ntmps28;go_upto_region 1 with fail
 refine aH (fun W aB k2 kb=>?_);replace k2:Arr W w.heap.size agL:=k2;clear aB;go_wp2_with(first|(refine bi rfl _ _ rfl rU.toArray zKr ?_)|(refine aD rfl _ _ _ rfl _ rU rfl rfl _ k2 zKr (by rfl) Tw (fun w4 k6 hg aB=>?_)));have kb:=aq kb hg (zA0 _) kb.size;exact bodyPost_ret ((aj Tryz.results28 _ _ _ rfl zKr _ zaE zLn)) rfl ⟨rfl,kb⟩
theorem Ln (p r s:Nat):tY (Mt p) r s mO nB (-1) 0=nN (Mt p) r s (-1):=rfl
theorem HP (r s n:Nat) (h0:0<n) (hn:n≤1000000) (w:World):
 Calls Tryz.prog 10 #[.agg (ag 32 r).toArray,.agg (ag 32 s).toArray,.int .i64 (n:Int)] w fun e w'=>∃m p c g,e=.returned (.pointer (some ⟨m,0,none⟩))∧Md w' m p c g n r s mO nB (-1)∧(∀k,k∈ [p,c,g]→w.heap.size≤k)∧Below w.heap.size w w':=by
 have cO:=zH (fun w=>Se none r s n h0 hn w);have cM:=zH (fun q w k0=>Of q none r s 0 (n:Int) w k0);have cF:=zH (fun w=>Nd (n:Int) w);have cC:=zH (fun p w=>show Calls Tryz.prog 27 #[.iface 56 (.pointer (some ⟨p,0,none⟩)),.agg (ag 32 r).toArray,.agg (ag 32 s).toArray,.agg rU.toArray] w fun e w'=>∃c,e=.returned (.pointer (some ⟨c,0,none⟩))∧w.heap.size≤c∧Arr w' c (nN (Mt p) r s (-1))∧Below w.heap.size w w' from M7 _ _ r s w);have cS:=zH (fun w=>aeC w);clear h0 hn;go_enter Tryz.func10,Tryz.ntmps10;go_upto_region 1 with fail
 refine be (fun W aB k3 k4 kb=>?_);replace k3:Arr W w.heap.size (ag 32 r):=k3;replace k4:Arr W (w.heap.size+1) (ag 32 s):=k4;clear aB;go_wp2_with(first|(refine ab rfl _ _ rfl _ rfl zDk _ k3 zbx ?_)|(refine ab rfl _ _ rfl _ rfl zDk _ k4 zbx ?_));refine(cO.out _).mono ?_;rintro e w1 ⟨q,rfl,-,kq,hb⟩;replace k3:=k3.below hb;replace k4:=k4.below hb;replace kb:=az kb hb;clear hb cO;go_wp2_with fail;refine(cM.out _ _ kq).mono ?_;rintro e w1 ⟨rfl,rfl⟩;clear kq cM;go_wp2_with fail;refine(cF.out _).mono ?_;rintro e w2 ⟨p,y,o,rfl,hpb,kp,hy,hyb,hb⟩;have Rf:=kb.size;replace k3:=k3.below hb;replace k4:=k4.below hb;replace kb:=az kb hb;obtain⟨g,kk,rfl,Z8⟩:=hy.g;have ND:=hyb g rfl;clear hy;replace Z8:=zH Z8;replace kp:=zH kp;clear hb cF;go_upto_region 2 with fail
 refine cH 9999 10 fun aP=>?_;refine eZ ?_ 5 31 zaD [0,1,2,3,4] (fun w' hB=>by obtain⟨y3,y4⟩:=fZ k3 k4 hB;exact zRd) ?_;refine eg 5 63 aP cS.out fun i8 bn=>?_;have q5:=(bn).size;have q6:=kb.size;refine aY 6 127 rfl zDk (fun K hK=>?_);go_simp;refine(cC.out _ _).mono ?_;rintro e jF ⟨c,rfl,qQ,kc,dc⟩;have bB:=aW bn (zA0 _) dc;refine hK (fun w'=>Below (w2).heap.size (w2) w') _ _ bB (fun _ h=>h) ?_;clear hK K bn;try simp only[Act.put,zSa,zSz,zSs]
 refine eZ ?_ 2 255 zaI [7] (fun _ _=>zRd) ?_;have ba:=ae jF (.cells #[.pointer (some ⟨p,0,none⟩),.pointer (some ⟨c,0,none⟩)] 59);refine aY 8 511 rfl zDk (fun K hK=>?_);go_simp;have b8:=az bB ba;refine hK _ _ _ b8 (fun _ h=>h) ?_;clear hK K;refine eZ ?_ 0 1023 (by exact b8) [9] (fun _ _=>zRd) ?_;refine ap zKr ?_;have km:Arr _ jF.heap.size [.pointer (some ⟨p,0,none⟩),.pointer (some ⟨c,0,none⟩)]:=Arr.new jF _ 59;have hMd:=zH (show Md _ jF.heap.size p c g n r s mO nB (-1)from⟨km,⟨kk,o,kp.out.below b8⟩,Z8.out.below b8,by rw[Ln];exact kc.below ba,g+1,Nat.lt_succ_self _,HY _ _⟩);have kb9:=az kb b8;have Aw:Hid (∀k,k∈ [p,c,g]→w.heap.size≤k):=zH (fun k hk=>by simp only[List.mem_cons,List.not_mem_nil,or_false]at hk;omega);clear Rf q5 q6 hpb ND hyb qQ;clear km ba b8 kc k3 k4 Z8 kp;go_wp2_with fail;go_ret;exact⟨_,p,c,g,rfl,hMd.out,Aw.out,kb9⟩
end Go.Proofs.YtgfkgolafkdjfaaGreatDoor
