/- ModelWrong: part 48 of its proof: lemmas and contracts, each with its conditions in its own statement; the last part holds the law itself. -/
import Derived.Test.YtgfkgolafkdjfaaGreatDoorJv31
import Derived.Handy

set_option maxHeartbeats 4000000
set_option maxRecDepth 100000
namespace Go.Proofs.YtgfkgolafkdjfaaGreatDoor
open Go.RowKit
theorem Oq (p:Nat) (L:Int) (y o:Value) (w:World) (k0:Arr w p [.int .i64 L,y,o]):
 Calls Tryz.prog 264 #[.pointer (some ⟨p,0,none⟩)] w fun e w'=>e=.returned (.int .i64 L)∧w'=w:=by
 have h0:=k0.cell (j:=0) (u:=.int .i64 L) rfl;clear k0;go_enter Tryz.func264,Tryz.ntmps264;exact zdA
theorem Oo (p:Nat) (L:Int) (h0:0<L) (h1:L≤1000000) (y o:Value) (S:Stt) (v:Sv) (w:World) (k0:Arr w p [.int .i64 L,y,o]):
 Calls Tryz.prog 263 #[.pointer (some ⟨p,0,none⟩),.agg (S.cs v).toArray] w fun e w'=>e=.returned (.int .i64 0)∧Arr w' p [.int .i64 (L-1),y,o]∧Ch [p] w w':=by
 have ew:IntKind.i64.wrap (L-1)=L-1:=i64_in ⟨by omega,by omega⟩;go_enter Tryz.func263,Tryz.ntmps263;go_upto_region 1 with fail
 refine aH (fun W aB k3 kb=>?_);clear aB k3;replace k0:=k0.below kb;have x0:=k0.cell (j:=0) (u:=.int .i64 L) rfl;have f0:=k0.frozen 0;go_upto_region 2 with fail
 refine jm k0 (fun w7 k7 hg aB=>?_);have hc:=zH ((Ch.of_below (M:=[p]) kb).trans (Ch.of_gr hg zac));clear hg aB kb f0 x0;go_wp2_with fail;go_ret;exact⟨rfl,k7,hc.out⟩
theorem UW (kv:Value) (r s:Nat) (S S':Stt) (v v':Sv) (bt:Int) (q:Nat):gJ 65 (S'.cs v') (tY kv r s S v bt q)=tY kv r s S' v' bt q:=by
 have h:∀(T:Stt) (u:Sv),tY kv r s T u bt q=(kv::(ag 32 r++ag 32 s))++(T.cs u++(.int .i64 bt::ag 32 q)):=fun T u=>by simp[tY]
 rw[h,h];exact tN zcb rfl
theorem H3 (p c r s q:Nat) (L bt:Int) (h0:0<L) (h1:L≤1000000) (y o:Value) (S S':Stt) (v v':Sv) (rW:p≠c) (w:World) (kp:Arr w p [.int .i64 L,y,o]) (kc:Arr w c (tY (Mt p) r s S v bt q)) (ep:StOk w S' v'):
 Calls Tryz.prog 78 #[.pointer (some ⟨c,0,none⟩),.agg (S'.cs v').toArray] w fun e w'=>e=.returned (.int .i64 0)∧Arr w' p [.int .i64 (L-1),y,o]∧Arr w' c (tY (Mt p) r s S' v' bt q)∧Ch [p,c] w w':=by
 have cL:=zH (fun w k=>Oq p L y o w k);have cK:=zH (fun w k=>Oo p L h0 h1 y o S' v' w k);have hL:¬L<1:=zOm;have fQ:=zH ep.one;have lU:=kc.lt;have GH:=kp.lt;clear h0 h1 ep;replace rW:=zH rW;go_enter Tryz.func78,Tryz.ntmps78;go_upto_region 1 with fail
 refine aH (fun W aB k3 kb=>?_);replace k3:Arr W w.heap.size (S'.cs v'):=k3;clear aB;replace kp:=kp.below kb;replace kc:=kc.below kb;obtain⟨g3,kZ⟩:=zX w.heap.size;rw[kZ]at k3⊢;have n3c:g3≠c:=zOm;have n3p:g3≠p:=zOm;replace n3c:=zH n3c;replace n3p:=zH n3p;clear kZ lU GH;have hkv:W.cell? ⟨c,0,none⟩=some (.iface 56 (.pointer (some ⟨p,0,none⟩))):=Br kc;replace kp:=zH kp;go_wp2_with fail;refine zQ (cL.out _ kp.out) fun w1 hw=>?_;obtain rfl:W=w1:=hw.symm;clear hkv cL;go_upto_region 3 with fail
 refine eC (fun w'=>Ch [p] W w') 9999 7 rfl zKr ?_;have hS0:Ch [p] W W.drew:=Ch.of_below (zA6 _ _).drew;refine dz ?_ 2 31 zcd [0,1,2,3,4] (fun w' hB=>by have x1:w'.cell? ⟨c,0,none⟩=some (.iface 56 (.pointer (some ⟨p,0,none⟩))):=Br (kc.ch hB (by simpa using Ne.symm rW.out));have y1:=k3.ch hB (by simpa using n3p.out);exact zRd) ?_;refine aY 5 63 rfl zDk (fun K hK=>?_);go_simp;refine(cK.out _ (kp.out.below (zA6 _ _).drew)).mono ?_;rintro e w2 ⟨rfl,kp2,hc⟩;have hS1:Ch [p] W w2:=hS0.trans hc;refine hK (fun w'=>Ch [p] W w') _ _ hS1 (fun _ h=>h) ?_;clear hK K hS0;try simp only[Act.put,zSa,zSz,zSs]
 refine dz ?_ 0 127 (by exact hS1) [6] (fun _ _=>zRd) ?_;refine ap zKr ?_;have kc2:=kc.ch hS1 (by simpa using Ne.symm rW.out);have k32:=k3.ch hS1 (by simpa using n3p.out);replace kp2:=zH kp2;have hq:=zH ((Ch.of_below (M:=[p]) kb).trans hS1);clear kc k3 hc kb hS1 cK kp;go_upto_region 7 with(first|(refine ab rfl _ _ rfl _ rfl zDk _ k32 zKr ?_)|(refine eU rfl _ _ _ rfl c 65 (S'.cs v') rfl rfl _ kc2 zKr (by rw[UV,YB];decide) fQ.out (fun w9 kc9 hg=>?_)))
 rw[UW]at kc9;have hr:=zH ((hq.out.mono (M':=[p,c]) zac).trans (Ch.of_gr (M:=[p,c]) hg zac));have kp9:=zH (kp2.out.kept hg (Ne.symm rW.out));clear hg kc2 k32 hq kp2;go_wp2_with fail;go_ret;exact⟨rfl,kp9.out,kc9,hr.out⟩
theorem aeB (i:Int) (w:World):Calls Tryz.prog 172 #[.slice none 0 0,.int .i64 i] w fun e w'=>e=.returned (.int .i64 (-1))∧w'=w:=by
 go_enter Tryz.func172,Tryz.ntmps172;go_wp2_with fail;go_loopw[8] (fun iv wr=>iv=.int .i64 0∧wr=w) (fun _ _=>0)
 case atStart=>exact⟨rfl,rfl⟩
 case round=>
 obtain⟨rfl,rfl⟩:=hrel;exact zdA
theorem aaM (i:Int) (w:World):Calls Tryz.prog 128 #[.slice none 0 0,.int .i64 i] w fun e w'=>e=.returned (.bool false)∧w'=w:=by
 have c:=zH (aeB i w);go_enter Tryz.func128,Tryz.ntmps128;go_wp2_with fail;refine c.out.mono ?_;rintro e w1 ⟨rfl,rfl⟩;clear c;exact zdA
theorem acf (c r s:Nat) (kv:Value) (S:Stt) (v:Sv) (bt:Int) (q:Nat) (hv:v.rv=.slice none 0 0) (i:Int) (w:World) (k0:Arr w c (tY kv r s S v bt q)):
 CB 75 #[.pointer (some ⟨c,0,none⟩),.int .i64 i] w (.bool false):=by
 have x:=wj k0 (j:=1) (u:=.slice none 0 0) (by rw[←hv];rfl);have cc:=zH (aaM i w);clear k0;go_enter Tryz.func75,Tryz.ntmps75;go_wp2_with fail;refine cc.out.mono ?_;rintro e w1 ⟨rfl,rfl⟩;clear cc;exact zcX
theorem TX (v:Value) (w:World):(Instr.typeAssert (.iface 105 v) 20 105 true).run Tryz.prog w=.ok (.tuple #[v,.bool true]) w:=by kernel_rfl
theorem aap (bv:Value) (n:Int) (w:World):
 CB 45 #[.agg #[.int .i64 1,bv,.int .i64 n]] w (.iface 105 bv):=by
 go_enter Tryz.func45,Tryz.ntmps45;exact zeF
theorem do1 (c:Nat) (a:Option Addr) (l k:Nat) (n:Int) (w:World) (R:Int→World→Prop)
 (hF:∀w',Below w.heap.size w w'→Calls Tryz.prog 46 #[.pointer (some ⟨c,0,none⟩),.slice a l k] w' fun e w''=>∃x,e=.returned (.int .i64 x)∧R x w''):
 Calls Tryz.prog 23 #[.pointer (some ⟨c,0,none⟩),.agg #[.int .i64 1,.slice a l k,.int .i64 n]] w fun e w'=>∃x,e=.returned (.tuple #[.slice none 0 0,.int .i64 x])∧R x w':=by
 have cM:=zH (fun w'=>aap (.slice a l k) n w');replace hF:=zH hF;have f1:=TX (.slice a l k);go_enter Tryz.func23,Tryz.ntmps23;go_upto_region 1 with fail
 have kb:=ae w (.cells #[.int .i64 1,.slice a l k,.int .i64 n] 39);have k1:Arr (w.alloc (.cells #[.int .i64 1,.slice a l k,.int .i64 n] 39)) w.heap.size [.int .i64 1,.slice a l k,.int .i64 n]:=Arr.new _ _ _;obtain⟨W,hW⟩:=zX (w.alloc (.cells #[.int .i64 1,.slice a l k,.int .i64 n] 39));obtain⟨g,hg⟩:=zX w.heap.size;rw[hW]at kb k1⊢;rw[hg]at k1⊢;clear hW hg;go_wp2_with(refine aR ?_);refine zQ (cM.out _) fun w1 hb=>?_;replace kb:=az kb hb;clear hb k1 cM;go_wp2_with fail;refine(hF.out _ kb).mono ?_;rintro e w2 ⟨x,rfl,hR⟩;replace hR:=zH hR;clear hF kb f1;go_wp2_with fail;go_ret2;exact⟨x,rfl,hR.out⟩
theorem mdo (m p c:Nat) (k:Int) (h8:k≠8) (h9:k≠9) (a:Option Addr) (l cp:Nat) (n:Int) (M:List Nat) (hm:m∉M) (w:World) (km:Arr w m [.pointer (some ⟨p,0,none⟩),.pointer (some ⟨c,0,none⟩)]) (hM:∀k,k∈M→k<w.heap.size) (R:Int→World→Prop)
 (hC:∀w',Below w.heap.size w w'→Calls Tryz.prog 23 #[.pointer (some ⟨c,0,none⟩),.agg #[.int .i64 k,.slice a l cp,.int .i64 n]] w' fun e w''=>∃x,e=.returned (.tuple #[.slice none 0 0,.int .i64 x])∧(Ch M w' w''∧R x w'')):
 Calls Tryz.prog 8 #[.pointer (some ⟨m,0,none⟩),.agg #[.int .i64 k,.slice a l cp,.int .i64 n]] w fun e w'=>∃x,e=.returned (.tuple #[.slice none 0 0,.int .i64 x])∧(Ch M w w'∧R x w'):=by
 replace hC:=zH hC;have e8:(k==8)=false:=(by simpa using h8);have e9:(k==9)=false:=(by simpa using h9);clear h8 h9;go_enter Tryz.func8,Tryz.ntmps8;go_upto_region 1 with fail
 have kb:=ae w (.cells #[.int .i64 k,.slice a l cp,.int .i64 n] 39);have k1:Arr (w.alloc (.cells #[.int .i64 k,.slice a l cp,.int .i64 n] 39)) w.heap.size [.int .i64 k,.slice a l cp,.int .i64 n]:=Arr.new _ _ _;obtain⟨W,hW⟩:=zX (w.alloc (.cells #[.int .i64 k,.slice a l cp,.int .i64 n] 39));obtain⟨g,hg⟩:=zX w.heap.size;rw[hW]at kb k1⊢;rw[hg]at k1⊢;have hgM:g∉M:=fun h=>by have:=hM g h;omega
 replace hgM:=zH hgM;replace hm:=zH hm;have kd1:=km.below kb;clear hW hg hM km;have x0:=k1.cell (j:=0) rfl;go_upto_region 8 with fail
 refine eC (fun w'=>Ch M W w') 9999 10 rfl zKr ?_;have hS0:Ch M W W.drew:=Ch.of_below (zA6 _ _).drew;clear x0;refine dz ?_ 5 31 zcd [0,1,2,3,4] (fun w' hB=>by have x1:=(kd1.ch hB hm.out).cell (j:=1) rfl;have y1:=k1.ch hB hgM.out;exact zRd) ?_;refine aY 5 63 rfl zDk (fun K hK=>?_);go_simp;refine(hC.out _ kb.drew).mono ?_;rintro e w2 ⟨x,rfl,hc,hR⟩;have hS1:Ch M W w2:=hS0.trans hc;refine hK (fun w'=>Ch M W w') _ _ hS1 (fun _ h=>h) ?_;clear hK K hS0;try simp only[Act.put,zSa,zSz,zSs]
 refine dz ?_ 0 1023 (by exact hS1) [6,7,8,9] (fun _ _=>zRd) ?_;refine ap zKr ?_;have hq:=zH ((Ch.of_below (M:=M) kb).trans hS1);replace hR:=zH hR;clear hS1 hC kb hc;go_wp2_with fail;go_ret2;exact⟨x,rfl,hq.out,hR.out⟩
def Jj (M:List UInt8):Stt:=⟨0,[],M,false,0,[],false,0,-1⟩
theorem HL:AB mO=true:=(tb _).2 ⟨by decide,by decide,by decide,by decide,fun i h=>absurd h (by simp[mO]),fun h=>absurd h zDc,fun h=>absurd h zDc,by decide,by decide⟩
theorem T4:AG mO=0:=by unfold AG;rw[HL];rfl
theorem SC {M:List UInt8} (h:M.length=300):Kl mO M=Jj M:=by
 unfold Kl Xi;rw[if_pos h,HL];rfl
theorem Vx {M:List UInt8} (h:M.length=300):AB (Jj M)=true:=(tb _).2 ⟨(by decide:zw 0=true),(by decide:0≤32),(by decide:(-1:Int)≤ -1),(by decide:(-1:Int)≤1),fun i h=>absurd h (by simp[Jj]),fun h=>absurd h (by decide:(-1:Int)≠0),fun h=>absurd h (by decide:(-1:Int)≠1),by
 show l5 M false 0=true
 unfold l5;rw[if_neg zOm,h];rfl,(by decide:l5 [] false 0=true)⟩
theorem WX {M:List UInt8} (h:M.length=300):AG (Jj M)=0:=by unfold AG;rw[Vx h];rfl
theorem wZ {L:Nat} (h0:0<L) (h:L≤2048):1≤mr L∧mr L≤32:=by
 unfold mr xd;split<;>omega
theorem Mv (K:Nat):ev K<256^32:=wt _
theorem Tn (K:Nat) (L:List UInt8):uF K L<256^32:=wt _
theorem To (K:Nat) (L:List UInt8):xv K L<256^32:=zA25 (zA1 _ zDc) AU
theorem zv (r s d k:Nat) (id v:Int) (bs:List UInt8):(jS r s d k id v bs).length=300:=by
 unfold jS;rw[zA5,mq _ _ _ _ _ _ _ _ (tW _ _ _),zA5,aC,aC]
theorem UU {w:World} {p:Nat} {L:Int} {y o:Value} (kp:Arr w p [.int .i64 L,y,o]):∃z,w.cell? ⟨p,0,none⟩=some z∧(∀n,z≠.int .u8 n)∧∀a n c,z≠.slice a n c:=⟨_,kp.cell (j:=0) rfl,(fun _ e=>nomatch e),fun _ _ _ e=>nomatch e⟩
theorem UT {w:World} {p c r s q:Nat} {S:Stt} {v:Sv} {bt:Int} (kc:Arr w c (tY (Mt p) r s S v bt q)):∃z,w.cell? ⟨c,0,none⟩=some z∧(∀n,z≠.int .u8 n)∧∀a n c,z≠.slice a n c:=⟨_,Br kc,(fun _ e=>nomatch e),fun _ _ _ e=>nomatch e⟩
theorem Arr.ne {w:World} {a b:Nat} {xs ys:List Value} {u v:Value} (h1:Arr w a xs) (h2:Arr w b ys) (hx:xs[0]? =some u) (hy:ys[0]? =some v) (huv:u≠v):a≠b:=by
 rintro rfl;have q:=h1.cell hx;rw[h2.cell hy]at q;exact huv (Option.some.inj q).symm
theorem J8 (r s d k:Nat) (hd:d<256^32) (id v:Int) (hv:0≤v) (lP:v≤2147483647) (Pl:td id=true) (bs:List UInt8) (h0:0<bs.length) (hL:bs.length≤2048) (m p c g:Nat) (L:Int) (hL0:0<L) (hL1:L≤1000000) (a:Option Addr) (ca:Nat) (w:World)
 (hM:Md w m p c g L (ev r) d mO nB (-1)) (dI:Sl w (.slice a 300 ca) (aJ (jS r s d k id v bs))) (w2:World) (hb:Below w.heap.size w w2):
 Calls Tryz.prog 46 #[.pointer (some ⟨c,0,none⟩),.slice a 300 ca] w2 fun e w'=>∃x,e=.returned (.int .i64 x)∧(Ch [p,c] w w'∧(x=0∧∃v',Md w' m p c g (L-1) (ev r) d (Jj (jS r s d k id v bs)) v' (-1))):=by
 have hML:=zv r s d k id v bs;obtain⟨acO,acP⟩:=wZ h0 hL;obtain⟨km,⟨kk,o,kp⟩,hg,kc,-⟩:=hM;have L6:p≠c:=kp.ne kc rfl rfl (fun e=>nomatch e);have XU:m≠p:=km.ne kp rfl rfl (fun e=>nomatch e);have L4:m≠c:=km.ne kc rfl rfl (fun e=>nomatch e);have lp:=kp.lt;have lc:=kc.lt;have lg:=hg.lt;have hz:∀k,k∈ [p,c]→∃z,w.cell? ⟨k,0,none⟩=some z∧(∀n,z≠.int .u8 n)∧∀a n c,z≠.slice a n c:=fun k hk=>by
  rcases(by simpa using hk:k=p∨k=c)with rfl|rfl
  ·exact UU kp
  ·exact UT kc
 have hE:jS r s d k id v bs=Ka v (mr bs.length:Nat) (xo (oN (dC k v) v bs)) (jw (bD d 9) (iT (nb 32 (dC k v))) (dC k v)) id (ev s) (nb 32 (uF r (jT++(bS [id]++nb 32 (ev s))))++nb 32 (xv r (jT++(bS [id]++nb 32 (ev s)))))
  (nb 32 (uF s (fj v (mr bs.length:Nat) (xo (oN (dC k v) v bs)) (jw (bD d 9) (iT (nb 32 (dC k v))) (dC k v)) id (ev s) (uF r (jT++(bS [id]++nb 32 (ev s)))) (xv r (jT++(bS [id]++nb 32 (ev s))))))++nb 32 (xv s (fj v (mr bs.length:Nat) (xo (oN (dC k v) v bs)) (jw (bD d 9) (iT (nb 32 (dC k v))) (dC k v)) id (ev s) (uF r (jT++(bS [id]++nb 32 (ev s)))) (xv r (jT++(bS [id]++nb 32 (ev s))))))):=by
  rw[←FT];rfl
 have q:=PP c (ev r) d (Mt p) mO nB (-1) 0 a ca v (mr bs.length:Nat) (xo (oN (dC k v) v bs)) (iT (nb 32 (dC k v))) (dC k v) id (ev s) (uF r (jT++(bS [id]++nb 32 (ev s)))) (xv r (jT++(bS [id]++nb 32 (ev s))))
  (uF s (fj v (mr bs.length:Nat) (xo (oN (dC k v) v bs)) (jw (bD d 9) (iT (nb 32 (dC k v))) (dC k v)) id (ev s) (uF r (jT++(bS [id]++nb 32 (ev s)))) (xv r (jT++(bS [id]++nb 32 (ev s)))))) (xv s (fj v (mr bs.length:Nat) (xo (oN (dC k v) v bs)) (jw (bD d 9) (iT (nb 32 (dC k v))) (dC k v)) id (ev s) (uF r (jT++(bS [id]++nb 32 (ev s)))) (xv r (jT++(bS [id]++nb 32 (ev s))))))
  hv lP zOm zOm Pl (Mv _) hd (Mv _) (Tn _ _) (To _ _) (Tn _ _) (To _ _) (by rw[Pl,II];rfl) (II _ _) (by exact hv) (by rw[T4];decide) w2 (kc.below hb) (HX w2)
 rw[←hE]at q;refine q (dI.below hb) (fun w' jW=>acf c _ _ _ mO nB _ _ rfl id w' ((kc.below hb).below jW)) _ (fun w3 v' nj ho=>?_);clear q hE;have Zb:=az hb nj;rw[SC hML]at ho⊢;refine(H3 p c (ev r) d 0 L (-1) hL0 hL1 _ _ mO _ nB v' L6 w3 (kp.below Zb) (kc.below Zb) ho.ok).mono ?_;rintro e w4 ⟨rfl,kp4,kc4,hc4⟩;have hc:=(Ch.of_below (M:=[p,c]) Zb).trans hc4;exact⟨0,rfl,hc,rfl,v',km.chm hc (by simp[XU,L4]),⟨kk,o,kp4⟩,hg.chM hc hz,kc4,w.heap.size,lg,(ho.mono hb.size).chM hc4 (fun k hk=>by
  rcases(by simpa using hk:k=p∨k=c)with rfl|rfl<;>assumption)⟩
theorem N6 (r s d k:Nat) (hd:d<256^32) (id v:Int) (hv:0≤v) (lP:v≤2147483647) (Pl:td id=true) (bs:List UInt8) (h0:0<bs.length) (hL:bs.length≤2048) (m p c g:Nat) (L:Int) (hL0:0<L) (hL1:L≤1000000) (a:Option Addr) (ca:Nat) (w:World)
 (hM:Md w m p c g L (ev r) d mO nB (-1)) (dI:Sl w (.slice a 300 ca) (aJ (jS r s d k id v bs))):
 Calls Tryz.prog 8 #[.pointer (some ⟨m,0,none⟩),.agg #[.int .i64 1,.slice a 300 ca,.int .i64 0]] w fun e w'=>∃x,e=.returned (.tuple #[.slice none 0 0,.int .i64 x])∧(Ch [p,c] w w'∧(x=0∧∃v',Md w' m p c g (L-1) (ev r) d (Jj (jS r s d k id v bs)) v' (-1))):=by
 have hm:m∉ [p,c]:=by
  obtain⟨km,⟨kk,o,kp⟩,-,kc,-⟩:=hM;simp[km.ne kp rfl rfl (fun e=>nomatch e),km.ne kc rfl rfl (fun e=>nomatch e)]
 refine mdo m p c 1 zDc zDc a 300 ca 0 [p,c] hm w hM.hm (fun k hk=>?_) _ (fun w' hb=>do1 c a 300 ca 0 w' _ (fun w2 hb2=>?_))
 ·obtain⟨km,⟨kk,o,kp⟩,-,kc,-⟩:=hM;rcases(by simpa using hk:k=p∨k=c)with rfl|rfl
  ·exact kp.lt
  ·exact kc.lt
 ·exact J8 r s d k hd id v hv lP Pl bs h0 hL m p c g L hL0 hL1 a ca w' (hM.below hb) (dI.below hb) w2 hb2
theorem En (K:Nat) (v i:Int) (a:Option Addr) (c:Nat) (bs:List UInt8) (ua:bs.length=80) (hm:qm v i=true) (ht:pF K (kM i) (bs.take 64) (bS [v])=bs.drop 64) (w:World) (h:Sl w (.slice a 80 c) (aJ bs)):
 Calls Tryz.prog 81 #[.agg (ag 32 K).toArray,.int .i64 v,.int .i64 i,.slice a 80 c] w fun e w'=>∃g,e=.returned (.tuple #[.slice (some ⟨g,0,none⟩) 64 64,.int .i64 0])∧Below w.heap.size w w':=by
 have hs:kd K v i (ID K 1 (kM i) (bs.take 64))=bs:=by
  rw[kd,jk,EP,ht,List.take_append_drop]
 refine(Rv K v i a c (ID K 1 (kM i) (bs.take 64)) (by rw[nG,zA15];omega) hm w (by rw[hs];exact h)).mono ?_;rintro e w' ⟨g,rfl,-,-,hb⟩;exact⟨g,rfl,hb⟩
theorem Vr (K:Nat) (v i:Int) (a:Option Addr) (c:Nat) (bs:List UInt8) (ua:bs.length=80) (hm:qm v i=true) (w:World) (h:Sl w (.slice a 80 c) (aJ bs)):
 Calls Tryz.prog 81 #[.agg (ag 32 K).toArray,.int .i64 v,.int .i64 i,.slice a 80 c] w fun e w'=>∃a n c x,e=.returned (.tuple #[.slice a n c,.int .i64 x])∧Below w.heap.size w w':=by
 by_cases ht:pF K (kM i) (bs.take 64) (bS [v])=bs.drop 64
 ·refine(En K v i a c bs ua hm ht w h).mono ?_;rintro e w' ⟨g,rfl,hb⟩;exact⟨_,_,_,_,rfl,hb⟩
 ·refine(Em K v i a c bs ua hm ht w h).mono ?_;rintro e w' ⟨rfl,hb⟩;exact⟨_,_,_,_,rfl,hb⟩
theorem aev (p g k:Nat) (L:Int) (o:Value) (n:Nat) (hn:n<32) (w:World) (kp:Arr w p [.int .i64 L,.slice (some ⟨g,0,none⟩) 32 k,o]) (hg:G80 w g):
 Calls Tryz.prog 265 #[.pointer (some ⟨p,0,none⟩),.int .i64 0,.int .i64 (n:Int)] w fun e w'=>∃d cd bs,e=.returned (.slice (some ⟨d,0,none⟩) 80 cd)∧bs.length=80∧Sl w' (.slice (some ⟨d,0,none⟩) 80 cd) (aJ bs)∧Below w.heap.size w w':=by
 obtain⟨xs,hx,h2⟩:=hg;obtain⟨u,hu,d,cd,bs,rfl,fP,dI⟩:=h2 n hn;have cC:=zH (jy (.slice (some ⟨d,0,none⟩) 80 cd) bs w dI zOm);have x1:=kp.cell (j:=1) rfl;have x2:=hx.cell hu;have i0:(0:Int)≤(n:Int):=zOm;have i1:(n:Int)<32:=zOm;clear kp hx h2 hu dI hn;go_enter Tryz.func265,Tryz.ntmps265;go_wp2_with fail;refine cC.out.mono ?_;rintro e w1 ⟨v,rfl,ho,hb,-⟩;have hs:=Sl.of_own ho;rw[fP]at ho;obtain⟨g1,c1,rfl,-⟩:=gn ho zDc;replace hs:=zH hs;clear cC x1 x2 ho;go_wp2_with fail;go_ret;exact⟨g1,c1,bs,rfl,fP,hs.out,hb⟩
theorem V4 (p g k:Nat) (L:Int) (o:Value) (n:Nat) (hn:n<32) (a:Option Addr) (cb:Nat) (bs:List UInt8) (fP:bs.length=80) (w:World) (kp:Arr w p [.int .i64 L,.slice (some ⟨g,0,none⟩) 32 k,o]) (hg:G80 w g) (dI:Sl w (.slice a 80 cb) (aJ bs)):
 Calls Tryz.prog 266 #[.pointer (some ⟨p,0,none⟩),.int .i64 0,.int .i64 (n:Int),.slice a 80 cb] w fun e w'=>e=.returned (.int .i64 0)∧G80 w' g∧Ch [g] w w':=by
 obtain⟨xs,hx,h2⟩:=hg;have Hr:n<xs.length:=by
  obtain⟨u,hu,-⟩:=h2 n hn;exact(zA18.1 hu).1
 have cC:=zH (fun w h=>jy (.slice a 80 cb) bs w h zOm);have i0:(0:Int)≤(n:Int):=zOm;have i1:(n:Int)<32:=zOm;replace hx:=zH hx;replace h2:=zH h2;replace dI:=zH dI;have Vd:=hx.out.lt;replace Vd:=zH Vd;replace Hr:=zH Hr;clear hn;go_enter Tryz.func266,Tryz.ntmps266;go_upto_region 1 with fail
 refine cH 10 11 fun aP=>?_;refine dz ?_ 3 255 zaD [0,1,2,3,4,5,6,7] (fun w' hB=>by have x1:=(kp.below hB).cell (j:=1) rfl;exact zRd) ?_;refine aY 8 511 rfl zDk (fun K hK=>?_);go_simp;refine(cC.out _ (dI.out.below aP)).mono ?_;rintro e i8 ⟨v,rfl,ho,dA,-⟩;have bn:=aW aP (zA0 _) dA;refine hK (fun w'=>Below (w).heap.size (w) w') _ _ bn (fun _ h=>h) ?_;clear hK K aP;try simp only[Act.put,zSa,zSz,zSs]
 have hs:=Sl.of_own ho;rw[fP]at ho;obtain⟨g1,c1,rfl,-⟩:=gn ho zDc;replace hs:=zH hs;clear ho;refine dz ?_ 1 1023 za0 [9] (fun _ _=>zRd) ?_;have bC:=bn;have hx3:=hx.out.below bC;have YK:=zH (fun j hj=>by obtain⟨u,h3,h4⟩:=h2.out j hj;exact(⟨u,h3,h4.below bC⟩:∃u,xs[j]? =some u∧E80 i8 u));have heu:=zH (show E80 i8 (.slice (some ⟨g1,0,none⟩) 80 c1)from⟨g1,c1,bs,rfl,fP,hs.out⟩);refine bf 2047 rfl zDk (fun K hK=>?_);refine br rfl _ _ _ rfl g n (.slice (some ⟨g1,0,none⟩) 80 c1) rfl rfl _ hx3 zKr Hr.out rfl (fun w7 k7 lW Hx=>?_);refine hK (fun _=>True) 9999 _ _ ?_;clear hK K;try simp only[Act.put]
 try simp only[zSa,zSz,zSs]
 refine ap zKr ?_;have hG:=zH (G80.put hx3 rfl YK.out k7 lW heu.out);have Up:=zH ((Ch.of_below (M:=[g]) bC).trans (Ch.of_gr lW zac));clear lW Hx k7 hx3 bC kp;go_wp2_with fail;go_ret;exact⟨rfl,hG.out,Up.out⟩
theorem PS (p c g kk:Nat) (L:Int) (o:Value) (r s q:Nat) (S:Stt) (v:Sv) (bt:Int) (ver b:Int) (root X gw cw:Nat) (i:Int) (k R1 s1 RS SS:Nat) (n:Nat) (hn:n<32) (hm:qm ver (n:Int)=true) (w:World)
 (kp:Arr w p [.int .i64 L,.slice (some ⟨g,0,none⟩) 32 kk,o]) (hg:G80 w g) (kc:Arr w c (tY (Mt p) r s S v bt q)):
 Calls Tryz.prog 82 #[.pointer (some ⟨c,0,none⟩),.agg (gK 0 (bU ver b root (.slice (some ⟨gw,0,none⟩) 80 cw) i k R1 s1 RS SS) X true).toArray,.int .i64 (n:Int)] w fun e w'=>∃a l cp t,e=.returned (.tuple #[.slice a l cp,.bool t])∧Below w.heap.size w w':=by
 have cR:=zH (fun w kp hg=>aev p g kk L o n hn w kp hg);have cO:=zH (fun w d cd bs fP h=>Vr X ver n (some ⟨d,0,none⟩) cd bs fP hm w h);have nu:=a8 ver b root (.slice (some ⟨gw,0,none⟩) 80 cw) i k R1 s1 RS SS;replace kp:=zH kp;replace hg:=zH hg;replace nu:=zH nu;clear hn hm;go_enter Tryz.func82,Tryz.ntmps82;go_upto_region 1 with fail
 refine aH (fun W aB k4 kb=>?_);replace k4:Arr W w.heap.size (gK 0 (bU ver b root (.slice (some ⟨gw,0,none⟩) 80 cw) i k R1 s1 RS SS) X true):=k4;clear aB;replace kc:=kc.below kb;replace kp:=zH (kp.out.below kb);replace hg:=zH (hg.out.below kb);obtain⟨g4,mT⟩:=zX w.heap.size;rw[mT]at k4⊢;clear mT;have yf:=wz k4 nu.out;go_upto_region 3 with fail
 clear yf;refine cH 9999 20 fun aP=>?_;refine dz ?_ 7 8191 zaD [0,1,2,3,4,5,6,7,8,9,10,11,12] (fun w' hB=>by have yk:=FC (k4.below hB) nu.out;have yv:=BM (k4.below hB) (t:=0) (u:=.int .i64 ver) rfl;have yj:=XL (k4.below hB);have x0:w'.cell? ⟨c,0,none⟩=some (.iface 56 (.pointer (some ⟨p,0,none⟩))):=Br (kc.below hB);exact zRm) ?_;refine aY 13 16383 rfl zDk (fun K hK=>?_);go_simp;refine(cR.out _ (kp.out.below aP) (hg.out.below aP)).mono ?_;rintro e i8 ⟨d,cd,bs,rfl,fP,hs,dA⟩;have bn:=aW aP (zA0 _) dA;refine hK (fun w'=>Below (W).heap.size (W) w') _ _ bn (fun _ h=>h) ?_;clear hK K aP;try simp only[Act.put,zSa,zSz,zSs]
 replace hs:=zH hs;refine aY 14 32767 rfl zDk (fun K hK=>?_);go_simp;refine(cO.out _ _ _ _ fP hs.out).mono ?_;rintro e jF ⟨a,l,cp,x,rfl,dc⟩;have bB:=aW bn (zA0 _) dc;refine hK (fun w'=>Below (W).heap.size (W) w') _ _ bB (fun _ h=>h) ?_;clear hK K bn;try simp only[Act.put,zSa,zSz,zSs]
 refine dz ?_ 0 1048575 zaI [15,16,17,18,19] (fun _ _=>zRd) ?_;refine ap zKr ?_;have kb9:=az kb bB;clear kb cR cO kp hg k4 kc;go_wp2_with fail;go_ret2;exact⟨a,l,cp,_,rfl,kb9⟩
theorem Jb (p c g kk:Nat) (L:Int) (o:Value) (r s q:Nat) (S:Stt) (v:Sv) (bt:Int) (ver b:Int) (root X:Nat) (i:Int) (k R1 s1 RS SS:Nat) (n:Nat) (hn:n<32) (oO:(n:Int)<b) (hm:qm ver (n:Int)=true) (a:Option Addr) (cb:Nat) (bs:List UInt8) (fP:bs.length=80) (w:World)
 (kp:Arr w p [.int .i64 L,.slice (some ⟨g,0,none⟩) 32 kk,o]) (Vc:G80 w g) (kc:Arr w c (tY (Mt p) r s S v bt q)) (dI:Sl w (.slice a 80 cb) (aJ bs)) (ht:pF X (kM n) (bs.take 64) (bS [ver])=bs.drop 64)
 (hF:∀w',Below w.heap.size w w'→Calls Tryz.prog 80 #[.pointer (some ⟨c,0,none⟩)] w' fun e w''=>∃gw cw,e=.returned (.tuple #[.agg (gK 0 (bU ver b root (.slice (some ⟨gw,0,none⟩) 80 cw) i k R1 s1 RS SS) X true).toArray,.bool true])∧Below w'.heap.size w' w''):
 Calls Tryz.prog 47 #[.pointer (some ⟨c,0,none⟩),.int .i64 (n:Int),.slice a 80 cb] w fun e w'=>e=.returned (.int .i64 0)∧(Ch [g] w w'∧G80 w' g):=by
 have cO:=zH (fun w h=>En X ver n a cb bs fP hm ht w h);have cP:=zH (fun gw cw w kp hg kc=>PS p c g kk L o r s q S v bt ver b root X gw cw i k R1 s1 RS SS n hn hm w kp hg kc);have cW:=zH (fun w kp hg h=>V4 p g kk L o n hn a cb bs fP w kp hg h);replace hF:=zH hF;replace kp:=zH kp;replace Vc:=zH Vc;replace kc:=zH kc;replace dI:=zH dI;have Vd:=zH Vc.out.lt;have kb:=zA6 w.heap.size w;have h0:¬(n:Int)<0:=zOm;have h1:¬b≤(n:Int):=zOm;clear hn oO hm ht;go_enter Tryz.func47,Tryz.ntmps47;go_wp2_with fail;refine(hF.out _ kb).mono ?_;rintro e w1 ⟨gw,cw,rfl,hb⟩;replace kb:=az kb hb;have Rf:=kb.size;clear hb hF
 go_upto_region 2 with(refine aD rfl _ _ _ rfl _ (gK 0 (bU ver b root (.slice (some ⟨gw,0,none⟩) 80 cw) i k R1 s1 RS SS) X true) rfl rfl _ (Arr.new _ _ _) zcm zcm (nJ _ _ _ _ (jd _ _ _ _ _ _ _ _ _ _ rfl)) (fun w2 k7 hg aB=>?_))
 replace kb:=az kb (a9 hg);have nu:=a8 ver b root (.slice (some ⟨gw,0,none⟩) 80 cw) i k R1 s1 RS SS;obtain⟨g7,lW⟩:=zX w1.heap.size;rw[lW]at k7⊢;clear hg aB;have yb:=BM k7 (t:=1) (u:=.int .i64 b) rfl;have hgn:Hid (g7≠g):=zH (by have:=Vd.out;omega);clear Rf lW Vd;have yk:=FC k7 nu;have yv:=BM k7 (t:=0) (u:=.int .i64 ver) rfl;replace nu:=zH nu;go_wp2_with(refine aE rfl _ _ rfl _ _ rfl zKr _ yk zbx ?_);refine(cO.out _ (dI.out.below kb)).mono ?_;rintro e w3 ⟨go,rfl,hb⟩;replace k7:=k7.below hb;replace kb:=az kb hb;have yf:=wz k7 nu.out;clear hb cO yk yv yb;go_wp2_with(refine ab rfl _ _ rfl _ rfl zDk _ k7 (by rw[fh _ _ _ _ nu.out];kernel_rfl) ?_);refine(cP.out gw cw _ (kp.out.below kb) (Vc.out.below kb) (kc.out.below kb)).mono ?_;rintro e w4 ⟨ao,lo,co,t,rfl,hb⟩;replace k7:=k7.below hb;replace kb:=az kb hb;clear hb cP yf;cases t
 ·go_upto_region 12 with fail
  refine eC (fun w'=>Ch [g] w4 w') 9999 10 rfl zKr ?_;have hS0:Ch [g] w4 w4.drew:=Ch.of_below (zA6 _ _).drew;have kcw:=kc.out.below kb;have QI:Hid (c≠g):=zH (Vc.out.ne kc.out rfl (fun _ _ _ e=>nomatch e));refine dz ?_ 2 255 zcd [0,1,2,3,4,5,6,7] (fun w' hB=>by have x0:w'.cell? ⟨c,0,none⟩=some (.iface 56 (.pointer (some ⟨p,0,none⟩))):=Br (kcw.ch hB (by simpa using QI.out));have yj:=XL (k7.ch hB (by simpa using hgn.out));exact zRd) ?_;refine aY 8 511 rfl zDk (fun K hK=>?_);go_simp;have kbd:=kb.drew;refine(cW.out _ (kp.out.below kbd) (Vc.out.below kbd) (dI.out.below kbd)).mono ?_;rintro e w5 ⟨rfl,jJ,hc⟩;have hS1:Ch [g] w4 w5:=hS0.trans hc;refine hK (fun w'=>Ch [g] w4 w') _ _ hS1 (fun _ h=>h) ?_;clear hK K hS0;try simp only[Act.put,zSa,zSz,zSs]
  refine dz ?_ 0 1023 (by exact hS1) [9] (fun _ _=>zRd) ?_;refine ap zKr ?_;have hq:=zH ((Ch.of_below (M:=[g]) kb).trans hS1);replace jJ:=zH jJ;clear hS1 hc kb kbd cW k7 kcw;go_wp2_with fail;go_ret;exact⟨rfl,hq.out,jJ.out⟩
 ·have hq:=zH (Ch.of_below (M:=[g]) kb);have jJ:=zH (Vc.out.below kb);clear kb cW k7;go_wp2_with fail;go_ret;exact⟨rfl,hq.out,jJ.out⟩
theorem TW (v:Value) (w:World):(Instr.typeAssert (.iface 107 v) 20 105 true).run Tryz.prog w=.ok (.tuple #[.slice none 0 0,.bool false]) w:=by kernel_rfl
theorem O6 (v:Value) (w:World):(Instr.typeAssert (.iface 107 v) 20 107 true).run Tryz.prog w=.ok (.tuple #[v,.bool true]) w:=by kernel_rfl
theorem VA (a:Option Addr) (l k:Nat) (n:Int) (w:World):
 CB 45 #[.agg #[.int .i64 2,.slice a l k,.int .i64 n]] w (.iface 107 (.agg #[.int .i64 2,.slice a l k,.int .i64 n])):=by
 go_enter Tryz.func45,Tryz.ntmps45;go_upto_region 1 with fail
 refine aH (fun W aB k1 kb=>?_);replace k1:Arr W w.heap.size [.int .i64 2,.slice a l k,.int .i64 n]:=k1;clear aB;have x0:=k1.cell (j:=0) rfl;go_wp2_with(refine aR ?_);go_ret;exact⟨rfl,kb⟩
theorem do2 (c:Nat) (a:Option Addr) (l k:Nat) (n:Int) (w:World) (R:Int→World→Prop)
 (hF:∀w',Below w.heap.size w w'→Calls Tryz.prog 47 #[.pointer (some ⟨c,0,none⟩),.int .i64 n,.slice a l k] w' fun e w''=>∃x,e=.returned (.int .i64 x)∧R x w''):
 Calls Tryz.prog 23 #[.pointer (some ⟨c,0,none⟩),.agg #[.int .i64 2,.slice a l k,.int .i64 n]] w fun e w'=>∃x,e=.returned (.tuple #[.slice none 0 0,.int .i64 x])∧R x w':=by
 have cM:=zH (fun w'=>VA a l k n w');replace hF:=zH hF;have f1:=TW (.agg #[.int .i64 2,.slice a l k,.int .i64 n]);have f2:=O6 (.agg #[.int .i64 2,.slice a l k,.int .i64 n]);go_enter Tryz.func23,Tryz.ntmps23;go_upto_region 1 with fail
 refine aH (fun W aB k1 kb=>?_);replace k1:Arr W w.heap.size [.int .i64 2,.slice a l k,.int .i64 n]:=k1;clear aB;go_wp2_with(refine aR ?_);refine zQ (cM.out _) fun w1 hb=>?_;replace kb:=az kb hb;clear hb k1 cM;go_upto_region 7 with(refine aD rfl _ _ _ rfl _ [.int .i64 2,.slice a l k,.int .i64 n] rfl rfl _ (Arr.new _ _ _) zKr (by rfl) (by intro v hv;simp at hv;rcases hv with rfl|rfl|rfl<;>rfl) (fun w2 k7 hg aB=>?_))
 replace kb:=az kb (a9 hg);clear hg aB;have y1:=k7.cell (j:=1) rfl;have y2:=k7.cell (j:=2) rfl;go_wp2_with fail;refine(hF.out _ kb).mono ?_;rintro e w3 ⟨x,rfl,hR⟩;replace hR:=zH hR;clear hF kb f1 f2 k7 y1 y2;go_wp2_with fail;go_ret2;exact⟨x,rfl,hR.out⟩
theorem Rn (r s d k:Nat) (id v:Int) (bs:List UInt8):∃root R1 s1 RS SS,jS r s d k id v bs=Ka v (mr bs.length:Nat) root (jw (bD d 9) (iT (nb 32 (dC k v))) (dC k v)) id (ev s) (nb 32 R1++nb 32 s1) (nb 32 RS++nb 32 SS):=by
 exact⟨_,_,_,_,_,FT _ _ _ _ _ _ _ _ (nb 32 _++nb 32 _)⟩
theorem RU (r s d k:Nat) (hd:d<256^32) (id v:Int) (hv:0≤v) (lP:v≤2147483647) (Pl:td id=true) (bs:List UInt8) (h0:0<bs.length) (hL:bs.length≤2048):∃root R1 s1 RS SS,∀(m p c g:Nat) (L:Int) (u:Sv) (w:World),Md w m p c g L (ev r) d (Jj (jS r s d k id v bs)) u (-1)→
 ∀w',Below w.heap.size w w'→Calls Tryz.prog 80 #[.pointer (some ⟨c,0,none⟩)] w' fun e w''=>∃gw cw,e=.returned (.tuple #[.agg (gK 0 (bU v (mr bs.length:Nat) root (.slice (some ⟨gw,0,none⟩) 80 cw) id (ev s) R1 s1 RS SS) (dC k v) true).toArray,.bool true])∧Below w'.heap.size w' w'':=by
 obtain⟨root,R1,s1,RS,SS,hE⟩:=Rn r s d k id v bs;refine⟨root,R1,s1,RS,SS,fun m p c g L u w hM w' hb=>?_⟩;obtain⟨acO,acP⟩:=wZ h0 hL;obtain⟨-,-,-,kc,B,-,ep⟩:=hM;have nu:=zv r s d k id v bs;have hsm:=ep.ok.m0;rw[show(Jj (jS r s d k id v bs)).m0=jS r s d k id v bs from rfl,hE]at hsm;refine(PQ c (ev r) d (Mt p) (Jj (jS r s d k id v bs)) u (-1) 0 0 zDc (WX nu) u.m0 false (fun w' h=>wj h (j:=2) rfl) (fun w' h=>wj h (j:=3) rfl) v (mr bs.length:Nat) root (iT (nb 32 (dC k v))) (dC k v) id (ev s) R1 s1 RS SS hv lP zOm zOm Pl hd w' (kc.below hb) (ep.ok.below hb) (hsm.below hb)).mono ?_;rintro e w'' ⟨gw,cw,rfl,-,hb2⟩;exact⟨gw,cw,rfl,hb2⟩
theorem Mi (m p c g:Nat) (L:Int) (r s:Nat) (S:Stt) (u:Sv) (w:World) (hM:Md w m p c g L r s S u (-1)) (a:Option Addr) (l cp:Nat) (n:Int) (R:Int→World→Prop)
 (hC:∀w',Below w.heap.size w w'→Calls Tryz.prog 47 #[.pointer (some ⟨c,0,none⟩),.int .i64 n,.slice a l cp] w' fun e w''=>∃x,e=.returned (.int .i64 x)∧(Ch [g] w' w''∧R x w'')):
 Calls Tryz.prog 8 #[.pointer (some ⟨m,0,none⟩),.agg #[.int .i64 2,.slice a l cp,.int .i64 n]] w fun e w'=>∃x,e=.returned (.tuple #[.slice none 0 0,.int .i64 x])∧(Ch [g] w w'∧R x w'):=
 mdo m p c 2 zDc zDc a l cp n [g] (by simpa using hM.hg.ne hM.hm rfl (fun _ _ _ e=>nomatch e)) w hM.hm (fun k hk=>by rw[List.mem_singleton.1 hk];exact hM.hg.lt) R (fun w' hb=>do2 c a l cp n w' _ (fun w2 hb2=>(hC w2 (az hb hb2)).mono (fun e w3 h=>by
  obtain⟨x,h1,h2,h3⟩:=h;exact⟨x,h1,(Ch.of_below hb2).trans h2,h3⟩)))
theorem Mh (m p c g:Nat) (L:Int) (r s:Nat) (S:Stt) (u:Sv) (w:World) (hM:Md w m p c g L r s S u (-1)) (a:Option Addr) (l cp:Nat) (n:Int) (E:Int) (hC:∀w',Below w.heap.size w w'→CB 47 #[.pointer (some ⟨c,0,none⟩),.int .i64 n,.slice a l cp] w' (.int .i64 E)):
 Calls Tryz.prog 8 #[.pointer (some ⟨m,0,none⟩),.agg #[.int .i64 2,.slice a l cp,.int .i64 n]] w fun e w'=>e=.returned (.tuple #[.slice none 0 0,.int .i64 E])∧Ch [g] w w'∧Md w' m p c g L r s S u (-1):=by
 refine(Mi m p c g L r s S u w hM a l cp n (fun x w'=>x=E∧Md w' m p c g L r s S u (-1)) (fun w' hb=>(hC w' hb).mono (fun e w'' h=>?_))).mono ?_
 ·obtain⟨rfl,h2⟩:=h;exact⟨E,rfl,Ch.of_below h2,rfl,(hM.below hb).below h2⟩
 ·rintro e w' ⟨x,rfl,h1,rfl,h2⟩;exact⟨rfl,h1,h2⟩
section
variable (r s d k:Nat) (hd:d<256^32) (id v:Int) (hv:0≤v) (lP:v≤2147483647) (Pl:td id=true) (bs:List UInt8) (h0:0<bs.length) (hL:bs.length≤2048) (m p c g:Nat) (L:Int) (u:Sv) (w:World) (hM:Md w m p c g L (ev r) d (Jj (jS r s d k id v bs)) u (-1))
include hd hv lP Pl h0 hL hM
theorem Co (a:Option Addr) (l cp:Nat) (n:Int) (hn:n<0∨((mr bs.length:Nat):Int)≤n):
 Calls Tryz.prog 8 #[.pointer (some ⟨m,0,none⟩),.agg #[.int .i64 2,.slice a l cp,.int .i64 n]] w fun e w'=>e=.returned (.tuple #[.slice none 0 0,.int .i64 17])∧Ch [g] w w'∧Md w' m p c g L (ev r) d (Jj (jS r s d k id v bs)) u (-1):=by
 obtain⟨root,R1,s1,RS,SS,hf⟩:=RU r s d k hd id v hv lP Pl bs h0 hL;exact Mh m p c g L _ _ _ u w hM a l cp n 17 (fun w' hb=>Fe c 0 v _ root (dC k v) id (ev s) R1 s1 RS SS n _ w' (fun w2 hb2=>hf m p c g L u w hM w2 (az hb hb2)) hn)
theorem HN (a:Option Addr) (l cp:Nat) (n:Int) (hn:0≤n) (oO:n<((mr bs.length:Nat):Int)) (er:Int) (her:er≠0)
 (hO:∀w',Below w.heap.size w w'→CB 81 #[.agg (ag 32 (dC k v)).toArray,.int .i64 v,.int .i64 n,.slice a l cp] w' (.tuple #[.slice none 0 0,.int .i64 er])):
 Calls Tryz.prog 8 #[.pointer (some ⟨m,0,none⟩),.agg #[.int .i64 2,.slice a l cp,.int .i64 n]] w fun e w'=>e=.returned (.tuple #[.slice none 0 0,.int .i64 10])∧Ch [g] w w'∧Md w' m p c g L (ev r) d (Jj (jS r s d k id v bs)) u (-1):=by
 obtain⟨root,R1,s1,RS,SS,hf⟩:=RU r s d k hd id v hv lP Pl bs h0 hL;exact Mh m p c g L _ _ _ u w hM a l cp n 10 (fun w' hb=>Ja c 0 v _ root (dC k v) id (ev s) R1 s1 RS SS n _ w' (fun w2 hb2=>hf m p c g L u w hM w2 (az hb hb2)) hn oO er her (fun w2 hb2=>hO w2 (az hb hb2)))
theorem HM (a:Option Addr) (cp:Nat) (n:Nat) (oO:n<mr bs.length) (b:List UInt8) (fP:b.length=80) (dI:Sl w (.slice a 80 cp) (aJ b)):
 Calls Tryz.prog 8 #[.pointer (some ⟨m,0,none⟩),.agg #[.int .i64 2,.slice a 80 cp,.int .i64 (n:Int)]] w fun e w'=>e=.returned (.tuple #[.slice none 0 0,.int .i64 (if pF (dC k v) (kM n) (b.take 64) (bS [v])=b.drop 64 then 0 else 10)])∧Ch [g] w w'∧Md w' m p c g L (ev r) d (Jj (jS r s d k id v bs)) u (-1):=by
 obtain⟨acO,acP⟩:=wZ h0 hL;have hm:qm v (n:Int)=true:=(by simp[qm];omega)
 by_cases ht:pF (dC k v) (kM n) (b.take 64) (bS [v])=b.drop 64
 ·rw[if_pos ht];obtain⟨root,R1,s1,RS,SS,hf⟩:=RU r s d k hd id v hv lP Pl bs h0 hL;have hMM:=hM;obtain⟨km,⟨kk,o,kp⟩,hg,kc,ep⟩:=hMM;refine(Mi m p c g L _ _ _ u w hM a 80 cp n (fun x w'=>x=0∧G80 w' g) (fun w' hb=>(Jb p c g kk L o (ev r) d 0 _ u (-1) v _ root (dC k v) id (ev s) R1 s1 RS SS n zOm zOm hm a cp b fP w' (kp.below hb) (hg.below hb) (kc.below hb) (dI.below hb) ht (fun w2 hb2=>hf m p c g L u w hM w2 (az hb hb2))).mono (fun e w'' h=>?_))).mono ?_
  ·obtain⟨rfl,h2,h3⟩:=h;exact⟨0,rfl,h2,rfl,h3⟩
  ·rintro e w' ⟨x,rfl,h1,rfl,h2⟩;exact⟨rfl,h1,hM.turned h1 h2⟩
 ·rw[if_neg ht];exact HN r s d k hd id v hv lP Pl bs h0 hL m p c g L u w hM a 80 cp n zOm zOm 10 zDc (fun w' hb=>Em (dC k v) v n a cp b fP hm ht w' (dI.below hb))
end
end Go.Proofs.YtgfkgolafkdjfaaGreatDoor
