/- ModelWrong: part 49 of its proof: lemmas and contracts, each with its conditions in its own statement; the last part holds the law itself. -/
import Derived.Test.YtgfkgolafkdjfaaGreatDoorJv48
import Derived.Test.YtgfkgolafkdjfaaGreatDoorJv47
import Derived.Lib.LaidTab
import Derived.MakeChecks
import Derived.Test.YtgfkgolafkdjfaaGreatDoorRows
import Derived.LaidSub

set_option maxHeartbeats 4000000
set_option maxRecDepth 100000
namespace Go.Proofs.YtgfkgolafkdjfaaGreatDoor
open Go.RowKit
theorem iW (x:Int) (w:World):Calls Tryz.prog 9 #[.int .i64 x] w fun e w'=>e=.returned (.int .i64 x)∧w'=w:=by
 go_enter Tryz.func9,Tryz.ntmps9;exact zdA
theorem N7 (m p c:Nat) (L:Int) (y o:Value) (w:World) (km:Arr w m [.pointer (some ⟨p,0,none⟩),.pointer (some ⟨c,0,none⟩)]) (kp:Arr w p [.int .i64 L,y,o]):
 Calls Tryz.prog 11 #[.pointer (some ⟨m,0,none⟩)] w fun e w'=>e=.returned (.int .i64 L)∧w'=w:=by
 have x0:=km.cell (j:=0) rfl;have x1:=kp.cell (j:=0) (u:=.int .i64 L) rfl;clear km kp;go_enter Tryz.func11,Tryz.ntmps11;exact zdA
theorem HO (m p c r s:Nat) (kv:Value) (bt:Int) (w:World) (km:Arr w m [.pointer (some ⟨p,0,none⟩),.pointer (some ⟨c,0,none⟩)]) (kc:Arr w c (nN kv r s bt)):
 Calls Tryz.prog 12 #[.pointer (some ⟨m,0,none⟩)] w fun e w'=>e=.returned (.int .i64 bt)∧w'=w:=by
 have x0:=km.cell (j:=1) rfl;have cB:=zH (Ff kv c r s bt w kc);clear km kc;go_enter Tryz.func12,Tryz.ntmps12;go_wp2_with fail;refine cB.out.mono ?_;rintro e w1 ⟨rfl,hw⟩;obtain rfl:w=w1:=hw.symm;clear cB x0;exact zdA
theorem vY (w:World):CB 4 #[] w (.bool true):=by
 have cN:=zH (show Calls Tryz.prog 10 #[.agg (ag 32 0).toArray,.agg (ag 32 0).toArray,.int .i64 9] w _ from HP 0 0 9 zDc zDc w);go_enter Tryz.func4,Tryz.ntmps4;go_wp2_with(refine bi rfl _ _ rfl (ag 32 0).toArray zKr ?_);refine cN.out.mono ?_;rintro e w1 ⟨m,p,c,g,rfl,hM,Aw,kb⟩;clear cN;obtain⟨km,⟨kk,o,kp⟩,hg,kc,-⟩:=hM;rw[Ln]at kc;have L4:m≠c:=km.ne kc rfl rfl (fun e=>nomatch e);have L6:p≠c:=kp.ne kc rfl rfl (fun e=>nomatch e);have cD:=zH (mdo m p c 4 zDc zDc none 0 0 0 [c] (by simpa using L4) w1 km (fun k hk=>by rw[List.mem_singleton.1 hk];exact kc.lt) (fun x w'=>x=18∧Arr w' c (nN (Mt p) 0 0 (-1))) (fun w' hb=>(afl (Mt p) c 0 0 (-1) (.slice none 0 0) 0 w' (kc.below hb)).mono (fun e w'' h=>by
  obtain⟨rfl,h1,h2⟩:=h;exact⟨18,rfl,h2,rfl,h1⟩)))
 have hcw:=Aw c zac;clear kc hg Aw;replace km:=zH km;replace kp:=zH kp;replace L4:=zH L4;replace L6:=zH L6;go_wp2_with fail;refine cD.out.mono ?_;rintro e w2 ⟨x,rfl,hc,rfl,kc⟩;replace kb:=Ch.to_below kb hc (fun k hk=>by rw[List.mem_singleton.1 hk];exact hcw) kb.size;have km2:=km.out.chm hc (by simpa using L4.out);have kp2:=kp.out.chm hc (by simpa using L6.out);have cL:=zH (show Calls Tryz.prog 11 #[.pointer (some ⟨m,0,none⟩)] w2 fun e w'=>e=.returned (.int .i64 9)∧w'=w2 from N7 m p c ((9:Nat):Int) _ o w2 km2 kp2);have cB:=zH (HO m p c 0 0 (Mt p) (-1) w2 km2 kc);clear cD hc km kp km2 kp2 kc L4 L6 hcw;go_wp2_with fail;refine zQ (iW 18 _) fun w3 hw=>?_;obtain rfl:w2=w3:=hw.symm;go_wp2_with fail;refine cL.out.mono ?_;rintro e w3 ⟨rfl,hw⟩;obtain rfl:w2=w3:=hw.symm;clear cL;go_wp2_with fail;refine cB.out.mono ?_;rintro e w3 ⟨rfl,hw⟩;obtain rfl:w2=w3:=hw.symm;clear cB;go_wp2_with fail
 go_ret;exact⟨rfl,kb⟩
theorem Gc {P:Program} {fn:Func} {a b c p u:Tmp} {ty:TypeId} (h:fn.results=#[.tmp a,.tmp b,.tmp c,.cell p ty,.tmp u]) (tmps:Array Value) (w:World) (g:Nat) (hp:tmps.getD p undef=.pointer (some ⟨g,0,none⟩)) (ha:Aq P ty=true) (xs:List Value) (k:Arr w g xs) (hi:(P.info? ty).map (·.size)=some xs.length):
 (results fn tmps).run P w=.ok (.tuple #[tmps.getD a undef,tmps.getD b undef,tmps.getD c undef,.agg xs.toArray,tmps.getD u undef]) w:=by
 have e1:=lH ha k hi;simp only[results,h];simp only[Array.getD_eq_getD_getElem?]at hp⊢;simp[Result.andThen,hp,asAddr,e1]
theorem OBs.chM {M:List Nat} {B:Nat} {w w':World} {v:Value} {ls:List (List UInt8)} (h:OBs B w v ls) (hc:Ch M w w') (hM:∀k,k∈M→k<B):OBs B w' v ls:=by
 obtain⟨us,h1,h2⟩:=h;exact⟨us,tK h1 hc hM,fun j x b hx hb=>tK (h2 j x b hx hb) hc hM⟩
theorem Ym (x:Int):∃b:UInt8,IntKind.u8.wrap x=(b.toNat:Int):=by
 refine⟨UInt8.ofNat (x%256).toNat,?_⟩;have h:IntKind.u8.wrap x=x%256:=(by simp[IntKind.wrap,IntKind.bits,IntKind.signed]);rw[h,UInt8.toNat_ofNat'];omega
theorem E80.over {w w':World} {u:Value} {g:Nat} {zs:List UInt8} (h:E80 w u) (hg:w.grownBy w' (some g)) (hz:Arr w' g (aJ zs)) (hl:80≤zs.length):E80 w' u:=by
 obtain⟨d,cd,bs,rfl,h1,h2⟩:=h
 by_cases e:d=g
 ·subst e;obtain⟨a,c,e1,e2,e3,e4,-⟩:=h2;injection e1 with e5 e6 e7
  subst e5 e7;refine⟨d,cd,zs.take 80,rfl,by rw[zA15];omega,?_⟩;refine Sl.of_part (o:=0) (n:=80) (cap:=cd) (cs:=aJ (zs.take 80)) hz (by rw[ai,zA15];omega) (by rw[←h1,←ai];exact e2) e3 (fun j hj=>?_);rw[ai,zA15]at hj;rw[Nat.zero_add,aJ,aJ,List.map_take,List.getElem?_take,if_pos zOm]
 ·exact⟨d,cd,bs,rfl,h1,h2.keptN hg (fun a n c e2=>by cases e2;exact e)⟩
theorem Md.over {w w':World} {m p c g r s:Nat} {L bt:Int} {S:Stt} {v:Sv} {k:Nat} {zs:List UInt8} (h:Md w m p c g L r s S v bt) (hg:w.grownBy w' (some k)) (hz:Arr w' k (aJ zs)) (hl:80≤zs.length) (hm:k≠m) (hp:k≠p) (hc:k≠c) (hk:k<g):Md w' m p c g L r s S v bt:=by
 obtain⟨h1,⟨kk,o,h2⟩,⟨xs,h3,h4⟩,h5,B,h6,h7⟩:=h;exact⟨h1.kept hg hm,⟨kk,o,h2.kept hg hp⟩,⟨xs,h3.kept hg zOm,fun j hj=>by obtain⟨u,e1,e2⟩:=h4 j hj;exact⟨u,e1,e2.over hg hz hl⟩⟩,h5.kept hg hc,B,h6,h7.chM (Ch.of_gr (M:=[k]) hg zac) (fun j hj=>by rw[List.mem_singleton.1 hj];omega)⟩
theorem Tm (r s d k:Nat):fS r s d k=aJ (nb 32 r++(nb 32 s++(nb 32 d++nb 32 k))):=by
 rw[bE,bE,bE];simp only[←fB,dJ];rfl
theorem aci (seed:Int) (n:Nat) (h65:65≤n) (YL:n≤400) (r s d k:Nat) (Vl:OV seed=fS r s d k) (hd:d<256^32) (w:World) (G:Gl w):
 Calls Tryz.prog 5 #[.int .i64 seed,.int .i64 1,.int .i64 (n:Int),.int .i64 9] w fun e w'=>
  ∃(bs:List UInt8) (m p c g:Nat) (u lv:Value) (v':Sv) (B:Nat),e=.returned (.tuple #[.pointer (some ⟨m,0,none⟩),u,lv,.agg (fS r s d k).toArray,.bool true])∧bs.length=n∧Md w' m p c g 8 (ev r) d (Jj (jS r s d k 1 1 bs)) v' (-1)∧OBs B w' lv (oN (dC k 1) 1 bs)∧(g<B∧B≤w'.heap.size)∧w.heap.size≤g∧Below w.heap.size w w':=by
 have cS:=zH (fun w G=>show CB 13 #[.int .i64 seed] w (.agg (fS r s d k).toArray) from by rw[←Vl];exact Kx seed w G);have cR:=zH (fun w G=>show CB 14 #[.agg (fS r s d k).toArray] w (.agg (ag 32 (ev r)).toArray) from by rw[←dJ];exact FR r s d k w G);have cN:=zH (fun w=>show Calls Tryz.prog 10 #[.agg (ag 32 (ev r)).toArray,.agg (ag 32 d).toArray,.int .i64 9] w _ from HP (ev r) d 9 zDc zDc w);have cM:=zH (fun w g bs (h:bs.length=n) (G:Gl w) (hs:Sl w (.slice (some ⟨g,0,none⟩) n n) (aJ bs))=>show Calls Tryz.prog 15 #[.agg (fS r s d k).toArray,.int .i64 1,.int .i64 1,.slice (some ⟨g,0,none⟩) n n] w fun e w'=>∃u dl,e=.returned (.tuple #[u,dl,.int .i64 0])∧OB w.heap.size w' u (jS r s d k 1 1 bs)∧OBs w.heap.size w' dl (oN (dC k 1) 1 bs)∧Below w.heap.size w w' from by
  have q:=CU r s d k 1 1 (some ⟨g,0,none⟩) n bs zOm zOm zDc zDc zDc zDc (aaE s) hd (Mg _ _) w G (by rw[h];exact hs);rw[h]at q;exact q)
 have cF:=zH (fun m p c g a ca bs (h:bs.length=n) w hM dI=>N6 r s d k hd 1 1 zDc zDc zDc bs zOm zOm m p c g ((9:Nat):Int) zDc zDc a ca w hM dI);have ud:=mN n zOm;replace G:=zH G;replace ud:=zH ud;clear Vl hd;go_enter Tryz.func5,Tryz.ntmps5;go_upto_region 1 with fail
 refine aH (fun W aB k11 kb=>?_);replace k11:Arr W w.heap.size (fS 0 0 0 0):=k11;clear aB;have l11:=k11.lt;go_wp2_with fail;refine zQ (cS.out _ (G.out.below kb)) fun w1 hb=>?_;replace k11:=k11.below hb;have l11:=k11.lt;replace kb:=az kb hb;clear hb cS;go_upto_region 2 with(refine aD rfl _ _ _ rfl _ (fS r s d k) rfl rfl _ (Arr.new _ _ _) zcS (by rw[dS];rfl) (tQ _ _ _ _) (fun w2 k13 hg aB=>?_))
 have XH:=a9 hg;replace k11:=k11.below XH;have rK:=kb.size;replace kb:=az kb XH;clear hg aB XH;have l13:=k13.lt;obtain⟨g11,j8⟩:=zX w.heap.size;obtain⟨g13,U9⟩:=zX w1.heap.size;rw[j8]at k11 l11⊢;rw[U9]at k13 l11 l13⊢;have AN:Hid (g11=w.heap.size):=zH j8.symm;replace l11:=zH l11;have Vm:w.heap.size≤w2.heap.size:=kb.size;clear j8 U9;go_upto_region 2 with fail
 refine cH 9999 7 fun aP=>?_;refine dz ?_ 3 29 zaD [0,2,3,4] (fun w' hB=>by have y13:=k13.below hB;have yd:=KG (k13.below hB);exact zRm) ?_;refine eg 1 31 aP (cR.out _ (G.out.below (az kb aP))) fun i8 bn=>?_;have q2:=(bn).size;refine aY 5 63 rfl zDk (fun K hK=>?_);go_simp;refine(cN.out _).mono ?_;rintro e jF ⟨m,p,c,g,rfl,hM,Aw,dc⟩;have bB:=aW bn (zA0 _) dc;refine hK (fun w'=>Below (w2).heap.size (w2) w') _ _ bB (fun _ h=>h) ?_;clear hK K bn;try simp only[Act.put,zSa,zSz,zSs]
 refine dz ?_ 0 127 zaI [6] (fun _ _=>zRd) ?_;refine ap zKr ?_;replace k11:=k11.below bB;replace k13:=k13.below bB;replace kb:=az kb bB;have ac9:Hid (∀k,k∈ [p,c,g]→w.heap.size≤k∧g13<k):=zH (fun k hk=>by have:=Aw k hk;omega);replace hM:=zH hM;clear q2 Aw bB cR cN l13 Vm rK;generalize jF=w3 at*;have gM:=zH (show g<w3.heap.size∧p<w3.heap.size∧c<w3.heap.size from by
  obtain⟨-,⟨kk,o,kp⟩,hg,kc,-⟩:=hM.out;exact⟨hg.lt,kp.lt,kc.lt⟩)
 have af0:=ud.out w3;go_upto_region 4 with fail
 clear ud af0;have ba:=ae w3 (.cells (aJ (List.replicate n 0)).toArray 5);have k15:Arr (w3.alloc (.cells (aJ (List.replicate n 0)).toArray 5)) w3.heap.size (aJ (List.replicate n 0)):=Arr.new _ _ _;obtain⟨g15,Hm⟩:=zX w3.heap.size;rw[Hm]at k15 ba⊢;generalize w3.alloc (.cells (aJ (List.replicate n 0)).toArray 5)=w4 at*;replace Hm:=zH Hm;have hI:∃bs:List UInt8,bs.length=n∧Arr w4 g15 (aJ bs):=⟨_,by simp,k15⟩;clear k15;replace k11:=zH k11;replace k13:=zH k13;replace kb:=zH kb;have L5:(0:Int)≤(n:Int):=zOm;go_upto_region 5 with fail
 go_loopw[16] (fun iv wr=>∃(i:Nat),i≤n∧iv=.int .i64 (i:Int)∧(∃bs:List UInt8,bs.length=n∧Arr wr g15 (aJ bs))∧Below g15 w3 wr) (fun iv _=>n-(intOf iv).toNat)
 case atStart=>exact⟨0,by omega,rfl,hI,ba⟩
 case round=>
 clear hI ba;obtain⟨i,hi,rfl,⟨bs,fP,k15⟩,kb4⟩:=hrel
 by_cases iS:i<n
 ·have hiI:(i:Int)<(n:Int):=zOm;have i0:(0:Int)≤(i:Int):=zOm;obtain⟨b,hb⟩:=Ym ((i:Int)*7);have ew:IntKind.i64.wrap ((i:Int)*7)=(i:Int)*7:=i64_in ⟨by omega,by omega⟩;go_wp2_with(refine bM rfl _ _ _ rfl g15 i (.int .u8 (b.toNat:Int)) rfl rfl _ k15 zKr (by rw[ai,fP];exact iS) rfl (fun w7 k7 hg aB=>?_));have aL:(aJ bs).set i (.int .u8 (b.toNat:Int))=aJ (bs.set i b):=(by simp[aJ,List.map_set]);rw[aL]at k7;exact⟨⟨i+1,by omega,by go_num,⟨bs.set i b,by simp[fP],k7⟩,aq kb4 hg (zA0 _) (by have:=kb4.size;have:=Hm.out;omega)⟩,by simp[intOf];omega⟩
 ·have hiI:¬(i:Int)<(n:Int):=zOm;have kb5:Below w3.heap.size w3 wr:=(by rw[Hm.out];exact kb4);have k11:=k11.out.below kb5;have k13:=k13.out.below kb5;have hM:=zH (hM.out.below kb5);have kb:=az kb.out kb5;have dI:=zH (show Sl wr (.slice (some ⟨g15,0,none⟩) n n) (aJ bs)from Sl.ofArrN k15 fP zOm);replace fP:=zH fP;replace k11:=zH k11;replace AN:=zH AN;have Vd:=zH (show g<wr.heap.size∧p<wr.heap.size∧c<wr.heap.size from by have:=kb5.size;have:=gM.out;have:=Hm.out;omega);clear kb4 kb5 k15;go_wp2_with(refine ab rfl _ _ rfl _ rfl zDk _ k13 zcS ?_);refine(cM.out _ g15 bs fP.out (G.out.below kb) dI.out).mono ?_;rintro e w5 ⟨u,lv,rfl,hu,QR,hb⟩;obtain⟨gu,cu,rfl,-⟩:=gn (hu.n (zv r s d k 1 1 bs)) zDc;obtain⟨al,cl,rfl⟩:=QR.shp;have Z0:=zH (show Sl w5 (.slice (some ⟨gu,0,none⟩) 300 cu) (aJ (jS r s d k 1 1 bs))from hu.sl);replace QR:=zH QR;replace hM:=zH (hM.out.below hb)
  replace k11:=zH (k11.out.below hb);replace k13:=k13.below hb;replace kb:=az kb hb;have hBw:=zH hb.size;clear hb hu cM;go_wp2_with fail;refine(cF.out m p c g (some ⟨gu,0,none⟩) cu bs fP.out _ hM.out Z0.out).mono ?_;rintro e w6 ⟨x,rfl,hc,rfl,v',hM6⟩;have L6:∀k,k∈ [p,c]→w.heap.size≤k∧g13<k:=fun k hk=>ac9.out k (by simp at hk⊢;omega);have k11:=zH (k11.out.chm hc (fun h=>by have:=L6 _ h;have:=l11.out;omega));have k13:=k13.chm hc (fun h=>by have:=L6 _ h;omega);have kb:=Ch.to_below kb hc (fun k hk=>(L6 k hk).1) kb.size;have QR:=zH (QR.out.chM hc (fun k hk=>by have:=Vd.out;simp at hk;rcases hk with rfl|rfl<;>omega));have hBw:=zH (zA14 hBw.out hc.size);replace hM6:=zH hM6;have cQ:=zH (fun w=>(iW 0 w).mono (R':=fun e w'=>e=.returned (.int .i64 0)∧Below w.heap.size w w') (fun e w' h=>by obtain⟨rfl,rfl⟩:=h;exact⟨rfl,zA6 _ _⟩));clear L6 hc hM Z0 cF;go_upto_region 12 with fail
  refine cH 10 12 fun b9=>?_;refine eZ ?_ 7 31 zaJ [0,1,2,3,4] (fun w' hB=>by have y13:=k13.below hB;exact zRd) ?_;refine eg 5 63 b9 cQ.out fun m9 di=>?_;refine vU (A:=?_) 5 127 zKr zaK [6] zKr ?_ ?_;rotate_left
  ·intro w';iterate 1 (first|(refine db rfl rfl ?_;simp only[Act.put,zSa,zSz,zSs])|(refine cj (v:=?_) rfl rfl ?_ ?_;rotate_left;(focus (go_simp;try(with_reducible rfl)));simp only[Act.put,zSa,zSz,zSs]))
   exact eo
  refine eZ ?_ 2 1023 zaK [7,8,9] (fun _ _=>zRd) ?_;have b6:=di;have k11a:=k11.out.below b6;replace hM6:=zH (hM6.out.below b6);replace QR:=zH (QR.out.below b6);replace kb:=az kb b6;have hBw:=zH (zA14 hBw.out b6.size);clear b6;refine bf 2047 rfl zDk (fun K hK=>?_);refine gg rfl _ _ _ rfl g11 (fS r s d k) rfl rfl _ k11a zcS (by rw[dS,dS]) (tQ _ _ _ _) (fun w9 k9 hg aB=>?_);refine hK (fun _=>True) 9999 _ _ ?_;clear hK K;try simp only[Act.put]
  try simp only[zSa,zSz,zSs]
  refine eZ ?_ 0 4095 zaC [11] (fun _ _=>zRd) ?_;refine ap zKr ?_;have hk:=ac9.out;have Vc:=hk g zac;have hM9:=hM6.out.over hg (by rw[←Tm];exact k9) (by simp[aC]) (hM6.out.hm.ne (u:=.pointer (some ⟨p,0,none⟩)) (v:=.int .u8 0) k11a rfl zKr (fun e=>nomatch e)).symm (by have:=hk p zac;have:=l11.out;omega) (by have:=hk c zac;have:=l11.out;omega) (by have:=l11.out;omega);have hl9:=QR.out.chM (Ch.of_gr (M:=[g11]) hg zac) (fun k hk=>by rw[List.mem_singleton.1 hk];have:=Vd.out;have:=l11.out;omega);go_wp2_with fail;exact bodyPost_ret (Gc Tryz.results5 _ _ g11 rfl zDk _ k9 zcS) rfl ⟨bs,m,p,c,g,_,_,v',wr.heap.size,rfl,fP.out,hM9,hl9,⟨Vd.out.1,by rw[aB];exact hBw.out⟩,Vc.1,aq kb hg (by rw[AN.out];exact zA0 _) kb.size⟩
structure Lx (w:World) (B gl i gx cx:Nat) (ei:List UInt8):Prop where
 b:B≤gl
 a:∃xs,Arr w gl xs∧xs[i]? =some (.slice (some ⟨gx,0,none⟩) 80 cx)
 o:OB B w (.slice (some ⟨gx,0,none⟩) 80 cx) ei
theorem Lx.below {w w':World} {B gl i gx cx:Nat} {ei:List UInt8} (h:Lx w B gl i gx cx ei) (hb:Below w.heap.size w w'):Lx w' B gl i gx cx ei:=by
 obtain⟨h1,⟨xs,h2,h3⟩,h4⟩:=h;exact⟨h1,⟨xs,h2.below hb,h3⟩,h4.below hb⟩
theorem Lx.ch {w w':World} {B gl i gx cx g:Nat} {ei:List UInt8} (h:Lx w B gl i gx cx ei) (hc:Ch [g] w w') (hg:g<B):Lx w' B gl i gx cx ei:=by
 obtain⟨h1,⟨xs,h2,h3⟩,h4⟩:=h;exact⟨h1,⟨xs,h2.chm hc zab,h3⟩,tK h4 hc (fun k hk=>by rw[List.mem_singleton.1 hk];exact hg)⟩
theorem Lx.cell {w:World} {B gl i gx cx:Nat} {ei:List UInt8} (h:Lx w B gl i gx cx ei):w.cell? ⟨gl,i,none⟩=some (.slice (some ⟨gx,0,none⟩) 80 cx):=by
 obtain⟨h1,⟨xs,h2,h3⟩,h4⟩:=h;exact h2.cell h3
theorem Lx.of {w:World} {B:Nat} {lv:Value} {E:List (List UInt8)} {i:Nat} {ei:List UInt8} (h:OBs B w lv E) (hi:E[i]? =some ei) (hl:ei.length=80):∃gl cl gx cx,lv=.slice (some ⟨gl,0,none⟩) E.length cl∧Lx w B gl i gx cx ei:=by
 obtain⟨us,h1,h2⟩:=h;have Zx:=(zA18.1 hi).1;obtain⟨hu,⟨-,h3⟩|⟨g,cap,cur,rfl,h4,h5,h6,h7,h8,h9⟩⟩:=h1
 ·omega
 obtain⟨x,hx⟩:∃x,us[i]? =some x:=⟨us[i]'zOm,zA7 _⟩;have ho:=h2 i x ei hx hi;obtain⟨gx,cx,rfl,-⟩:=gn (ho.n hl) zDc;refine⟨g,cap,gx,cx,rfl,h4,⟨cur.toList,⟨_,by rw[Array.toArray_toList];exact h5⟩,?_⟩,ho⟩;rw[←h9,List.getElem?_take]at hx;split at hx
 ·exact hx
 ·cases hx
theorem OB.arr {B:Nat} {w:World} {v:Value} {bs:List UInt8} (h:OB B w v bs) (hl:bs.length=80):∃g c xs,v=.slice (some ⟨g,0,none⟩) 80 c∧Arr w g xs∧xs.take 80=aJ bs∧B≤g∧80≤xs.length∧80≤c∧c≤maxLen:=by
 have h':=h.n hl;obtain⟨hu,⟨-,h3⟩|⟨g,cap,cur,rfl,h4,h5,h6,h7,h8,h9⟩⟩:=h'
 ·omega
 exact⟨g,cap,cur.toList,rfl,⟨_,by rw[Array.toArray_toList];exact h5⟩,h9,h4,by rw[Array.length_toList];omega,h6,h7⟩
theorem VB (seed:Int) (n:Nat) (a2 a3:Int) (t:Nat) (y:UInt8) (a4:Int) (h65:65≤n) (YL:n≤400) (DJ:Int.tmod a4 80=(t:Int)) (ht:t<80) (h4:0≤a4) (hy:y.toNat≠0) (w:World) (G:Gl w):
 CB 3 #[.int .i64 seed,.int .i64 (n:Int),.int .i64 a2,.int .i64 a3,.int .i64 a4,.int .u8 (y.toNat:Int)] w (.bool true):=by
 have n1:¬(n:Int)<65:=zOm;have n2:¬(400:Int)<(n:Int):=zOm;have n4:¬a4<0:=zOm;have n5:((y.toNat:Int)==0)=false:=(by simpa using hy);have hd:xR seed (vS 2)<256^32:=MF _;have cF:=zH (fun w G=>aci seed n h65 YL (xR seed (vS 0)) (xR seed (vS 1)) (xR seed (vS 2)) (xR seed (vS 3)) rfl hd w G);replace hd:=zH hd;generalize xR seed (vS 0)=r at*;generalize xR seed (vS 1)=s at*;generalize xR seed (vS 2)=d at*;generalize xR seed (vS 3)=k at*;replace G:=zH G;clear h4 hy;go_enter Tryz.func3,Tryz.ntmps3;go_wp2_with fail;refine zQ (vY _) fun w1 kb=>?_;go_wp2_with fail;refine(cF.out _ (G.out.below kb)).mono ?_;rintro e w2 ⟨bs,m,p,c,g,u,lv,v',B,rfl,fP,hM,hl,Qx,AN,hb⟩;have hEl:(oN (dC k 1) 1 bs).length=mr n:=(by rw[oN,List.length_map,List.length_range,fP]);have hE8:∀l,l∈oN (dC k 1) 1 bs→l.length=80:=fun l h=>Lv h;obtain⟨N,hN⟩:=zX (mr n);have hN2:1≤N∧N≤32:=(by rw[←hN];exact wZ zOm zOm)
 obtain⟨al,cl,rfl⟩:=hl.shp;rw[hEl,hN]at hl⊢;generalize oN (dC k 1) 1 bs=E at*;rw[hN]at hEl;have hNb:Hid (mr bs.length=N):=zH (by rw[fP,hN]);have iG:Hid (0<bs.length∧bs.length≤2048):=zH zOm;replace AN:=zH (zA14 kb.size AN);replace kb:=az kb hb;replace hM:=zH hM;replace hl:=zH hl;replace Qx:=zH Qx;replace hE8:=zH hE8;clear hb cF fP hN h65 YL;go_upto_region 5 with(refine aD rfl _ _ _ rfl _ (fS r s d k) rfl rfl _ (Arr.new _ _ _) zcS (by rw[dS];rfl) (tQ _ _ _ _) (fun w3 k17 hg aB=>?_))
 have XH:=a9 hg;have ac2:=zH (show g≠w2.heap.size from by have:=Qx.out;omega);replace hM:=zH (hM.out.below XH);replace hl:=zH (hl.out.below XH);replace kb:=az kb XH;obtain⟨g17,adS⟩:=zX w2.heap.size;rw[adS]at k17 ac2⊢;clear hg aB XH adS
 by_cases c1:a2<0
 ·exact zc4
 by_cases c2:(N:Int)≤a2
 ·exact zc4
 by_cases c3:a3<0
 ·exact zc4
 by_cases c4:(N:Int)≤a3
 ·exact zc4
 obtain⟨i,rfl⟩:∃i:Nat,a2=(i:Int):=⟨a2.toNat,by omega⟩;obtain⟨j,rfl⟩:∃j:Nat,a3=(j:Int):=⟨a3.toNat,by omega⟩;obtain⟨ei,hei⟩:∃x,E[i]? =some x:=⟨E[i]'zOm,zA7 _⟩;have Xu:=hE8.out ei (List.mem_of_getElem? hei);obtain⟨gl,cl',gx,cx,QR,hx⟩:=Lx.of hl.out hei Xu;rw[hEl]at QR;injection QR with e1 e2 e3
 subst e1 e3;have ut:=zH (show g<w3.heap.size from hM.out.hg.lt);have x1:=hx.cell;have i0:(0:Int)≤(i:Int):=zOm;have i1:(i:Int)<(N:Int):=zOm;replace hx:=zH hx;clear hl hE8 hei;go_upto_region 8 with(refine jL (W:=w3) rfl _ _ rfl rfl rfl (OB.nil _ _) hx.out.o.sl (zA6 _ _) (by simp[Xu]) (fun v7 w7 h7 LI _=>?_))
 rw[List.nil_append]at h7;obtain⟨g9,c9,xs,rfl,k9,Rk,kP,vR,XJ,U5⟩:=h7.arr Xu;have AQ:t<ei.length:=zOm;have hxt:xs[t]? =some (.int .u8 ((ei[t].toNat:Nat):Int)):=by
  have q:(xs.take 80)[t]? =(aJ ei)[t]? :=(by rw[Rk]);rw[List.getElem?_take,if_pos ht]at q;rw[q,aJ,List.getElem?_map,zA7 AQ];rfl
 have x9:=k9.cell hxt;obtain⟨z,hz⟩:∃z:UInt8,bits .xor .u8 ((ei[t].toNat:Nat):Int) ((y.toNat:Nat):Int)=(z.toNat:Int):=Ym ((BitVec.ofInt 8 ((ei[t].toNat:Nat):Int) ^^^BitVec.ofInt 8 ((y.toNat:Nat):Int)).toNat:Int);have zu:(0:Int)≤(t:Int):=zOm;have vE:(t:Int)<80:=zOm;generalize ei[t]=et at*;replace Rk:=zH Rk;replace vR:=zH vR;replace XJ:=zH XJ;replace U5:=zH U5;go_upto_region 9 with(refine bM rfl _ _ _ rfl g9 t (.int .u8 (z.toNat:Int)) rfl rfl _ k9 zKr (by have:=vR.out;omega) rfl (fun w8 k8 AM agl=>?_))
 have kK:(ei.set t z).length=80:=(by rw[zA23,Xu]);have Dw:Sl w8 (.slice (some ⟨g9,0,none⟩) 80 c9) (aJ (ei.set t z)):=by
  refine Sl.of_part (o:=0) (n:=80) (cap:=c9) (cs:=aJ (ei.set t z)) k8 (by rw[ai,kK]) XJ.out U5.out (fun jj hj=>?_);rw[ai,kK]at hj;rw[Nat.zero_add,show aJ (ei.set t z)=(aJ ei).set t (.int .u8 (z.toNat:Int)) by simp[aJ,List.map_set],←Rk.out,←List.take_set,List.getElem?_take,if_pos hj]
 generalize ei.set t z=bb at*;have kb8:Below w3.heap.size w3 w8:=aq LI AM kP LI.size;have Np:=zH (show g9≠g from by have:=ut.out;omega);replace hM:=zH (hM.out.below kb8);replace hx:=zH (hx.out.below kb8);replace k17:=k17.below kb8;replace kb:=az kb kb8;replace Dw:=zH Dw;have x1:=hx.out.cell;clear kb8 Rk vR XJ U5 hz k8 LI AM agl x9 hxt k9 h7 zu vE DJ kP AQ ut;have dP:(79:Int)≤(cx:Int):=by
  obtain⟨a,c',e1,e2,-⟩:=hx.out.o.sl;injection e1 with e1 e2 e3
  rw[ai,Xu]at*;omega
 have j0:(0:Int)≤(j:Int):=zOm;have j1:(j:Int)<(N:Int):=zOm;have cK:=zH (fun w G=>CV r s d k 1 w G);have cX:=zH (fun w h=>CZ (dC k 1) 1 i (some ⟨g9,0,none⟩) c9 bb kK zDc ⟨i0,by omega⟩ w h);have cY:=zH (fun w h=>CZ (dC k 1) 1 j (some ⟨gx,0,none⟩) cx ei Xu zDc ⟨j0,by omega⟩ w h);have dX:=zH (fun w hM h=>HM r s d k hd.out 1 1 zDc zDc zDc bs iG.out.1 iG.out.2 m p c g 8 v' w hM (some ⟨g9,0,none⟩) c9 i zcU bb kK h);have dY:=zH (fun w hM h=>HM r s d k hd.out 1 1 zDc zDc zDc bs iG.out.1 iG.out.2 m p c g 8 v' w hM (some ⟨gx,0,none⟩) cx j zcU ei Xu h);have dN:=zH (fun w hM=>Co r s d k hd.out 1 1 zDc zDc zDc bs iG.out.1 iG.out.2 m p c g 8 v' w hM (some ⟨gx,0,none⟩) 80 cx N (.inr zcU));have dM:=zH (fun w hM=>Co r s d k hd.out 1 1 zDc zDc zDc bs iG.out.1 iG.out.2 m p c g 8 v' w hM (some ⟨gx,0,none⟩) 80 cx (-1) (.inl zDc))
 have dL:=zH (fun w hM=>HN r s d k hd.out 1 1 zDc zDc zDc bs iG.out.1 iG.out.2 m p c g 8 v' w hM (some ⟨gx,0,none⟩) 79 cx i i0 zcU 1 zDc (fun w' _=>NQ (dC k 1) 1 i (some ⟨gx,0,none⟩) 79 cx zDc (by simp[qm];omega) w'));obtain⟨X,hX⟩:∃X:Int,(if pF (dC k 1) (kM i) (bb.take 64) (bS [1])=bb.drop 64 then 0 else 10)=X:=⟨_,rfl⟩;obtain⟨Y,hY⟩:∃Y:Int,(if pF (dC k 1) (kM j) (ei.take 64) (bS [1])=ei.drop 64 then 0 else 10)=Y:=⟨_,rfl⟩;rw[hX]at cX dX;rw[hY]at cY dY;have hXv:X=0∨X=10:=(by rw[←hX];split<;>simp);have hYv:Y=0∨Y=10:=(by rw[←hY];split<;>simp);clear hX hY kK Xu hNb iG hd;generalize Jj (jS r s d k 1 1 bs)=SS at*;go_wp2_with(refine ab rfl _ _ rfl _ rfl zDk _ k17 zcS ?_);refine zQ (cK.out _ (G.out.below kb)) fun w9 hb=>?_;replace k17:=k17.below hb;clear x1;replace hM:=zH (hM.out.below hb);replace hx:=zH (hx.out.below hb);replace Dw:=zH (Dw.out.below hb)
 replace kb:=az kb hb;clear hb;go_wp2_with fail;refine(cX.out _ Dw.out).mono ?_;rintro e wA ⟨ux,rfl,hb⟩;replace k17:=k17.below hb;replace hM:=zH (hM.out.below hb);replace hx:=zH (hx.out.below hb);replace Dw:=zH (Dw.out.below hb);replace kb:=az kb hb;clear hb cX;go_upto_region 10 with fail
 refine cH 9999 13 fun aP=>?_;refine dz ?_ 7 125 zaD [0,2,3,4,5,6] (fun w' hB=>by have y17:=k17.below hB;have bo:=(hx.out.below hB).cell;exact zRd) ?_;refine eg 1 127 aP (cK.out _ (G.out.below (az kb aP))) fun i8 bn=>?_;refine aY 7 255 rfl zDk (fun K hK=>?_);go_simp;refine(cY.out _ (hx.out.below bn).o.sl).mono ?_;rintro e jF ⟨uy,rfl,dc⟩;have bB:=aW bn (zA0 _) dc;refine hK (fun w'=>Below (wA).heap.size (wA) w') _ _ bB (fun _ h=>h) ?_;clear hK K bn;try simp only[Act.put,zSa,zSz,zSs]
 refine dz ?_ 0 8191 zaI [8,9,10,11,12] (fun _ _=>zRd) ?_;refine ap zKr ?_;have hb:=bB;replace hM:=zH (hM.out.below hb);replace hx:=zH (hx.out.below hb);replace Dw:=zH (Dw.out.below hb);replace kb:=az kb hb;have x1:=hx.out.cell;clear hb k17 cK cY;go_wp2_with fail;refine(dL.out _ hM.out).mono ?_;rintro e wL ⟨rfl,hc,hM2⟩;clear x1;replace hM:=zH hM2;replace hx:=zH (hx.out.ch hc Qx.out.1);replace Dw:=zH (Dw.out.ch hc (fun a n c e=>by injection e with e;injection e with e;rw[←e];simpa using Np.out));replace kb:=Ch.to_below kb hc (fun k hk=>by rw[List.mem_singleton.1 hk];exact AN.out) kb.size;have x1:=hx.out.cell;clear hc hM2;clear dL;go_wp2_with fail;refine(dN.out _ hM.out).mono ?_;rintro e wN ⟨rfl,hc,hM2⟩;clear x1;replace hM:=zH hM2;replace hx:=zH (hx.out.ch hc Qx.out.1);replace Dw:=zH (Dw.out.ch hc (fun a n c e=>by injection e with e;injection e with e;rw[←e];simpa using Np.out))
 replace kb:=Ch.to_below kb hc (fun k hk=>by rw[List.mem_singleton.1 hk];exact AN.out) kb.size;have x1:=hx.out.cell;clear hc hM2;clear dN;go_wp2_with fail;refine(dM.out _ hM.out).mono ?_;rintro e wM ⟨rfl,hc,hM2⟩;clear x1;replace hM:=zH hM2;replace hx:=zH (hx.out.ch hc Qx.out.1);replace Dw:=zH (Dw.out.ch hc (fun a n c e=>by injection e with e;injection e with e;rw[←e];simpa using Np.out));replace kb:=Ch.to_below kb hc (fun k hk=>by rw[List.mem_singleton.1 hk];exact AN.out) kb.size;have x1:=hx.out.cell;clear hc hM2;clear dM;go_wp2_with fail;refine(dY.out _ hM.out hx.out.o.sl).mono ?_;rintro e wY ⟨rfl,hc,hM2⟩;clear x1;replace hM:=zH hM2;replace hx:=zH (hx.out.ch hc Qx.out.1);replace Dw:=zH (Dw.out.ch hc (fun a n c e=>by injection e with e;injection e with e;rw[←e];simpa using Np.out));replace kb:=Ch.to_below kb hc (fun k hk=>by rw[List.mem_singleton.1 hk];exact AN.out) kb.size
 have x1:=hx.out.cell;clear hc hM2;clear dY;go_wp2_with fail;refine(dX.out _ hM.out Dw.out).mono ?_;rintro e wX ⟨rfl,hc,hM2⟩;clear x1;replace hM:=zH hM2;replace hx:=zH (hx.out.ch hc Qx.out.1);replace Dw:=zH (Dw.out.ch hc (fun a n c e=>by injection e with e;injection e with e;rw[←e];simpa using Np.out));replace kb:=Ch.to_below kb hc (fun k hk=>by rw[List.mem_singleton.1 hk];exact AN.out) kb.size;have x1:=hx.out.cell;clear hc hM2;clear dX;clear x1 hM hx Dw Qx AN Np G ac2;rcases hXv with rfl|rfl<;>rcases hYv with rfl|rfl
 ·skip;exact zcY
 ·skip;exact zem
 ·skip;exact zem
 ·skip;go_wp2_with fail;refine zQ (iW _ _) fun wq hw=>?_;obtain rfl:=hw;exact zem
theorem AD (a0 a1 a2 a3 a4 a5:Int) (w:World) (_:(Lit.int .i64 a0).wf=true) (_:(Lit.int .i64 a1).wf=true) (_:(Lit.int .i64 a2).wf=true) (_:(Lit.int .i64 a3).wf=true) (_:(Lit.int .i64 a4).wf=true) (w5:(Lit.int .u8 a5).wf=true) (G:Gl w):
 CB 3 #[.int .i64 a0,.int .i64 a1,.int .i64 a2,.int .i64 a3,.int .i64 a4,.int .u8 a5] w (.bool true):=by
 have w5':=aeS w5;clear w5
 by_cases h1:a1<65
 ·skip;exact zdF
 by_cases h2:400<a1
 ·skip;exact zdF
 by_cases h3:a4<0
 ·skip;exact zdF
 by_cases h5:a5=0
 ·subst h5;exact zdF
 obtain⟨n,rfl⟩:∃n:Nat,a1=(n:Int):=⟨a1.toNat,by omega⟩;obtain⟨y,rfl⟩:∃y:UInt8,a5=(y.toNat:Int):=⟨UInt8.ofNat a5.toNat,by rw[UInt8.toNat_ofNat'];omega⟩;exact VB a0 n a2 a3 (a4%80).toNat y a4 zOm zOm zbA zOm zOm zOm w G
theorem jl {P:Program} {W:World} {name:String} {k:IntKind} {zs:List Int} {g n:Nat} {t e:TypeId}
 (hp:(([(name,Lib.tabData k zs)]:List (String×DataW Unit)).all fun x=>x.2.handleName?.isNone)=true)
 (hg:P.globalNamed name=some g) (hty:(P.globals[g]?).map (·.type)=some t) (ht:P.underlying t=some (.array n e)) (he:P.underlying e=some (.int k)) (rI:P.cellsOf e=1) (hct:P.cellsOf t=n) (hz:0<zs.length)
 (h:laidMetH P [(name,Lib.tabData k zs)] W):Arr W g (zs.map fun z=>.int k z):=by
 rw[MakeChecks.laidMetH_plain _ _ _ hp]at h;have h0:=Lib.tabIs_of_head hg hty ht he rI hct h;obtain⟨ps,⟨g',t',cs,fuel,p,q,XP,ht',ags,hd,_,rfl⟩,_,GH⟩:=h;obtain rfl:=Option.some.inj (hg.symm.trans XP);unfold Lib.TabIs at h0;obtain rfl:=Option.some.inj (ags.symm.trans h0);have hm:MemPlace.cell g 0∈MemPlace.row ⟨g,0,none⟩ (zs.map fun z=>Value.int k z).toArray.size++p++q:=by
  refine List.mem_append_left _ (List.mem_append_left _ ?_);simp[MemPlace.row];exact hz
 obtain⟨⟨c,t2,hb⟩,_⟩:=GH g 0 hm;simp only[World.var?,hg,Option.bind_some,hb]at h0;exact⟨t2,by rw[hb,Option.some.inj h0]⟩
def zNs (l:List Nat):List Int:=l.map fun(x:Nat)=>(x:Int)
theorem aa8 (l:List Nat):((zNs l).map fun z=>Value.int .u32 z)=ws l:=by simp[zNs,ws]
theorem aa7 (l:List Nat):((zNs l).map fun z=>Value.int .u64 z)=wd l:=by simp[zNs,wd]
section
variable {W:World} (h:laidMetH Tryz.prog Rows.modelWrongRow.laid W)
include h
theorem Pz:Arr W 0 (ws ju):=by
 have h1:=h.filter (fun x=>x.1== "portcullis/portcullisref1.k256");rw[show Rows.modelWrongRow.laid.filter (fun x=>x.1== "portcullis/portcullisref1.k256")=[("portcullis/portcullisref1.k256",Lib.tabData .u32 (zNs ju))]from by kernel_rfl]at h1;rw[←aa8];exact jl (t:=101) (e:=98) (n:=64) zKr zKr zKr Tryz.underlying101 Tryz.underlying98 zKr zKr zDc h1
theorem PA:Arr W 5 (wd nE):=by
 have h1:=h.filter (fun x=>x.1== "portcullis/portcullisref1.k512");rw[show Rows.modelWrongRow.laid.filter (fun x=>x.1== "portcullis/portcullisref1.k512")=[("portcullis/portcullisref1.k512",Lib.tabData .u64 (zNs nE))]from by kernel_rfl]at h1;rw[←aa7];exact jl (t:=233) (e:=225) (n:=80) zKr zKr zKr Tryz.underlying233 Tryz.underlying225 zKr zKr zDc h1
theorem UN:Arr W 7 (el (gS 32 qN)):=by
 have h1:=h.filter (fun x=>x.1== "portcullis/portcullisref3.order");rw[show Rows.modelWrongRow.laid.filter (fun x=>x.1== "portcullis/portcullisref3.order")=[("portcullis/portcullisref3.order",Lib.tabData .i64 (gS 32 qN))]from by kernel_rfl]at h1;exact jl (t:=281) (e:=3) (n:=32) zKr zKr zKr Tryz.underlying281 Tryz.underlying3 zKr zKr zDc h1
theorem UO:Arr W 6 (el (dQ iN)):=by
 have h1:=h.filter (fun x=>x.1== "portcullis/portcullisref3.rootOfMinusOne");rw[show Rows.modelWrongRow.laid.filter (fun x=>x.1== "portcullis/portcullisref3.rootOfMinusOne")=[("portcullis/portcullisref3.rootOfMinusOne",Lib.tabData .i64 (dQ iN))]from by kernel_rfl]at h1;exact zdD
theorem Ys:Arr W 1 (el (dQ MY)):=by
 have h1:=h.filter (fun x=>x.1== "portcullis/portcullisref3.baseX");rw[show Rows.modelWrongRow.laid.filter (fun x=>x.1== "portcullis/portcullisref3.baseX")=[("portcullis/portcullisref3.baseX",Lib.tabData .i64 (dQ MY))]from by kernel_rfl]at h1;exact zdD
theorem Yt:Arr W 2 (el (dQ MZ)):=by
 have h1:=h.filter (fun x=>x.1== "portcullis/portcullisref3.baseY");rw[show Rows.modelWrongRow.laid.filter (fun x=>x.1== "portcullis/portcullisref3.baseY")=[("portcullis/portcullisref3.baseY",Lib.tabData .i64 (dQ MZ))]from by kernel_rfl]at h1;exact zdD
theorem Yu:Arr W 4 (el (dQ dN)):=by
 have h1:=h.filter (fun x=>x.1== "portcullis/portcullisref3.d");rw[show Rows.modelWrongRow.laid.filter (fun x=>x.1== "portcullis/portcullisref3.d")=[("portcullis/portcullisref3.d",Lib.tabData .i64 (dQ dN))]from by kernel_rfl]at h1;exact zdD
theorem acm:Gl W:=⟨Pz h,PA h,UN h,UO h,Ys h,Yt h,Yu h⟩
end
end Go.Proofs.YtgfkgolafkdjfaaGreatDoor
