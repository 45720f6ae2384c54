/- ModelWrong: part 23 of its proof: lemmas and contracts, each with its conditions in its own statement; the last part holds the law itself. -/
import Derived.Test.YtgfkgolafkdjfaaGreatDoorJv22
import Derived.Lib.MakeNoZero
import Derived.Laws.Externs
import Derived.Lib.SlBytesConst
import Derived.ScopeJumps

set_option maxHeartbeats 4000000
set_option maxRecDepth 100000
namespace Go.Proofs.YtgfkgolafkdjfaaGreatDoor
open Go.RowKit
theorem Sl.head {w:World} {b o c m:Nat} {bs:List UInt8} (h:Sl w (.slice (some ⟨b,o,none⟩) bs.length c) (aJ bs)) (hm:m≤bs.length):Sl w (.slice (some ⟨b,o,none⟩) m c) (aJ (bs.take m)):=by
 obtain⟨a',c',h1,h2,h3,h4,h5⟩:=h;simp only[Value.slice.injEq]at h1;obtain⟨rfl,-,rfl⟩:=h1;rw[ai]at h2;have hl:(bs.take m).length=m:=za6;refine⟨_,c,by rw[ai,hl],by rw[ai,hl];omega,h3,h4,fun x hx j u hu=>h5 x hx j u ?_⟩;have hj:j<m:=by
  exact ze7
 rw[←hu];simp[aJ,hj]
theorem Sl.tail {w:World} {b o c m:Nat} {bs:List UInt8} (h:Sl w (.slice (some ⟨b,o,none⟩) bs.length c) (aJ bs)) (hm:m≤bs.length):Sl w (.slice (some ⟨b,o+m,none⟩) (bs.length-m) (c-m)) (aJ (bs.drop m)):=by
 obtain⟨a',c',h1,h2,h3,h4,h5⟩:=h;simp only[Value.slice.injEq]at h1;obtain⟨rfl,-,rfl⟩:=h1;rw[ai]at h2;have hl:(bs.drop m).length=bs.length-m:=List.length_drop;refine⟨_,c-m,by rw[ai,hl],by rw[ai,hl];omega,by omega,fun h=>zaa,fun x hx j u hu=>?_⟩;cases hx;have hj:j<bs.length-m:=by
  exact ze7
 have:=h5 _ rfl (m+j) u (by rw[←hu];simp[aJ]);rw[Addr.add_lit]at this⊢;rw[Nat.add_assoc];exact this
def pF (k n:Nat) (bs side:List UInt8):List UInt8:=(bF 256 16 (De k n bs side)).map UInt8.ofNat
def Pv (k n m:Nat) (p t side:List UInt8) (w:World) (e:Ending) (w':World):Prop:=
 if pF k n p side=t then ∃g,e=.returned (.tuple #[.slice (some ⟨g,0,none⟩) m m,.int .i64 0])∧w.heap.size≤g∧Arr w' g (aJ (ID k 1 n p))else e=.returned (.tuple #[.slice none 0 0,.int .i64 10])
theorem DZ (k n:Nat) (a1 a2:Option Addr) (c1 c2:Nat) (bs side:List UInt8) (l1:bs.length≤100000) (l2:side.length≤100000) (Hi:16≤bs.length) (w:World) (h1:Sl w (.slice a1 bs.length c1) (aJ bs)) (h2:Sl w (.slice a2 side.length c2) (aJ side)):
 Calls Tryz.prog 131 #[.agg (ag 32 k).toArray,.agg (ag 12 n).toArray,.slice a1 bs.length c1,.slice a2 side.length c2] w fun e w'=>
  Pv k n (bs.length-16) (bs.take (bs.length-16)) (bs.drop (bs.length-16)) side w e w'∧Below w.heap.size w w':=by
 have aI:=h1.len;rw[ai]at aI;obtain⟨b,o,rfl,-,-,-,-⟩:=h1.at zaV;obtain⟨m,hm⟩:=zX (bs.length-16);have hd:=zH (h1.head (m:=m) zOm);have tl:=zH (h1.tail (m:=m) zOm);have nu:Hid ((bs.take m).length=m):=zH za6;have ue:Hid ((bs.drop m).length=16):=zH za2;obtain⟨p,hp⟩:=zX (bs.take m);obtain⟨t,ht⟩:=zX (bs.drop m);rw[show bs.length-m=16 by omega]at tl;rw[hm];rw[hp]at hd nu⊢;rw[ht]at tl ue⊢;obtain⟨L,hL⟩:=zX bs.length;rw[hL]at aI l1 Hi hm⊢;have hLm:(L:Int)-16=(m:Int):=zOm;have m0:(0:Int)≤(m:Int):=zOm;have m1:¬(m:Int)<0:=zOm;have m2:(m:Int)≤(c1:Int):=zOm;have m3:(m:Int)≤(L:Int):=zOm;have m4:¬c1=m:=zOm;have m5:L-m=16:=zOm;have s2:=zH h2;clear h1 h2 hp ht hL;go_enter Tryz.func131,Tryz.ntmps131;go_upto_region 1 with fail
 refine be (fun W aB k4 k5 kb=>?_);have k4:Arr W w.heap.size (ag 32 k):=k4;have k5:Arr W (w.heap.size+1) (ag 12 n):=k5;clear aB;replace hd:=zH (hd.out.below kb);replace tl:=zH (tl.out.below kb);replace s2:=zH (s2.out.below kb);go_upto_region 4 with fail
 obtain⟨T,hT⟩:=zX (De k n p side);have cT:=zH (show ∀w',Below W.heap.size W w'→CB 174 #[.agg (ag 32 k).toArray,.agg (ag 12 n).toArray,.slice (some ⟨b,o,none⟩) m c1,.slice a2 side.length c2] w' (.agg (ag 16 T).toArray) from fun w' hb=>by
  have q:=PB k n (some ⟨b,o,none⟩) a2 c1 c2 p side zbY l2 w' zbZ (s2.out.below hb);rw[nu.out,hT]at q;exact q)
 have hTt:Hid (pF k n p side=(bF 256 16 T).map UInt8.ofNat):=zH (by rw[pF,hT]);clear hT;refine cH 8 9 fun aP=>?_;refine eZ ?_ 3 63 zaD [0,1,2,3,4,5] (fun w' hB=>by have y4:Arr w' w.heap.size (ag 32 k):=k4.below hB;have y5:Arr w' (w.heap.size+1) (ag 12 n):=k5.below hB;exact zRd) ?_;refine bG 1 255 [(6,23),(7,11)] [(false,[]),(false,[])] [(6,Ph.is (.agg (ag 16 T).toArray)),(7,Ph.arr W.heap.size (ag 16 0))] zKr zKr zaA ?_ ?_
 ·refine⟨⟨_,rfl,?_⟩,⟨_,rfl,?_⟩,trivial⟩
  ·intro vs w1 hS hE hD K hK;clear hD;simp only[aG,Act.put,zSa,zSz,zSs]at hK⊢;go_simp;refine zQ (cT.out _ hS) fun w2 hb2=>?_;exact zdH
  ·exact zcV
 intro vs aeO zU P5 hP hD;obtain⟨q6,q7,-⟩:=hP;simp only[aG,Act.put,zSa,zSz,zSs];rw[show vs 6=_ from q6];clear q6;obtain⟨g7,e7,lW,LF⟩:=q7;rw[e7];clear e7 hD vs;refine bf 511 rfl zDk (fun K hK=>?_);have kb9:=zU;clear zU cT P5;refine gg rfl _ _ _ rfl g7 (ag 16 T) rfl rfl _ LF zbx za3 (bm _ _) (fun w9 k11 hg aB=>?_);have fO:=aq kb9 hg lW kb9.size;refine hK (fun _=>True) 9999 _ _ ?_;clear hK K;try simp only[Act.put]
 try simp only[zSa,zSz,zSs]
 refine ap zKr ?_;have hWs:=kb.size;replace k4:=k4.below fO;replace k5:=k5.below fO;replace hd:=zH (hd.out.below fO);replace tl:=zH (tl.out.below fO);replace kb:=az kb fO;clear hg aB fO kb9 LF;obtain⟨tB,htB⟩:=zX ((bF 256 16 T).map UInt8.ofNat);have ZY:Hid (tB.length=16):=zH (by rw[←htB];simp[bj]);have kt:=zH (Sl.ofArrN (m:=16) (l:=tB) (by rw[←htB,←sd];exact k11) ZY.out zDc);rw[htB]at hTt;clear htB k11;have cS:=zH (show ∀w',Below w9.heap.size w9 w'→CB 175 #[.slice (some ⟨g7,0,none⟩) 16 16,.slice (some ⟨b,o+m,none⟩) 16 (c1-m)] w' (.bool (decide (tB=t))) from fun w' hb=>by
  have q:=Oc (some ⟨g7,0,none⟩) (some ⟨b,o+m,none⟩) 16 (c1-m) tB t w' (by rw[ZY.out];exact kt.out.below hb) (by rw[ue.out];exact tl.out.below hb);rw[ZY.out,ue.out]at q;exact q)
 go_upto_region 5 with fail
 refine cH 9999 6 fun bn=>?_;refine dz ?_ 2 15 za0 [0,1,2,3] (fun _ _=>zRd) ?_;refine eg 4 31 bn (cS.out _ bn) fun jF bB=>?_
 by_cases Jv:tB=t
 rotate_left
 ·rw[decide_eq_false Jv];refine dz ?_ 0 63 zaI [5] (fun _ _=>zRd) ?_;refine ap zKr ?_;have kb:=az kb bB;go_wp2_with fail;go_ret2;exact⟨by unfold Pv;rw[if_neg (by rw[hTt.out];exact Jv)];rfl,kb⟩
 rw[decide_eq_true Jv];refine dz ?_ 0 63 zaI [5] (fun _ _=>zRd) ?_;refine ap zKr ?_;replace k4:=k4.below bB;replace k5:=k5.below bB;replace hd:=zH (hd.out.below bB);replace kb:=az kb bB;have ie:=kb.size;clear bB cS kt tl;obtain⟨wA,hwA⟩:=zX jF;rw[hwA]at k4 k5 hd kb ie⊢;clear hwA;have cU:=zH (show ∀w',Below wA.heap.size wA w'→Calls Tryz.prog 176 #[.agg (ag 32 k).toArray,.int .i64 1,.agg (ag 12 n).toArray,.slice (some ⟨b,o,none⟩) m c1] w' fun e w2=>∃g,e=.returned (.slice (some ⟨g,0,none⟩) m m)∧w'.heap.size≤g∧Arr w2 g (aJ (ID k 1 n p))∧Below w'.heap.size w' w2 from fun w' hb=>by
  have q:=M9 k n 1 (some ⟨b,o,none⟩) c1 p zDc zbY w' zbZ;rw[nu.out]at q;exact q)
 go_upto_region 7 with fail
 refine cH 9999 8 fun b9=>?_;refine dz ?_ 3 31 zaJ [0,1,2,3,4] (fun w' hB=>by obtain⟨y4,y5⟩:=fZ k4 k5 hB;exact zRd) ?_;refine aY 5 63 rfl zDk (fun K hK=>?_);go_simp;refine(cU.out _ b9).mono ?_;rintro e m9 ⟨gU,rfl,hgU,kU,gH⟩;have di:=aW b9 (zA0 _) gH;refine hK (fun w'=>Below (wA).heap.size (wA) w') _ _ di (fun _ h=>h) ?_;clear hK K b9;try simp only[Act.put,zSa,zSz,zSs]
 refine dz ?_ 0 255 zaK [6,7] (fun _ _=>zRd) ?_;refine ap zKr ?_;have kb:=az kb di;go_wp2_with fail;go_ret2;exact⟨by unfold Pv;rw[if_pos (by rw[hTt.out];exact Jv)];exact⟨gU,rfl,zA14 ie hgU,kU⟩,kb⟩
theorem TY (k n:Nat) (bs side:List UInt8):(pF k n bs side).length=16:=by simp[pF,bj]
theorem PH {x y:Nat} (hx:x<18446744073709551616) (hy:y<18446744073709551616) (w:World):
 Calls Tryz.prog 95 #[.int .u64 (x:Int),.int .u64 (y:Int)] w fun e w'=>e=.returned (.tuple #[.int .u64 ((x*y/18446744073709551616:Nat):Int),.int .u64 ((x*y%18446744073709551616:Nat):Int)])∧w'=w:=by
 have c1:=zH (HW x y hx hy w);obtain⟨h,hh⟩:=zX (x*y/18446744073709551616);obtain⟨l,hl⟩:=zX (x*y%18446744073709551616);rw[hh,hl]at c1⊢;clear hh hl hx hy;go_enter Tryz.func95,Tryz.ntmps95;go_wp2_with fail;refine c1.out.mono ?_;rintro e w' ⟨rfl,rfl⟩;clear c1;go_wp2_with fail;go_ret2;exact⟨rfl,rfl⟩
theorem Vy (n:Nat) (hn:n≤281474976710656) (w:World):∃cs:List Value,(callFunc 96 #[.int .i64 (n:Int)]).run Tryz.prog w=.ok (.value (.slice (some ⟨w.heap.size,0,none⟩) n cs.length)) ((w.alloc (.cells cs.toArray 5)).drew.drew)∧n≤cs.length∧(n≤maxLen→cs.length≤maxLen):=by
 obtain⟨cs,h1,h2,h3⟩:=Lib.run_makeNoZero (P:=Tryz.prog) w #[3] 24 5 Tryz.underlying24 n hn;refine⟨cs.toList,?_,by simpa using h2,by simpa using h3⟩;rw[run_callFunc_extern (P:=Tryz.prog) (f:=96) (fn:=Tryz.f96) zKr zKr zKr zKr (e:=Extern.BytealgMakeNoZero.makeNoZero #[3] #[24]) zKr,h1];simp;rfl
theorem EW {P:Program} {w:World} {ops:Array Oper} {rest:List Oper} {o:Oper} {a:Act} {Q:Exit→Act→World→Prop} (hw:Region.wanted o (yielded ops a.tmps)=true) (d s:Operand) (dT sT:TypeId)
 (ho:o.op=.call {callee:=.builtin .copy,args:=#[d,s],argTypes:=#[dT,sT]}) (elem:TypeId) (hu:P.underlying dT=some (.slice elem)) (aB:(P.info? elem).map (·.size)=some 1)
 (g off dLen dCap:Nat) (hd:a.eval d=.slice (some ⟨g,off,none⟩) dLen dCap) (xs:List Value) (hg:Arr w g xs) (uV:off+dLen≤xs.length) (vs:Value) (hs:a.eval s=vs) (full:List Value) (dI:Sl w vs full) (h1:∀v∈full,v.oneCell'=true)
 (k:Nat) (hk:(full.take dLen).length=k) (ys:List Value) (GI:xs.take off++full.take dLen++xs.drop (off+k)=ys)
 (h:∀W:World,Arr W g ys→w.grownBy W (some g)→W.heap.size=w.heap.size→wpList P ops Q rest (a.put o.dst (.int .i64 (k:Int))) W):wpList P ops Q (o::rest) a w:=by
 refine nc hw d s dT sT ho elem hu aB g off dLen dCap hd xs hg uV vs hs full dI h1 ?_;rw[hk,GI];exact h _ (hg.setRow ys) (mW w g _) zaQ
theorem mu {P:Program} {w:World} {ops:Array Oper} {o:Oper} {a:Act} {K:Act→World→Prop} {Q:Exit→Act→World→Prop} {E:Prop} (hw:Region.wanted o (yielded ops a.tmps)=true) (d s:Operand) (dT sT:TypeId)
 (ho:o.op=.call {callee:=.builtin .copy,args:=#[d,s],argTypes:=#[dT,sT]}) (elem:TypeId) (hu:P.underlying dT=some (.slice elem)) (aB:(P.info? elem).map (·.size)=some 1)
 (g off dLen dCap:Nat) (hd:a.eval d=.slice (some ⟨g,off,none⟩) dLen dCap) (xs:List Value) (hg:Arr w g xs) (uV:off+dLen≤xs.length) (vs:Value) (hs:a.eval s=vs) (full:List Value) (dI:Sl w vs full) (h1:∀v∈full,v.oneCell'=true)
 (k:Nat) (hk:(full.take dLen).length=k) (ys:List Value) (GI:xs.take off++full.take dLen++xs.drop (off+k)=ys)
 (h:∀W:World,Arr W g ys→w.grownBy W (some g)→W.heap.size=w.heap.size→K (a.put o.dst (.int .i64 (k:Int))) W):if Region.wanted o (yielded ops a.tmps)=true then Oper.wp P o a w K Q else E:=by
 refine gf hw d s dT sT ho elem hu aB g off dLen dCap hd xs hg uV vs hs full dI h1 ?_;rw[hk,GI];exact h _ (hg.setRow ys) (mW w g _) zaQ
theorem xD (n:Nat) (x:UInt8):aJ (List.replicate n x)=List.replicate n (.int .u8 (x.toNat:Int)):=by simp[aJ]
theorem Ii {n N k m:Nat} {x:UInt8} {pad:List Value} (hk:n+k≤N) (hm:(aJ (List.replicate n x)++pad).length=m) (hN:N≤m):
 ∃pad',(aJ (List.replicate n x)++pad).take n++aJ (List.replicate k x)++(aJ (List.replicate n x)++pad).drop (n+(aJ (List.replicate k x)).length)=aJ (List.replicate (n+k) x)++pad'∧(aJ (List.replicate (n+k) x)++pad').length=m:=by
 refine⟨(aJ (List.replicate n x)++pad).drop (n+(aJ (List.replicate k x)).length),?_,?_⟩
 ·rw[List.take_append_of_le_length (by simp[aJ]),zA8 (by simp[aJ]),←List.replicate_append_replicate,bE]
 ·rw[zA5,List.length_drop,hm];simp[aJ]at*;omega
theorem Kr (a:Option Addr) (x:UInt8) (n:Nat) (h0:0<n) (hn:n≤1000000) (w:World) (hs:Sl w (.slice a 1 1) (aJ [x])):
 Calls Tryz.prog 53 #[.slice a 1 1,.int .i64 (n:Int)] w fun e w'=>
  ∃g pad,e=.returned (.slice (some ⟨g,0,none⟩) n n)∧w.heap.size≤g∧Arr w' g (aJ (List.replicate n x)++pad)∧Below w.heap.size w w':=by
 have cm:=zH (PH (x:=1) (y:=n) zDc zOm w);rw[Nat.one_mul,show n/18446744073709551616=0 by omega,show n%18446744073709551616=n by omega]at cm;obtain⟨cs,ud,jX,pH⟩:=Vy n zOm w;have ye:=pH zbW;have n0:(0:Int)<(n:Int):=zOm;have n1:(n:Int)≤1000000:=zOm;have nw:IntKind.u64.wrap (n:Int)=(n:Int):=zbG;have nz:((n:Int)==0)=false:=zab;have nw2:IntKind.i64.wrap (n:Int)=(n:Int):=i64_in zOm;have mM:(Tryz.prog.info? 5).map (·.size)=some 1:=zKr;replace mM:=zH mM;replace hs:=zH hs;have lU:=zH (show n≤cs.length from jX);have hcI:(n:Int)≤(cs.length:Int):=zOm;unfold maxLen at ye;clear jX pH;go_enter Tryz.func53,Tryz.ntmps53;go_wp2_with fail;refine cm.out.mono ?_;rintro e w ⟨rfl,rfl⟩;clear cm;have AM:∀ {w0:World} (o:Obj),Below w0.heap.size w0 ((w0.alloc o).drew.drew):=fun o=>((ae _ o).drew).drew
 by_cases h8:8192<n
 ·have n8:(8192:Int)<(n:Int):=zOm;go_upto_region 16 with fail
  obtain⟨c,hc⟩:∃c:Nat,(8192:Int)=(c:Int):=⟨8192,rfl⟩;rw[hc];have Aa:0<c:=zOm;clear hc n8 h8;go_upto_region 17 with fail
  have kb:=AM (w0:=w) (.cells cs.toArray 5);have k9:Arr ((w.alloc (.cells cs.toArray 5)).drew.drew) w.heap.size cs:=Arr.new w cs.toArray 5;have hsW:=zH (hs.out.below kb);generalize (w.alloc (.cells cs.toArray 5)).drew.drew=W at*;obtain⟨g,hg⟩:=zX w.heap.size;rw[hg]at k9⊢;have rK:w.heap.size≤g:=zOm;clear ud hg hs AM;go_wp2_with(refine EW rfl _ _ 24 24 rfl 5 Tryz.underlying24 mM.out g 0 n n rfl _ k9 (by have:=lU.out;omega) _ rfl _ hsW.out (dr [x]) 1 zb0 (aJ (List.replicate 1 x)++cs.drop 1) zb1 (fun W2 k9 hg aB=>?_));replace kb:=aq kb hg rK kb.size;have aI:(aJ (List.replicate 1 x)++cs.drop 1).length=cs.length:=by
   have:=lU.out;simp[aJ];omega
  go_loopw[10] (fun bv wr=>∃(b:Nat) (pad:List Value),1≤b∧b≤n∧bv=.int .i64 b∧Arr wr g (aJ (List.replicate b x)++pad)∧(aJ (List.replicate b x)++pad).length=cs.length∧Below w.heap.size w wr) (fun bv _=>n-(intOf bv).toNat)
  case atStart=>exact⟨1,_,zA0 _,h0,rfl,k9,aI,kb⟩
  case round=>
  clear k9 aI kb hsW;obtain⟨b,pad,mK,hb2,rfl,k9,aI,kb⟩:=hrel;replace aI:=zH aI;have iG:(0:Int)≤(b:Int):=zOm
  by_cases Zh:b<n
  ·have hbI:(b:Int)<(n:Int):=zOm;go_upto_region 19 with fail
   have Zi:=zH Zh;have afx:=zH hb2;have Zk:=zH Aa;have n12:=zH n1;obtain⟨q,Zv,hq⟩:∃q:Nat,(if c<b then(c:Int)else(b:Int))=(q:Int)∧Hid (q=min b c):=⟨min b c,by split<;>omega,zH rfl⟩;replace Zv:=zH Zv;clear hbI Zh hb2 hcI;go_upto_region 20 with fail
   rw[Zv.out];have Zh:=Zi.out;have hqb:q≤b:=(by rw[hq.out];omega);have wI:1≤q:=(by rw[hq.out];have:=Zk.out;omega);have JR:(0:Int)≤(q:Int):=zOm;have hqn:(q:Int)≤(n:Int):=zOm;have hbI:(b:Int)≤(n:Int):=zOm;have ZM:¬n=b:=zOm;obtain⟨k,hk⟩:=zX (min (n-b) q);have hsq:Hid (∀w',Arr w' g (aJ (List.replicate b x)++pad)→Sl w' (.slice (some ⟨g,0,none⟩) q n) (aJ (List.replicate q x))):=zH (fun w' h=>by
    have h2:=Sl.of_part (o:=0) (n:=q) (cap:=n) (cs:=aJ (List.replicate q x)) h (by simp[aJ]) zOm zbW (fun j hj=>by
     have Zy:j<q:=(by simpa[aJ]using hj);rw[Nat.zero_add,zA12 zb2];simp[aJ,Zy,show j<b by omega])
    exact h2)
   obtain⟨pad',Dt,Ej⟩:=Ii (n:=b) (k:=k) (N:=n) (m:=cs.length) (x:=x) (pad:=pad) zOm aI.out lU.out;have IT:Hid (((aJ (List.replicate q x)).take (n-b)).length=k):=zH zb0;have GI:Hid ((aJ (List.replicate b x)++pad).take b++(aJ (List.replicate q x)).take (n-b)++(aJ (List.replicate b x)++pad).drop (b+k)=aJ (List.replicate (b+k) x)++pad'):=zH (by
    rw[←Dt];congr 2
    ·rw[xD,xD,List.take_replicate,hk]
    ·simp[aJ])
   have Uo:b+k≤n:=zOm;have XS:1≤k:=zOm;replace Ej:=zH Ej;clear Dt hk;obtain⟨wq,rfl⟩:∃wq:World,wq=wr:=⟨_,rfl⟩;refine cH 7 10 fun aP=>?_;refine vU (A:=?_) 9 1 zKr zaD [0] zKr ?_ ?_;rotate_left
   ·intro w';iterate 1 (first|(refine db rfl rfl ?_;simp only[Act.put,zSa,zSz,zSs])|(refine cj (v:=?_) rfl rfl ?_ ?_;rotate_left;(focus (go_simp;try(with_reducible rfl)));simp only[Act.put,zSa,zSz,zSs]))
    exact eo
   refine eZ ?_ 3 127 zaD [1,2,3,4,5,6] (fun _ _=>zRd) ?_;refine bf 255 rfl zDk (fun K hK=>?_);replace k9:=k9.below aP;replace kb:=az kb aP;clear aP;refine mu rfl _ _ 24 24 rfl 5 Tryz.underlying24 mM.out g b (n-b) (n-b) rfl _ k9 (by rw[aI.out];have:=lU.out;omega) _ rfl _ (hsq.out _ k9) (dr _) k IT.out _ GI.out (fun W3 k9 hg aB=>?_);replace kb:=aq kb hg rK kb.size;refine hK (fun _=>True) 9999 _ _ ?_;clear hK K;try simp only[Act.put]
   try simp only[zSa,zSz,zSs]
   exact zdI
  ·exact zef
 ·have n8:¬(8192:Int)<(n:Int):=zOm;go_upto_region 16 with fail
  have Aa:0<n:=zOm;go_upto_region 17 with fail
  have kb:=AM (w0:=w) (.cells cs.toArray 5);have k9:Arr ((w.alloc (.cells cs.toArray 5)).drew.drew) w.heap.size cs:=Arr.new w cs.toArray 5;have hsW:=zH (hs.out.below kb);generalize (w.alloc (.cells cs.toArray 5)).drew.drew=W at*;obtain⟨g,hg⟩:=zX w.heap.size;rw[hg]at k9⊢;have rK:w.heap.size≤g:=zOm;clear ud hg hs AM;go_wp2_with(refine EW rfl _ _ 24 24 rfl 5 Tryz.underlying24 mM.out g 0 n n rfl _ k9 (by have:=lU.out;omega) _ rfl _ hsW.out (dr [x]) 1 zb0 (aJ (List.replicate 1 x)++cs.drop 1) zb1 (fun W2 k9 hg aB=>?_));replace kb:=aq kb hg rK kb.size;have aI:(aJ (List.replicate 1 x)++cs.drop 1).length=cs.length:=by
   have:=lU.out;simp[aJ];omega
  go_loopw[10] (fun bv wr=>∃(b:Nat) (pad:List Value),1≤b∧b≤n∧bv=.int .i64 b∧Arr wr g (aJ (List.replicate b x)++pad)∧(aJ (List.replicate b x)++pad).length=cs.length∧Below w.heap.size w wr) (fun bv _=>n-(intOf bv).toNat)
  case atStart=>exact⟨1,_,zA0 _,h0,rfl,k9,aI,kb⟩
  case round=>
  clear k9 aI kb hsW;obtain⟨b,pad,mK,hb2,rfl,k9,aI,kb⟩:=hrel;replace aI:=zH aI;have iG:(0:Int)≤(b:Int):=zOm
  by_cases Zh:b<n
  ·have hbI:(b:Int)<(n:Int):=zOm;go_upto_region 19 with fail
   have Zi:=zH Zh;have afx:=zH hb2;have Zk:=zH Aa;have n12:=zH n1;obtain⟨q,Zv,hq⟩:∃q:Nat,(if n<b then(n:Int)else(b:Int))=(q:Int)∧Hid (q=min b n):=⟨min b n,by split<;>omega,zH rfl⟩;replace Zv:=zH Zv;clear hbI Zh hb2 hcI;go_upto_region 20 with fail
   rw[Zv.out];have Zh:=Zi.out;have hqb:q≤b:=(by rw[hq.out];omega);have wI:1≤q:=(by rw[hq.out];have:=Zk.out;omega);have JR:(0:Int)≤(q:Int):=zOm;have hqn:(q:Int)≤(n:Int):=zOm;have hbI:(b:Int)≤(n:Int):=zOm;have ZM:¬n=b:=zOm;obtain⟨k,hk⟩:=zX (min (n-b) q);have hsq:Hid (∀w',Arr w' g (aJ (List.replicate b x)++pad)→Sl w' (.slice (some ⟨g,0,none⟩) q n) (aJ (List.replicate q x))):=zH (fun w' h=>by
    have h2:=Sl.of_part (o:=0) (n:=q) (cap:=n) (cs:=aJ (List.replicate q x)) h (by simp[aJ]) zOm zbW (fun j hj=>by
     have Zy:j<q:=(by simpa[aJ]using hj);rw[Nat.zero_add,zA12 zb2];simp[aJ,Zy,show j<b by omega])
    exact h2)
   obtain⟨pad',Dt,Ej⟩:=Ii (n:=b) (k:=k) (N:=n) (m:=cs.length) (x:=x) (pad:=pad) zOm aI.out lU.out;have IT:Hid (((aJ (List.replicate q x)).take (n-b)).length=k):=zH zb0;have GI:Hid ((aJ (List.replicate b x)++pad).take b++(aJ (List.replicate q x)).take (n-b)++(aJ (List.replicate b x)++pad).drop (b+k)=aJ (List.replicate (b+k) x)++pad'):=zH (by
    rw[←Dt];congr 2
    ·rw[xD,xD,List.take_replicate,hk]
    ·simp[aJ])
   have Uo:b+k≤n:=zOm;have XS:1≤k:=zOm;replace Ej:=zH Ej;clear Dt hk;obtain⟨wq,rfl⟩:∃wq:World,wq=wr:=⟨_,rfl⟩;refine cH 7 10 fun bn=>?_;refine vU (A:=?_) 9 1 zKr za0 [0] zKr ?_ ?_;rotate_left
   ·intro w';iterate 1 (first|(refine db rfl rfl ?_;simp only[Act.put,zSa,zSz,zSs])|(refine cj (v:=?_) rfl rfl ?_ ?_;rotate_left;(focus (go_simp;try(with_reducible rfl)));simp only[Act.put,zSa,zSz,zSs]))
    exact eo
   refine eZ ?_ 3 127 za0 [1,2,3,4,5,6] (fun _ _=>zRd) ?_;refine bf 255 rfl zDk (fun K hK=>?_);replace k9:=k9.below bn;replace kb:=az kb bn;clear bn;refine mu rfl _ _ 24 24 rfl 5 Tryz.underlying24 mM.out g b (n-b) (n-b) rfl _ k9 (by rw[aI.out];have:=lU.out;omega) _ rfl _ (hsq.out _ k9) (dr _) k IT.out _ GI.out (fun W3 k9 hg aB=>?_);replace kb:=aq kb hg rK kb.size;refine hK (fun _=>True) 9999 _ _ ?_;clear hK K;try simp only[Act.put]
   try simp only[zSa,zSz,zSs]
   exact zdI
  ·exact zef
structure Ch (M:List Nat) (w w':World):Prop where
 os:w'.os=w.os
 tape:w'.tape=w.tape
 output:w'.output=w.output
 size:w.heap.size≤w'.heap.size
 block:∀k,k<w.heap.size→k∉M→w'.heap[k]? =w.heap[k]?
theorem Ch.refl (M:List Nat) (w:World):Ch M w w:=⟨rfl,rfl,rfl,zA0 _,fun _ _ _=>rfl⟩
theorem Ch.trans {M:List Nat} {a b c:World} (h:Ch M a b) (k:Ch M b c):Ch M a c:=
 ⟨k.os.trans h.os,k.tape.trans h.tape,k.output.trans h.output,zA14 h.size k.size,fun i hi hn=>(k.block i (zA3 hi h.size) hn).trans (h.block i hi hn)⟩
theorem Ch.mono {M M':List Nat} {w w':World} (h:Ch M w w') (hM:∀k,k∈M→k∈M'):Ch M' w w':=⟨h.os,h.tape,h.output,h.size,fun k hk hn=>h.block k hk (fun hm=>hn (hM k hm))⟩
theorem Ch.of_below {M:List Nat} {w w':World} (h:Below w.heap.size w w'):Ch M w w':=⟨h.os,h.tape,h.output,h.size,fun k hk _=>h.block k hk⟩
theorem Ch.of_gr {M:List Nat} {g:Nat} {w w':World} (h:w.grownBy w' (some g)) (hg:g∈M):Ch M w w':=⟨h.os,h.tape,h.output,h.size,fun k hk hn=>h.block k hk (fun e=>by injection e with e;subst e;exact hn hg)⟩
theorem Ch.to_below {M:List Nat} {B:Nat} {w0 w w':World} (h0:Below B w0 w) (h:Ch M w w') (hM:∀k,k∈M→B≤k) (hB:B≤w.heap.size):Below B w0 w':=
 h0.trans ⟨h.os,h.tape,h.output,h.size,fun k hk=>h.block k (zA3 hk hB) (fun hm=>by have:=hM k hm;omega)⟩
theorem Ch.drop {M M':List Nat} {w0 w w':World} (h0:Ch M w0 w) (h:Ch M' w w') (hM:∀k,k∈M'→k∈M∨w0.heap.size≤k):Ch M w0 w':=
 ⟨h.os.trans h0.os,h.tape.trans h0.tape,h.output.trans h0.output,zA14 h0.size h.size,fun k hk hn=>(h.block k (zA3 hk h0.size) (fun hm=>by rcases hM k hm with h1|h1;exact hn h1;omega)).trans (h0.block k hk hn)⟩
theorem Arr.ch {M:List Nat} {w w':World} {g:Nat} {xs:List Value} (h:Arr w g xs) (hc:Ch M w w') (hg:g∉M):Arr w' g xs:=by
 have:=h.lt;obtain⟨T,h⟩:=h;exact⟨T,by rw[hc.block g this hg];exact h⟩
theorem Sl.ch {M:List Nat} {w w':World} {v:Value} {xs:List Value} (h:Sl w v xs) (hc:Ch M w w') (hv:∀a n c,v=.slice (some a) n c→a.block∉M):Sl w' v xs:=by
 obtain⟨a,cap,rfl,h2,h3,h4,h5⟩:=h;refine⟨a,cap,rfl,h2,h3,h4,fun x hx j u hu=>?_⟩;subst hx;have h1:=h5 x rfl j u hu;have hb:=zA11 w (x.add j) h1;have Uo:(x.add j).block=x.block:=zaP;rw[←h1];exact World.cell?_of_block (hc.block _ hb (by rw[Uo];exact hv _ _ _ rfl))
structure Fl where
 b:List UInt8
 op:Int
 cut:Int
 dead:Bool
 er:Int
 pr:Int
def flv (g:Nat) (F:Fl):List Value:=[.slice (some ⟨g,0,none⟩) F.b.length F.b.length,.int .i64 F.op,.int .i64 F.cut,.bool F.dead,.int .i64 F.er,.int .i64 F.pr]
structure FlAt (w:World) (p g:Nat) (F:Fl):Prop where
 st:Arr w p (flv g F)
 bt:∃pad,Arr w g (aJ F.b++pad)
 ne:p≠g
 len:F.b.length≤262144
 er:0≤F.er∧F.er≤1099511627776
 pr:0≤F.pr∧F.pr≤1099511627776
theorem FlAt.below {w w':World} {p g:Nat} {F:Fl} (h:FlAt w p g F) (hb:Below w.heap.size w w'):FlAt w' p g F:=by
 obtain⟨h1,⟨pad,h2⟩,h3,h4,h5,h6⟩:=h;exact⟨h1.below hb,⟨pad,h2.below hb⟩,h3,h4,h5,h6⟩
theorem FlAt.ch {M:List Nat} {w w':World} {p g:Nat} {F:Fl} (h:FlAt w p g F) (hc:Ch M w w') (hp:p∉M) (hg:g∉M):FlAt w' p g F:=by
 obtain⟨h1,⟨pad,h2⟩,h3,h4,h5,h6⟩:=h;exact⟨h1.ch hc hp,⟨pad,h2.ch hc hg⟩,h3,h4,h5,h6⟩
theorem FlAt.lt {w:World} {p g:Nat} {F:Fl} (h:FlAt w p g F):p<w.heap.size∧g<w.heap.size:=by
 obtain⟨h1,⟨pad,h2⟩,-,-,-,-⟩:=h;exact⟨h1.lt,h2.lt⟩
theorem FlAt.set {w:World} {p g:Nat} {F F':Fl} (h:FlAt w p g F) (j:Nat) (u:Value) (he:(flv g F).set j u=flv g F') (hb:F'.b=F.b) (he2:F'.er=F.er:=by rfl) (Ej:F'.pr=F.pr:=by rfl):FlAt (w.setCell ⟨p,j,none⟩ u) p g F'∧Ch [p] w (w.setCell ⟨p,j,none⟩ u):=by
 obtain⟨h1,⟨pad,h2⟩,h3,h4,h5,h6⟩:=h;refine⟨⟨?_,⟨pad,?_⟩,h3,by rw[hb];exact h4,by rw[he2];exact h5,by rw[Ej];exact h6⟩,Ch.of_gr (bY w p j u) zac⟩
 ·rw[←he];exact h1.set j u
 ·rw[hb];exact h2.other (a:=⟨p,j,none⟩) (Ne.symm h3) u
def Fl.new (n:Nat):Fl:=⟨List.replicate (n*256) 255,-1,0,false,0,0⟩
theorem FlAt.byte {w:World} {p g:Nat} {F:Fl} (h:FlAt w p g F) (j:Nat) (x:UInt8) (hj:j<F.b.length):FlAt (w.setCell ⟨g,j,none⟩ (.int .u8 (x.toNat:Int))) p g {F with b:=F.b.set j x}∧Ch [p,g] w (w.setCell ⟨g,j,none⟩ (.int .u8 (x.toNat:Int))):=by
 obtain⟨h1,⟨pad,h2⟩,h3,h4,h5,h6⟩:=h;refine⟨⟨?_,⟨pad,?_⟩,h3,by rw[zA23];exact h4,h5,h6⟩,Ch.of_gr (bY w g j _) zac⟩
 ·have e:flv g {F with b:=F.b.set j x}=flv g F:=(by simp[flv]);rw[e];exact h1.other (a:=⟨g,j,none⟩) h3 _
 ·have:=h2.set j (.int .u8 (x.toNat:Int));rw[List.set_append_left _ _ zaU]at this;have e:(aJ F.b).set j (.int .u8 (x.toNat:Int))=aJ (F.b.set j x):=(by simp[aJ,List.map_set]);rwa[e]at this
theorem FlAt.v0 {w:World} {p g:Nat} {F:Fl} (h:FlAt w p g F):w.cell? ⟨p,0,none⟩=some (.slice (some ⟨g,0,none⟩) F.b.length F.b.length):=h.st.cell (j:=0) rfl
def VK (x:Option Addr) (r s:Nat) (c m:Int):List Value:=.pointer x::(ag 32 r++(ag 32 s++[.int .i64 c,.int .i64 m]))
theorem aeu (fv:Option Addr) (r s:Nat) (c m:Int):(VK fv r s c m)[65]? =some (.int .i64 c)∧(VK fv r s c m)[66]? =some (.int .i64 m):=by
 constructor
 ·rw[VK,show(65:Nat)=64+1 from rfl,zA33,zA2 za4,aa,zA2 za4,aa];rfl
 ·rw[VK,show(66:Nat)=65+1 from rfl,zA33,zA2 za4,aa,zA2 za4,aa];rfl
theorem Se (fv:Option Addr) (r s n:Nat) (h0:0<n) (hn:n≤1000000) (w:World):
 Calls Tryz.prog 25 #[.pointer fv,.agg (ag 32 r).toArray,.agg (ag 32 s).toArray,.int .i64 (n:Int)] w fun e w'=>∃q,e=.returned (.pointer (some ⟨q,0,none⟩))∧w.heap.size≤q∧Arr w' q (VK fv r s 0 (n:Int))∧Below w.heap.size w w':=by
 have n0:(0:Int)<(n:Int):=zOm;have n1:(n:Int)≤1000000:=zOm;obtain⟨X,hX⟩:=zX (VK fv r s 0 (n:Int));rw[hX];replace hX:=zH hX;go_enter Tryz.func25,Tryz.ntmps25;go_upto_region 1 with fail
 refine be (fun W aB k5 k6 kb=>?_);replace k5:Arr W w.heap.size (ag 32 r):=k5;replace k6:Arr W (w.heap.size+1) (ag 32 s):=k6;clear aB;go_wp2_with(first|(refine ab rfl _ _ rfl _ rfl zDk _ k5 zbx ?_)|(refine ab rfl _ _ rfl _ rfl zDk _ k6 zbx ?_)|(refine bi rfl _ _ rfl (VK fv r s 0 (n:Int)).toArray zKr ?_;rw[hX.out]));exact zec
theorem Of (q:Nat) (fv:Option Addr) (r s:Nat) (c m:Int) (w:World) (k0:Arr w q (VK fv r s c m)):
 Calls Tryz.prog 26 #[.pointer (some ⟨q,0,none⟩)] w fun e w'=>e=.returned (.int .i64 m)∧w'=w:=by
 have hc:=k0.cell (aeu fv r s c m).2;clear k0;go_enter Tryz.func26,Tryz.ntmps26;exact zdA
theorem Sl.newMk (w:World) (A:Array Value) (T:TypeId) (fr:Nat×Nat) (g:Nat) (hg:g=w.heap.size) (n:Nat) (hn:A.size=n) (hm:n≤maxLen):Sl (w.alloc (.cells A T fr)) (.slice (some ⟨g,0,none⟩) n n) A.toList:=by
 have hl:A.toList.length=n:=(by rw[←hn];simp);refine⟨some ⟨g,0,none⟩,n,by rw[hl],by rw[hl];exact zA0 _,hm,(fun h=>by cases h),fun x hx j u hu=>?_⟩;cases hx;subst hg;rw[Addr.add_lit,Nat.zero_add,World.cell?_alloc_mark];simpa using hu
def IY (bs:List UInt8):Nat:=bs.foldl (fun a b=>a*256+b.toNat) 0
theorem Ig (bs:List UInt8) (c:UInt8):IY (bs++[c])=IY bs*256+c.toNat:=by simp[IY]
theorem xi (n:Int):∀k,k≤8→IY ((jG n).take k)=(n%18446744073709551616).toNat/2^(8*(8-k))
 |0,_=>by
  simp only[List.take_zero,IY,List.foldl_nil];rw[zA32];have:n%18446744073709551616<18446744073709551616:=Int.emod_lt_of_pos _ zDc;simp only[Nat.reduceMul,Nat.reduceSub,Nat.reducePow];omega
 |k+1,h=>by
  have hl:k<(jG n).length:=(by rw[cg];omega);have e:(jG n).take (k+1)=(jG n).take k++[(jG n)[k]]:=by
   rw[List.take_add_one,zA7 hl];rfl
  rw[e,Ig,xi n k zOm];simp only[jG,List.getElem_map,List.getElem_range];generalize (n%18446744073709551616).toNat=x;have e2:(UInt8.ofNat (x/2^(8*(7-k))%256)).toNat=x/2^(8*(7-k))%256:=zac;rw[e2,show 8*(8-k)=8*(7-k)+8 by omega,Nat.pow_add,←zA22,show 8*(8-(k+1))=8*(7-k) by omega];generalize x/2^(8*(7-k))=y;simp only[Nat.reducePow];omega
theorem Wb (n:Int):IY (jG n)=(n%18446744073709551616).toNat:=by
 have h:=xi n 8 (zA0 _);rw[zA8 (by rw[cg];exact zA0 _)]at h;simpa using h
def CBuf (w:World) (g:Nat) (v:Value) (rest:List UInt8):Prop:=
 (v=.slice none 0 0∧rest=[])∨
 ∃b o cap,v=.slice (some ⟨b,o,none⟩) rest.length cap∧rest.length≤cap∧cap≤maxLen∧b<g∧b<w.heap.size∧∀j u,(aJ rest)[j]? =some u→w.cell? ⟨b,o+j,none⟩=some u
def Cur (w:World) (g:Nat) (rest:List UInt8) (bad:Bool):Prop:=
 ∃v,w.cell? ⟨g,0,none⟩=some v∧w.cell? ⟨g,1,none⟩=some (.bool bad)∧w.frozen? ⟨g,0,none⟩=false∧w.frozen? ⟨g,1,none⟩=false∧CBuf w g v rest
theorem CBuf.sl {w:World} {g:Nat} {v:Value} {rest:List UInt8} (h:CBuf w g v rest):Sl w v (aJ rest):=by
 rcases h with⟨rfl,rfl⟩|⟨b,o,cap,rfl,h1,h2,h3,h4,h5⟩
 ·exact Sl.nil w
 ·refine⟨some ⟨b,o,none⟩,cap,by rw[ai],by rw[ai];exact h1,h2,fun h=>zaa,fun x hx=>?_⟩;cases hx;intro j u hu;rw[Addr.add_lit];exact h5 j u hu
theorem CBuf.grown {w w':World} {g k:Nat} {v:Value} {rest:List UInt8} (h:CBuf w g v rest) (hg:w.grownBy w' (some k)) (hk:k=g∨w.heap.size≤k):CBuf w' g v rest:=by
 rcases h with h|⟨b,o,cap,rfl,h1,h2,h3,h4,h5⟩
 ·exact .inl h
 ·exact ze0
theorem CBuf.below {w w':World} {g:Nat} {v:Value} {rest:List UInt8} (h:CBuf w g v rest) (hg:Below w.heap.size w w'):CBuf w' g v rest:=by
 rcases h with h|⟨b,o,cap,rfl,h1,h2,h3,h4,h5⟩
 ·exact .inl h
 ·refine .inr ⟨b,o,cap,rfl,h1,h2,h3,zA3 h4 hg.size,fun j u hu=>?_⟩;rw[hg.cell (p:=⟨b,o+j,none⟩) h4];exact h5 j u hu
theorem Cur.lt {w:World} {g:Nat} {rest:List UInt8} {bad:Bool} (h:Cur w g rest bad):g<w.heap.size:=by
 obtain⟨v,h1,_⟩:=h;exact zA11 w _ h1
theorem Cur.below {w w':World} {g:Nat} {rest:List UInt8} {bad:Bool} (h:Cur w g rest bad) (hg:Below w.heap.size w w'):Cur w' g rest bad:=by
 have bK:=h.lt;obtain⟨v,h1,h2,h3,h4,h5⟩:=h;exact⟨v,by rw[hg.cell (p:=⟨g,0,none⟩) bK];exact h1,by rw[hg.cell (p:=⟨g,1,none⟩) bK];exact h2,by rw[hg.frozen (p:=⟨g,0,none⟩) bK];exact h3,by rw[hg.frozen (p:=⟨g,1,none⟩) bK];exact h4,h5.below hg⟩
theorem DC {w w':World} (h:Below w.heap.size w w') (row:Option Nat):w.grownBy w' row:=⟨h.os,h.tape,h.output,h.size,fun k hk _=>h.block k hk⟩
theorem DI {a b c:World} {row:Option Nat} (h:a.grownBy b row) (k:b.grownBy c row):a.grownBy c row:=
 ⟨k.os.trans h.os,k.tape.trans h.tape,k.output.trans h.output,zA14 h.size k.size,fun i hi hn=>(k.block i (zA3 hi h.size) hn).trans (h.block i hi hn)⟩
theorem oW {w w':World} {g o:Nat} {u:Value} (h:w.grownBy w' (some g)):w.grownBy (w'.setCell ⟨g,o,none⟩ u) (some g):=
 DI h ⟨rfl,rfl,rfl,by simp[World.setCell],fun k _ hn=>Below.heap_setCell _ _ _ _ (by simpa using hn)⟩
theorem Ah (vb:Value) (bs:List UInt8) (w:World) (hb:Sl w vb (aJ bs)) (hr:bs.length≤140737488355328):
 Calls Tryz.prog 118 #[vb] w fun e w'=>∃g,e=.returned (.pointer (some ⟨g,0,none⟩))∧w.heap.size≤g∧Cur w' g bs false∧Below w.heap.size w w':=by
 go_enter Tryz.func118,Tryz.ntmps118;go_wp2_with fail;refine(jy vb bs w hb hr).mono ?_;rintro e w1 ⟨v1,rfl,cf,ak,-⟩;have hv:CBuf w1 w1.heap.size v1 bs:=by
  rcases cf.2 with⟨rfl,h0⟩|⟨gb,cap,cur,rfl,h1,h2,h3,h4,h5,h6⟩
  ·exact .inl ⟨rfl,List.eq_nil_of_length_eq_zero h0⟩
  ·refine .inr ⟨gb,0,cap,rfl,h3,h4,?_,(Array.getElem?_eq_some_iff.1 h2).1,fun j u hu=>?_⟩
   ·have:=(Array.getElem?_eq_some_iff.1 h2).1;omega
   ·have:=World.ownsRow.cells cf rfl j u hu;rwa[Addr.add_lit]at this
 clear cf;have Uy:∃a n c,v1=.slice a n c:=(by rcases hv with⟨rfl,_⟩|⟨b,o,cap,rfl,_⟩<;>exact⟨_,_,_,rfl⟩);obtain⟨a,n,c,rfl⟩:=Uy;have hv':=zH hv;clear hv;go_wp2;go_ret;refine⟨w1.heap.size,rfl,ak.size,⟨_,?_,?_,?_,?_,(hv'.out.below (ae _ _))⟩,ak.alloc ak.size _⟩
 ·rw[World.cell?_alloc_at _ _ _ _ rfl];rfl
 ·rw[World.cell?_alloc_at _ _ _ _ rfl];rfl
 ·exact World.frozen?_alloc_at _ _ _ _ rfl
 ·exact World.frozen?_alloc_at _ _ _ _ rfl
section
variable {P:Program} {a:Act} {w:World} {Q:Exit→Act→World→Prop}
theorem Mc {l:Nat} {A:Act} {W:World}:l=l∧A=A∧W=W:=⟨rfl,rfl,rfl⟩
theorem xI {c rest:Code} (l:Nat) (A:Act) (W:World) (hf:findLabel c l=some rest) (first:c.wp P (Exit.jump l (fun a' w'=>a'=A∧w'=W) Q) a w)
 (pass:rest.wp P (Exit.noGoto Q) A W):(Code.scope c).wp P Q a w:=by
 refine wp_scope_jumps l (fun a' w'=>a'=A∧w'=W) (fun _ _=>0) hf first ?_
 rintro a' w' ⟨rfl,rfl⟩;refine Code.wp_mono ?_ pass;intro e a w h;cases e<;>first|exact h|exact(h:False).elim
theorem uJ {c:Code} (h:c.wp P (Exit.noGoto Q) a w):(Code.scope c).wp P Q a w:=wp_scope_straight h
end
theorem AV (g:Nat) (rest:List UInt8) (n:Int) (w:World) (hc:Cur w g rest true):
 Calls Tryz.prog 119 #[.pointer (some ⟨g,0,none⟩),.int .i64 n] w fun e w'=>e=.returned (.slice none 0 0)∧w'=w:=by
 obtain⟨v,h0,h1,f0,f1,-⟩:=hc;go_enter Tryz.func119,Tryz.ntmps119;go_wp2_with fail;go_step3;go_wp2_with fail;try rw[Exit.noGoto_ret]
 go_ret;exact⟨rfl,rfl⟩
theorem G2 {w:World} {g:Nat} {v:Value} {bad:Bool} (h0:w.cell? ⟨g,0,none⟩=some v) (h1:w.cell? ⟨g,1,none⟩=some (.bool bad)) (f0:w.frozen? ⟨g,0,none⟩=false) (f1:w.frozen? ⟨g,1,none⟩=false):
 w.grownBy ((w.setCell ⟨g,0,none⟩ (.slice none 0 0)).setCell ⟨g,1,none⟩ (.bool true)) (some g)∧Cur ((w.setCell ⟨g,0,none⟩ (.slice none 0 0)).setCell ⟨g,1,none⟩ (.bool true)) g [] true:=by
 have YJ:(w.setCell ⟨g,0,none⟩ (.slice none 0 0)).cell? ⟨g,1,none⟩=some (.bool bad):=by
  rw[World.cell?_setCell_other _ _ _ _ zac];exact h1
 refine⟨oW (oW (World.grownBy.refl _ _)),.slice none 0 0,?_,?_,?_,?_,.inl ⟨rfl,rfl⟩⟩
 ·rw[World.cell?_setCell_other _ _ _ _ zac,World.cell?_setCell_same _ _ _ h0]
 ·rw[World.cell?_setCell_same _ _ _ YJ]
 ·rw[World.frozen?_setCell,World.frozen?_setCell];exact f0
 ·rw[World.frozen?_setCell,World.frozen?_setCell];exact f1
theorem SH (g:Nat) (rest:List UInt8) (n:Int) (w:World) (hc:Cur w g rest false) (hn:n<0∨(rest.length:Int)<n):
 Calls Tryz.prog 119 #[.pointer (some ⟨g,0,none⟩),.int .i64 n] w fun e w'=>e=.returned (.slice none 0 0)∧w.grownBy w' (some g)∧Cur w' g [] true:=by
 obtain⟨v,h0,h1,f0,f1,hb⟩:=hc;have Uy:∃a c,v=.slice a rest.length c:=zb3;obtain⟨a,c,rfl⟩:=Uy;clear hb;have bK:=zA11 w _ h0
 by_cases hneg:n<0
 ·clear hn;go_enter Tryz.func119,Tryz.ntmps119;go_wp2_with fail;refine xI 0 ?A1 ?W1 rfl ?first1 ?pass1
  case first1=>
   go_wp2_with fail;go_step3;exact Mc
  case pass1=>
   go_wp2_with fail;try rw[Exit.noGoto_ret]
   go_ret;exact⟨rfl,G2 h0 h1 f0 f1⟩
 ·have Zg:(rest.length:Int)<n:=hn.resolve_left hneg;clear hn;go_enter Tryz.func119,Tryz.ntmps119;go_wp2_with fail;refine xI 0 ?A2 ?W2 rfl ?first2 ?pass2
  case first2=>
   go_wp2_with fail;go_step3;exact Mc
  case pass2=>
   go_wp2_with fail;try rw[Exit.noGoto_ret]
   go_ret;exact⟨rfl,G2 h0 h1 f0 f1⟩
end Go.Proofs.YtgfkgolafkdjfaaGreatDoor
