/- ModelWrong: part 30 of its proof: lemmas and contracts, each with its conditions in its own statement; the last part holds the law itself. -/
import Derived.Test.YtgfkgolafkdjfaaGreatDoorJv29

set_option maxHeartbeats 4000000
set_option maxRecDepth 100000
namespace Go.Proofs.YtgfkgolafkdjfaaGreatDoor
open Go.RowKit
theorem PQ (c r s:Nat) (kv:Value) (S:Stt) (v:Sv) (bt:Int) (q:Nat) (j:Nat) (hj:j<2) (NL:AG S=(j:Int)) (mv:Value) (dn:Bool) (L4:∀w',Arr w' c (tY kv r s S v bt q)→w'.cell? ⟨c,67+j*3,none⟩=some mv) (hdc:∀w',Arr w' c (tY kv r s S v bt q)→w'.cell? ⟨c,67+j*3+1,none⟩=some (.bool dn))
 (ver b:Int) (root D X:Nat) (i:Int) (k R1 s1 RS SS:Nat) (hv:0≤ver) (lP:ver≤2147483647) (hb:1≤b) (hb2:b≤32) (hi:td i=true) (hs:s<256^32) (w:World) (k0:Arr w c (tY kv r s S v bt q)) (ep:StOk w S v)
 (dI:Sl w mv (aJ (Ka ver b root (jw (bD s 9) D X) i k (nb 32 R1++nb 32 s1) (nb 32 RS++nb 32 SS)))):
 Calls Tryz.prog 80 #[.pointer (some ⟨c,0,none⟩)] w fun e w'=>∃gw cw,e=.returned (.tuple #[.agg (gK j (bU ver b root (.slice (some ⟨gw,0,none⟩) 80 cw) i k R1 s1 RS SS) X true).toArray,.bool (!dn)])∧w.heap.size≤gw∧Below w.heap.size w w':=by
 have cT:=zH (fun w' (jW:Below w.heap.size w w')=>Ap S v w' (ep.below jW));rw[NL]at cT;have cF:=zH (fun w' (jW:Below w.heap.size w w')=>Yy c r s kv S v bt q j hj mv L4 ver b root D X i k R1 s1 RS SS hv lP hb hb2 hi hs w' (k0.below jW) (dI.below jW));replace hdc:=zH hdc;have lU:=k0.lt;have i0:(0:Int)≤(j:Int):=zOm;have i1:(j:Int)<2:=zOm;clear hv lP hb hb2 hi hs dI hj L4 NL ep;go_enter Tryz.func80,Tryz.ntmps80;go_upto_region 1 with fail
 refine aH (fun W aB k2 kb=>?_);obtain⟨Z,hZ⟩:∃Z:List Value,Z=gK 0 (bU 0 0 0 (.slice none 0 0) 0 0 0 0 0 0) 0 false:=⟨_,rfl⟩;replace k2:Arr W w.heap.size (gK 0 (bU 0 0 0 (.slice none 0 0) 0 0 0 0 0 0) 0 false):=k2;rw[←hZ]at k2;have hZl:Hid (Z.length=230):=zH zcl;replace k0:=k0.below kb;clear aB hZ;have y0:=Fh k0;go_wp2_with(refine aE rfl _ _ rfl _ _ rfl zKr _ y0 zKr ?_);refine zQ (cT.out _ kb) fun w1 hb=>?_;replace k0:=k0.below hb;replace k2:=k2.below hb;replace kb:=az kb hb;clear hb cT y0;go_wp2_with fail;refine(cF.out _ kb).mono ?_;rintro e w2 ⟨gw,cw,rfl,AN,hb⟩;have vy:w.heap.size≤gw:=zA14 kb.size AN;replace k0:=k0.below hb;replace k2:=k2.below hb;replace kb:=az kb hb;clear hb cF AN;have adk:w.heap.size<w2.heap.size:=k2.lt;obtain⟨H,hH⟩:=zX (gK j (bU ver b root (.slice (some ⟨gw,0,none⟩) 80 cw) i k R1 s1 RS SS) X true)
 have hHl:Hid (H.length=230):=zH (by rw[←hH];exact fh _ _ _ _ (a8 _ _ _ _ _ _ _ _ _ _));have hHo:Hid (∀u∈H,u.oneCell'=true):=zH (by rw[←hH];exact nJ _ _ _ _ (jd _ _ _ _ _ _ _ _ _ _ rfl));replace hH:=zH hH;rw[hH.out];go_upto_region 3 with(refine aD rfl _ _ _ rfl _ H rfl rfl _ (Arr.new _ _ _) zcn zcn hHo.out (fun w3 k5 hg aB=>?_))
 have hb2:=a9 hg;replace k0:=k0.below hb2;replace k2:=k2.below hb2;replace kb:=az kb hb2;obtain⟨g5,jJ⟩:=zX w2.heap.size;rw[jJ]at k5⊢;have afR:g5≠w.heap.size:=(by rw[←jJ];exact Nat.ne_of_gt adk);have pH:c≠w.heap.size:=Nat.ne_of_lt lU;clear hg aB jJ hb2 adk lU;refine eC (fun w'=>Ch [w.heap.size] w3 w') 9999 15 rfl zKr ?_;have hS0:Ch [w.heap.size] w3 w3.drew:=Ch.of_below (zA6 _ _).drew;refine gF (A:=?_) 2 8191 zKr zcd [0,1,2,3,4,5,6,7,8,9,10,11,12] zKr ?_ ?_;rotate_left
 ·intro w' hB;have y5:=k5.ch hB (by simpa using afR);have yd:=hdc.out w' (k0.ch hB (by simpa using pH));iterate 13 (first|(refine db rfl rfl ?_;simp only[Act.put,zSa,zSz,zSs])|(refine bN rfl rfl _ _ rfl _ rfl zDk _ y5 zcn ?_;simp only[Act.put,zSa,zSz,zSs])|(refine bN rfl rfl _ _ rfl _ rfl zDk _ zAm zLn ?_;simp only[Act.put,zSa,zSz,zSs])|(refine cj (v:=?_) rfl rfl ?_ ?_;rotate_left;(focus (go_simp;try(with_reducible rfl)));simp only[Act.put,zSa,zSz,zSs]))
  exact eo
 replace k2:=k2.below (zA6 _ w3).drew;have kb3:=az kb (zA6 _ w3).drew;refine aY 13 16383 rfl zDk (fun K hK=>?_);refine gg rfl _ _ _ rfl _ H rfl rfl _ k2 zcn (by rw[hZl.out,hHl.out]) hHo.out (fun w9 k9 kP ie=>?_);have hS1:Ch [w.heap.size] w3 w9:=hS0.trans (Ch.of_gr kP zac);refine hK (fun w'=>Ch [w.heap.size] w3 w') _ _ hS1 (fun _ h=>h) ?_;clear hK K;try simp only[Act.put]
 refine dz ?_ 0 32767 (by exact hS1) [14] (fun _ _=>zRd) ?_;refine ap zKr ?_;have kb9:=gQ kb3 kP (zA0 _) kb3.size;clear kP ie kb3 kb k0 k5 hS0 hS1;go_wp2_with fail;exact bodyPost_ret (aT Tryz.results80 _ _ _ _ rfl Tryz.underlying158 rfl _ k9 zcn _ rfl) rfl ⟨gw,cw,by rw[hH.out];rfl,vy,kb9⟩
theorem Em (K:Nat) (v i:Int) (a:Option Addr) (c:Nat) (bs:List UInt8) (ua:bs.length=80) (hm:qm v i=true) (ht:pF K (kM i) (bs.take 64) (bS [v])≠bs.drop 64) (w:World) (h:Sl w (.slice a 80 c) (aJ bs)):
 CB 81 #[.agg (ag 32 K).toArray,.int .i64 v,.int .i64 i,.slice a 80 c] w (.tuple #[.slice none 0 0,.int .i64 10]):=by
 have c1:=zH (fun w=>Ce v i w);rw[hm]at c1;have cN:=zH (fun w=>Ev i w);have cI:=zH (fun w vn h=>xb vn v w h);have cA:=zH (fun w' g2 c2 (h1:Sl w' (.slice a 80 c) (aJ bs)) (h2:Sl w' (.slice (some ⟨g2,0,none⟩) 8 c2) (aJ (bS [v])))=>show Calls Tryz.prog 131 #[.agg (ag 32 K).toArray,.agg (ag 12 (kM i)).toArray,.slice a 80 c,.slice (some ⟨g2,0,none⟩) 8 c2] w' (fun e w''=>e=.returned (.tuple #[.slice none 0 0,.int .i64 10])∧Below w'.heap.size w' w'')from by
  have q:=DZ K (kM i) a (some ⟨g2,0,none⟩) c c2 bs (bS [v]) zOm (by simp[de]) zOm w' (by rw[ua];exact h1) (by rw[de];exact h2);rw[ua,de]at q;refine q.mono ?_;rintro e w'' ⟨h,hb⟩;unfold Pv at h;rw[if_neg ht]at h;exact⟨h,hb⟩)
 replace h:=zH h;clear hm ua ht;go_enter Tryz.func81,Tryz.ntmps81;go_upto_region 1 with fail
 refine aH (fun W aB k4 kb=>?_);replace k4:Arr W w.heap.size (ag 32 K):=k4;clear aB;go_wp2_with fail;refine zQ (c1.out _) fun w1 hb=>?_;replace k4:=k4.below hb;replace kb:=az kb hb;clear hb c1;go_upto_region 3 with fail
 refine cH 9999 12 fun aP=>?_;refine dz ?_ 8 27 zaD [0,1,3,4] (fun w' hB=>by have y4:=k4.below hB;exact zRd) ?_;refine bG 5 127 [(2,21),(5,24),(6,25)] [(false,[]),(false,[]),(false,[(5,24)])] [(2,Ph.is (.agg (ag 12 (kM i)).toArray)),(5,Ph.sl 1 [.int .i64 v]),(6,Ph.sx 8 (aJ (bS [v])))] zKr zKr zaA ?_ ?_
 ·refine⟨⟨_,rfl,?_⟩,⟨_,rfl,?_⟩,⟨_,rfl,?_⟩,trivial⟩
  ·exact oT cN.out
  ·exact zeo
  ·exact zdy
 intro vs agZ BA acn hP hD;obtain⟨q2,q5,q6,-⟩:=hP;simp only[aG,Act.put,zSa,zSz,zSs];rw[show vs 2=_ from q2];clear q2;obtain⟨d5,e5,Q8⟩:=q5;rw[e5];rw[show vs _=_ from e5]at Q8;clear e5;obtain⟨d6,e6,X3⟩:=q6;rw[e6];clear e6;clear hD vs;refine eg 7 255 BA (cA.out _ _ _ (h.out.below (az kb BA)) X3) fun i8 bn=>?_;refine dz ?_ 0 4095 za0 [8,9,10,11] (fun _ _=>zRd) ?_;refine ap zKr ?_;have kb9:=az kb bn;clear X3 Q8 cA cI cN k4;go_wp2_with fail;go_ret2;exact⟨rfl,kb9⟩
theorem NQ (K:Nat) (v i:Int) (a:Option Addr) (n c:Nat) (hn:n≠80) (hm:qm v i=true) (w:World):
 CB 81 #[.agg (ag 32 K).toArray,.int .i64 v,.int .i64 i,.slice a n c] w (.tuple #[.slice none 0 0,.int .i64 1]):=by
 have c1:=zH (fun w=>Ce v i w);rw[hm]at c1;have GG:((n:Int)==80)=false:=zab;have oO:¬(n:Int)=80:=zOm;clear hm;go_enter Tryz.func81,Tryz.ntmps81;go_upto_region 1 with fail
 refine aH (fun W aB k4 kb=>?_);clear aB k4;go_wp2_with fail;refine zQ (c1.out _) fun w1 hb=>?_;replace kb:=az kb hb;clear hb c1;go_wp2_with fail;go_ret2;exact⟨rfl,kb⟩
section
variable {w:World} {g:Nat} {j:Int} {m:List Value} {X:Nat} {f:Bool}
theorem BM (h:Arr w g (gK j m X f)) {t:Nat} {u:Value} (ht:m[t]? =some u):w.cell? ⟨g,1+t,none⟩=some u:=h.cell (by
 have q:=gW (A:=[.int .i64 j]) (B:=m) (C:=ag 32 X++[.bool f]) (o:=1) rfl t (zA18.1 ht).1;rw[ht]at q;exact q)
theorem XL (h:Arr w g (gK j m X f)):w.cell? ⟨g,0,none⟩=some (.int .i64 j):=h.cell rfl
theorem FC (h:Arr w g (gK j m X f)) (hm:m.length=196):w.rangeAt g 197 (ag 32 X):=h.range (fun t ht=>by
 rw[show gK j m X f=(.int .i64 j::m)++(ag 32 X++[.bool f]) by simp[gK]];exact gW (by simp[hm]) t ht)
theorem wz (h:Arr w g (gK j m X f)) (hm:m.length=196):w.cell? ⟨g,229,none⟩=some (.bool f):=h.cell (by
 rw[show gK j m X f=(.int .i64 j::(m++ag 32 X))++([.bool f]++[]) by simp[gK]];exact gW (by simp[hm,aa]) 0 Nat.zero_lt_one)
end
theorem Fe (c:Nat) (j:Int) (ver b:Int) (root X:Nat) (i:Int) (k R1 s1 RS SS:Nat) (n:Int) (bv:Value) (w:World)
 (hF:∀w',Below w.heap.size w w'→Calls Tryz.prog 80 #[.pointer (some ⟨c,0,none⟩)] w' fun e w''=>∃gw cw,e=.returned (.tuple #[.agg (gK j (bU ver b root (.slice (some ⟨gw,0,none⟩) 80 cw) i k R1 s1 RS SS) X true).toArray,.bool true])∧Below w'.heap.size w' w'')
 (hn:n<0∨b≤n):CB 47 #[.pointer (some ⟨c,0,none⟩),.int .i64 n,bv] w (.int .i64 17):=by
 replace hF:=zH hF;have kb:=zA6 w.heap.size w
 by_cases h0:n<0
 ·clear hn;go_enter Tryz.func47,Tryz.ntmps47;go_wp2_with fail;refine(hF.out _ kb).mono ?_;rintro e w1 ⟨gw,cw,rfl,hb⟩;replace kb:=az kb hb;clear hb hF;go_upto_region 2 with(refine aD rfl _ _ _ rfl _ (gK j (bU ver b root (.slice (some ⟨gw,0,none⟩) 80 cw) i k R1 s1 RS SS) X true) rfl rfl _ (Arr.new _ _ _) zcm zcm (nJ _ _ _ _ (jd _ _ _ _ _ _ _ _ _ _ rfl)) (fun w2 k7 hg aB=>?_))
  exact zdL
 ·have h1:b≤n:=zOm;clear hn;go_enter Tryz.func47,Tryz.ntmps47;go_wp2_with fail;refine(hF.out _ kb).mono ?_;rintro e w1 ⟨gw,cw,rfl,hb⟩;replace kb:=az kb hb;clear hb hF;go_upto_region 2 with(refine aD rfl _ _ _ rfl _ (gK j (bU ver b root (.slice (some ⟨gw,0,none⟩) 80 cw) i k R1 s1 RS SS) X true) rfl rfl _ (Arr.new _ _ _) zcm zcm (nJ _ _ _ _ (jd _ _ _ _ _ _ _ _ _ _ rfl)) (fun w2 k7 hg aB=>?_))
  exact zdL
theorem Ja (c:Nat) (j:Int) (ver b:Int) (root X:Nat) (i:Int) (k R1 s1 RS SS:Nat) (n:Int) (bv:Value) (w:World)
 (hF:∀w',Below w.heap.size w w'→Calls Tryz.prog 80 #[.pointer (some ⟨c,0,none⟩)] w' fun e w''=>∃gw cw,e=.returned (.tuple #[.agg (gK j (bU ver b root (.slice (some ⟨gw,0,none⟩) 80 cw) i k R1 s1 RS SS) X true).toArray,.bool true])∧Below w'.heap.size w' w'')
 (hn:0≤n) (oO:n<b) (er:Int) (her:er≠0) (hO:∀w',Below w.heap.size w w'→CB 81 #[.agg (ag 32 X).toArray,.int .i64 ver,.int .i64 n,bv] w' (.tuple #[.slice none 0 0,.int .i64 er])):
 CB 47 #[.pointer (some ⟨c,0,none⟩),.int .i64 n,bv] w (.int .i64 10):=by
 replace hF:=zH hF;replace hO:=zH hO;have kb:=zA6 w.heap.size w;have h0:¬n<0:=zOm;have h1:¬b≤n:=zOm;have hz:(er==0)=false:=(by simpa using her);clear hn oO;go_enter Tryz.func47,Tryz.ntmps47;go_wp2_with fail;refine(hF.out _ kb).mono ?_;rintro e w1 ⟨gw,cw,rfl,hb⟩;replace kb:=az kb hb;clear hb hF;go_upto_region 2 with(refine aD rfl _ _ _ rfl _ (gK j (bU ver b root (.slice (some ⟨gw,0,none⟩) 80 cw) i k R1 s1 RS SS) X true) rfl rfl _ (Arr.new _ _ _) zcm zcm (nJ _ _ _ _ (jd _ _ _ _ _ _ _ _ _ _ rfl)) (fun w2 k7 hg aB=>?_))
 replace kb:=az kb (a9 hg);have nu:=a8 ver b root (.slice (some ⟨gw,0,none⟩) 80 cw) i k R1 s1 RS SS;obtain⟨g7,lW⟩:=zX w1.heap.size;rw[lW]at k7⊢;clear hg aB lW;have yb:=BM k7 (t:=1) (u:=.int .i64 b) rfl;have yk:=FC k7 nu;have yv:=BM k7 (t:=0) (u:=.int .i64 ver) rfl;have yf:=wz k7 nu;go_wp2_with(refine aE rfl _ _ rfl _ _ rfl zKr _ yk zbx ?_);refine zQ (hO.out _ kb) fun w3 hb=>?_;have yf:=wz (k7.below hb) nu;replace kb:=az kb hb;clear hb hO yk yv yb k7;exact zc4
def rU:List Value:=[.int .i64 0,.slice none 0 0,.slice none 0 0,.bool false,.int .i64 0,.slice none 0 0,.bool false,.int .i64 0,.int .i64 (-1)]
theorem WR:mO.cs nB=rU:=rfl
def nN (kv:Value) (r s:Nat) (bt:Int):List Value:=kv::(ag 32 r++(ag 32 s++(rU++(.int .i64 bt::ag 32 0))))
theorem Fi {kv:Value} {r s:Nat} {bt:Int} {j:Nat} (hj:j<9):(nN kv r s bt)[65+j]? =rU[j]? :=by
 rw[nN,show 65+j=(64+j)+1 by omega,zA33,zA2 za4,aa,zA2 za4,aa,show 64+j-32-32=j by omega,zA12 (by simp[rU];omega)]
theorem Lo (kv:Value) (r s:Nat) (bt:Int):(nN kv r s bt)[74]? =some (.int .i64 bt):=by
 rw[nN,show(74:Nat)=73+1 from rfl,zA33,zA2 za4,aa,zA2 za4,aa,zA2 (by simp[rU])];rfl
theorem PR (kv:Value) (r s:Nat) (bt b2:Int):(nN kv r s bt).set 74 (.int .i64 b2)=nN kv r s b2:=by
 rw[nN,nN,show(74:Nat)=73+1 from rfl,List.set_cons_succ,List.set_append_right _ _ za4,aa,List.set_append_right _ _ za4,aa,List.set_append_right _ _ (by simp[rU])];rfl
theorem M7 (kt:TypeId) (kx:Value) (r s:Nat) (w:World):
 Calls Tryz.prog 27 #[.iface kt kx,.agg (ag 32 r).toArray,.agg (ag 32 s).toArray,.agg rU.toArray] w fun e w'=>∃c,e=.returned (.pointer (some ⟨c,0,none⟩))∧w.heap.size≤c∧Arr w' c (nN (.iface kt kx) r s (-1))∧Below w.heap.size w w':=by
 obtain⟨X,hX⟩:=zX (nN (.iface kt kx) r s (-1));rw[hX];replace hX:=zH hX;go_enter Tryz.func27,Tryz.ntmps27;go_upto_region 1 with fail
 refine bZ (fun W aB k5 k6 k7 kb=>?_);replace k5:Arr W w.heap.size (ag 32 r):=k5;replace k6:Arr W (w.heap.size+1) (ag 32 s):=k6;replace k7:Arr W (w.heap.size+1+1) rU:=k7;clear aB;go_wp2_with(first|(refine ab rfl _ _ rfl _ rfl zDk _ k5 zbx ?_)|(refine ab rfl _ _ rfl _ rfl zDk _ k6 zbx ?_)|(refine ab rfl _ _ rfl _ rfl zDk _ k7 zKr ?_)|(refine bi rfl _ _ rfl (nN (.iface kt kx) r s (-1)).toArray zKr ?_;rw[hX.out]));exact zec
theorem Es (kv:Value) (c r s i:Nat) (bt:Int) (hi:i<2) (w:World) (k0:Arr w c (nN kv r s bt)):
 CB 85 #[.pointer (some ⟨c,0,none⟩),.int .i64 (i:Int)] w (.bool false):=by
 have fQ:=zH Mk;have aI:=zH Et.1;have cR:=zH (HU (.slice none 0 0) [] zDc w (Sl.nil _));obtain⟨X,hX⟩:=zX xQ;rw[hX]at fQ aI cR;have h2:=k0.cell (Fi (j:=2) zDc);have h5:=k0.cell (Fi (j:=5) zDc);have i0:(0:Int)≤(i:Int):=zOm;have i1:(i:Int)<2:=zOm;clear hX;have bo:w.cell? ⟨c,67+i*3,none⟩=some (.slice none 0 0):=by
  have:i=0∨i=1:=zOm;rcases this with rfl|rfl
  ·exact h2
  ·exact h5
 clear h2 h5 k0;have kb:=zA6 w.heap.size w;go_enter Tryz.func85,Tryz.ntmps85;go_wp2_with fail;refine cR.out.mono ?_;rintro e w1 ⟨rfl,hb⟩;replace kb:=az kb hb;clear hb cR bo i0 i1;go_upto_region 2 with(refine aD rfl _ _ _ rfl _ X rfl rfl _ (Arr.new _ _ _) zb9 zb9 fQ.out (fun w4 k6 hg aB=>?_))
 replace kb:=az kb (a9 hg);clear hg aB k6 aI fQ;refine cH 9999 21 fun aP=>?_;refine dz ?_ 14 127 zaD [0,1,2,3,4,5,6] (fun _ _=>zRd) ?_;refine aY 7 255 rfl zDk (fun K hK=>?_);go_simp;refine hK (fun w'=>Below (w4).heap.size (w4) w') _ _ aP (fun _ h=>h) ?_;clear hK K;try simp only[Act.put,zSa,zSz,zSs]
 refine dz ?_ 0 2097151 zaD [8,9,10,11,12,13,14,15,16,17,18,19,20] (fun _ _=>zRd) ?_;refine ap zKr ?_;have kb:=az kb aP;exact zc4
def E80 (w:World) (u:Value):Prop:=∃(d cd:Nat) (bs:List UInt8),u=.slice (some ⟨d,0,none⟩) 80 cd∧bs.length=80∧Sl w u (aJ bs)
theorem E80.below {w w':World} {u:Value} (h:E80 w u) (hb:Below w.heap.size w w'):E80 w' u:=by
 obtain⟨d,cd,bs,e,h1,h2⟩:=h;exact⟨d,cd,bs,e,h1,h2.below hb⟩
theorem E80.kept {w w':World} {u z:Value} {g:Nat} (h:E80 w u) (hg:w.grownBy w' (some g)) (hz:w.cell? ⟨g,0,none⟩=some z) (jB:∀n,z≠.int .u8 n):E80 w' u:=by
 obtain⟨d,cd,bs,rfl,h1,h2⟩:=h;refine⟨d,cd,bs,rfl,h1,h2.ch (Ch.of_gr (M:=[g]) hg zac) (fun a n c e hm=>?_)⟩;cases e;have e:d=g:=(by simpa using hm);subst e;obtain⟨a,c,e2,-,-,-,h5⟩:=h2;have e3:some ⟨d,0,none⟩=a:=(by injection e2);subst e3
 match bs,h1,h5 with
 |b::bs,h1,h5=>
  exact zeq
theorem E80.kept0 {w w':World} {u:Value} (h:E80 w u) (hg:w.grownBy w' none):E80 w' u:=h.below ⟨hg.os,hg.tape,hg.output,hg.size,fun k hk=>hg.block k hk (fun e=>nomatch e)⟩
theorem E80.one {w:World} {u:Value} (h:E80 w u):u.oneCell'=true∧∀n,u≠.int .u8 n:=by
 obtain⟨d,cd,bs,rfl,-,-⟩:=h;exact⟨rfl,fun n e=>nomatch e⟩
theorem E80.new {w:World} {g:Nat} {x:UInt8} {pad:List Value} (h:Arr w g (aJ (List.replicate 80 x)++pad)):E80 w (.slice (some ⟨g,0,none⟩) 80 80):=
 ⟨g,80,List.replicate 80 x,rfl,by simp,by
  have q:=Sl.of_part (o:=0) (n:=80) (cap:=80) (cs:=aJ (List.replicate 80 x)) h (by simp[aJ]) zDc (by unfold maxLen;decide) (fun j hj=>by
   rw[Nat.zero_add,zA12 hj])
  exact q⟩
structure Rw (B:Nat) (w:World) (v:Value) (n:Nat):Prop where
 own:∃us,w.ownsRow B 24 1 v n us∧∀u∈us,E80 w u
 nil:n=0→v=.slice none 0 0
theorem Rw.below {B n:Nat} {w w':World} {v:Value} (h:Rw B w v n) (hb:Below w.heap.size w w'):Rw B w' v n:=by
 obtain⟨us,h1,h2⟩:=h.own;exact⟨⟨us,dg h1 hb,fun u hu=>(h2 u hu).below hb⟩,h.nil⟩
theorem Rw.nil0 (B:Nat) (w:World):Rw B w (.slice none 0 0) 0:=⟨⟨[],World.ownsRow_nil _ _ _ _,fun u hu=>by cases hu⟩,fun _=>rfl⟩
theorem Rw.zero {B n:Nat} {w:World} {v:Value} (h:Rw B w v n) {g:Nat} (hg:v.ownBlock=some g):B≤g∧∃z,w.cell? ⟨g,0,none⟩=some z∧∃a n c,z=.slice a n c:=by
 obtain⟨us,h1,h2⟩:=h.own;refine⟨gj h1 g hg,?_⟩
 by_cases h0:n=0
 ·rw[h.nil h0]at hg;cases hg
 ·obtain⟨g',cap,rfl,-,-,-,hr⟩:=gn h1 zOm;have e:g'=g:=(by simpa[Value.ownBlock]using hg);subst e
  match us,h1.1,hr,h2 with
  | [],hl,_,_=>simp at hl;omega
  |u::us,_,hr,h2=>
   obtain⟨d,cd,bs,rfl,-,-⟩:=h2 u zac;exact⟨_,hr 0 _ rfl,_,_,_,rfl⟩
theorem E80.grown {B n:Nat} {w w':World} {u v:Value} (h:E80 w u) (hr:Rw B w v n) (hg:w.grownBy w' v.ownBlock):E80 w' u:=by
 cases hv:v.ownBlock with
 |none=>rw[hv]at hg;exact h.kept0 hg
 |some g=>
  rw[hv]at hg;obtain⟨-,z,hz,a,m,c,rfl⟩:=hr.zero hv;exact h.kept hg hz (fun n e=>nomatch e)
def R80 (w:World) (v:Value):Prop:=∃(g c:Nat) (xs:List Value),v=.slice (some ⟨g,0,none⟩) 32 c∧Arr w g xs∧∀j,j<32→∃u,xs[j]? =some u∧E80 w u
theorem R80.below {w w':World} {v:Value} (h:R80 w v) (hb:Below w.heap.size w w'):R80 w' v:=by
 obtain⟨g,c,xs,e,h1,h2⟩:=h;exact⟨g,c,xs,e,h1.below hb,fun j hj=>by obtain⟨u,h3,h4⟩:=h2 j hj;exact⟨u,h3,h4.below hb⟩⟩
theorem R80.cell0 {w:World} {g c:Nat} (h:R80 w (.slice (some ⟨g,0,none⟩) 32 c)):∃z,w.cell? ⟨g,0,none⟩=some z∧∃a n c,z=.slice a n c:=by
 obtain⟨g',c',xs,e,h1,h2⟩:=h;cases e;obtain⟨u,h3,d,cd,bs,rfl,-⟩:=h2 0 zDc;exact⟨_,h1.cell h3,_,_,_,rfl⟩
theorem R80.kept {w w':World} {v z:Value} {g:Nat} (h:R80 w v) (hg:w.grownBy w' (some g)) (hz:w.cell? ⟨g,0,none⟩=some z) (jB:∀n,z≠.int .u8 n) (rW:v.ownBlock≠some g):R80 w' v:=by
 obtain⟨g',c,xs,rfl,h1,h2⟩:=h;refine⟨g',c,xs,rfl,h1.kept hg (fun e=>rW (by rw[←e];rfl)),fun j hj=>by obtain⟨u,h3,h4⟩:=h2 j hj;exact⟨u,h3,h4.kept hg hz jB⟩⟩
theorem Rw.full {B:Nat} {w:World} {v:Value} (h:Rw B w v 32):R80 w v:=by
 obtain⟨us,h1,h2⟩:=h.own;have hl:us.length=32:=h1.1;obtain⟨-,⟨-,h3⟩|⟨g,cap,cur,rfl,h4,h5,h6,h7,h8,h9⟩⟩:=h1
 ·exact absurd h3 zDc
 refine⟨g,cap,cur.toList,rfl,⟨_,by rw[Array.toArray_toList];exact h5⟩,fun j hj=>?_⟩;have q:us[j]? =cur.toList[j]? :=by
  rw[←h9,List.getElem?_take,if_pos zOm]
 obtain⟨u,hu⟩:∃u,us[j]? =some u:=⟨us[j]'zOm,zA7 _⟩;exact⟨u,by rw[←q];exact hu,h2 u (List.mem_of_getElem? hu)⟩
theorem oU {x:Nat} (hx:x<4294967296):bits .and .u32 (x:Int) 255=((x%256:Nat):Int):=by
 have:=tz (a:=x) (b:=255) hx zDc;rw[show(255:Nat)=2^8-1 by rfl,Nat.and_two_pow_sub_one_eq_mod]at this;exact this
theorem CN (k n c0:Nat) (w:World):
 CB 69 #[.agg (ag 32 k).toArray,.int .i64 (c0:Int),.agg (ag 12 n).toArray] w (.agg (ag 64 (fV k (c0%4294967296) n 64)).toArray):=by
 have ec:bits .and .i64 (c0:Int) 4294967295=((c0%4294967296:Nat):Int):=by
  rw[jx (c0:Int) 32 zDc 4294967295 zDc];omega
 obtain⟨c,rI⟩:=zX (c0%4294967296);have hc:c<4294967296:=zOm;rw[rI]at ec⊢;have uc:=eV hc;clear rI;go_enter Tryz.func69,Tryz.ntmps69;go_upto_region 1 with fail
 refine bZ (fun W aB k3 k5 k6 kb=>?_);have k3:Arr W w.heap.size (ag 32 k):=k3;have k5:Arr W (w.heap.size+1) (ag 12 n):=k5;have k6:Arr W (w.heap.size+1+1) (ag 64 0):=k6;clear aB;go_upto_region 2 with fail
 refine aH (fun w1 aB k7 hb=>?_);replace k7:Arr w1 W.heap.size (List.replicate 16 (.int .u32 0)):=k7;have h37:=k3.lt;have h57:=k5.lt;have h67:=k6.lt;obtain⟨k3,k5,k6⟩:=dZ k3 k5 k6 hb;replace kb:=az kb hb;obtain⟨g7,lW⟩:=zX W.heap.size;rw[lW]at k7 h37 h57 h67⊢;obtain⟨g3,kZ⟩:=zX w.heap.size;rw[kZ]at k3 k5 k6 h37 h57 h67⊢;clear hb aB lW;replace kZ:=zH kZ;go_upto_region 3 with(refine bM rfl _ _ _ rfl g7 0 (.int .u32 1634760805) rfl rfl _ k7 zKr zac rfl (fun w2 k7 hg aB=>?_))
 replace k3:=k3.kept hg zOm;replace k5:=k5.kept hg zOm;replace k6:=k6.kept hg zOm;replace kb:=aq kb hg zbv kb.size;clear hg aB;go_upto_region 4 with(refine bM rfl _ _ _ rfl g7 1 (.int .u32 857760878) rfl rfl _ k7 zKr zac rfl (fun w3 k7 hg aB=>?_))
 replace k3:=k3.kept hg zOm;replace k5:=k5.kept hg zOm;replace k6:=k6.kept hg zOm;replace kb:=aq kb hg zbv kb.size;clear hg aB;go_upto_region 5 with(refine bM rfl _ _ _ rfl g7 2 (.int .u32 2036477234) rfl rfl _ k7 zKr zac rfl (fun w4 k7 hg aB=>?_))
 replace k3:=k3.kept hg zOm;replace k5:=k5.kept hg zOm;replace k6:=k6.kept hg zOm;replace kb:=aq kb hg zbv kb.size;clear hg aB;go_upto_region 6 with(refine bM rfl _ _ _ rfl g7 3 (.int .u32 1797285236) rfl rfl _ k7 zKr zac rfl (fun w5 k7 hg aB=>?_))
 replace k3:=k3.kept hg zOm;replace k5:=k5.kept hg zOm;replace k6:=k6.kept hg zOm;replace kb:=aq kb hg zbv kb.size;clear hg aB;replace k7:Arr w5 g7 (ws (Dy k 0)):=k7;go_wp2_with fail;go_loopw[8] (fun iv wr=>∃i:Nat,i≤8∧iv=.int .i64 i∧Arr wr g3 (ag 32 k)∧Arr wr (g3+1) (ag 12 n)∧Arr wr (g3+1+1) (ag 64 0)∧Arr wr g7 (ws (Dy k i))∧Below w.heap.size w wr) (fun iv _=>8-(intOf iv).toNat)
 case atStart=>exact⟨0,by omega,rfl,k3,k5,k6,k7,kb⟩
 case round=>
 clear k3 k5 k6 k7 kb;obtain⟨i,hi,rfl,k3,k5,k6,k7,kb⟩:=hrel;have mA:(0:Int)≤(i:Int):=zOm
 by_cases iS:i<8
 ·have ub:(i:Int)<8:=zOm;obtain⟨j,hj⟩:=zX (4*i);obtain⟨m,hm⟩:=zX (4+i);have e4:4*(i:Int)=(j:Int):=zOm;have em:4+(i:Int)=(m:Int):=zOm;have uz:(0:Int)≤(j:Int):=zOm;have hj1:(j:Int)≤32:=zOm;have Zy:¬32=j:=zOm;have lZ:(0:Int)≤(m:Int):=zOm;have Vg:(m:Int)<16:=zOm;replace hj:=zH hj;replace hm:=zH hm;go_wp2_with fail;refine zQ (show CB 114 #[.slice (some ⟨g3,j,none⟩) (32-j) (32-j)] wr (.int .u32 ((kw k i:Nat):Int)) from by rw[←hj.out];exact Ep k3 zOm zOm) fun w9 hb=>?_;obtain⟨k3,k5,k6,k7⟩:=kJ k3 k5 k6 k7 hb;replace kb:=az kb hb;clear hb;obtain⟨x,hx⟩:=zX (kw k i);rw[hx];have aL:Hid ((ws (Dy k i)).set m (.int .u32 (x:Int))=ws (Dy k (i+1))):=zH zbt;clear hx;have aI:=zH (pj k i);go_wp2_with(refine bM rfl _ _ _ rfl g7 m (.int .u32 (x:Int)) rfl rfl _ k7 zKr zbu rfl (fun w6 k7 hg aB=>?_))
  rw[aL.out]at k7;have k3:=k3.kept hg zOm;have k5:=k5.kept hg zOm;have k6:=k6.kept hg zOm;have kb:=aq kb hg zbv kb.size;go_wp2_with fail;exact⟨⟨i+1,by omega,by go_num,k3,k5,k6,k7,kb⟩,by simp[intOf];omega⟩
 have dj:decide ((i:Int)<8)=false:=decide_eq_false zOm;have jM:Hid (i=8):=zH zOm;rw[jM.out]at k7;clear hi iS mA;obtain⟨ic,sG⟩:∃ic:Int,(i:Int)=ic:=⟨_,rfl⟩;rw[sG]at dj⊢;clear sG;have aL:Hid ((ws (Dy k 8)).set 12 (.int .u32 (c:Int))=ws (KQ ((Dy k 8).set 12 c) n 0)):=zH (by rw[eX];rfl);have aI:=zH (pj k 8);go_upto_region 11 with(refine bM rfl _ _ _ rfl g7 12 (.int .u32 (c:Int)) rfl rfl _ k7 zKr zbu rfl (fun w6 k7 hg aB=>?_))
 clear dj;rw[aL.out]at k7;replace k5:=k5.kept hg zOm;replace k6:=k6.kept hg zOm;replace kb:=aq kb hg zbv kb.size;have BW:Hid (((Dy k 8).set 12 c).length=16):=zH (by rw[zA23];exact pj k 8);obtain⟨l0,hl⟩:=zX ((Dy k 8).set 12 c);rw[hl]at k7 BW;replace hl:=zH hl;clear hg aB aL aI ec uc k3;go_wp2_with fail;go_loopw[9] (fun iv wr=>∃i:Nat,i≤3∧iv=.int .i64 i∧Arr wr (g3+1) (ag 12 n)∧Arr wr (g3+1+1) (ag 64 0)∧Arr wr g7 (ws (KQ l0 n i))∧Below w.heap.size w wr) (fun iv _=>3-(intOf iv).toNat)
 case atStart=>exact⟨0,by omega,rfl,k5,k6,k7,kb⟩
 case round=>
 clear k5 k6 k7 kb;obtain⟨i,hi,rfl,k5,k6,k7,kb⟩:=hrel;have mA:(0:Int)≤(i:Int):=zOm
 by_cases iS:i<3
 ·have ub:(i:Int)<3:=zOm;obtain⟨j,hj⟩:=zX (4*i);obtain⟨m,hm⟩:=zX (13+i);have e4:4*(i:Int)=(j:Int):=zOm;have em:13+(i:Int)=(m:Int):=zOm;have uz:(0:Int)≤(j:Int):=zOm;have hj1:(j:Int)≤12:=zOm;have Zy:¬12=j:=zOm;have lZ:(0:Int)≤(m:Int):=zOm;have Vg:(m:Int)<16:=zOm;replace hj:=zH hj;replace hm:=zH hm;go_wp2_with fail;refine zQ (show CB 114 #[.slice (some ⟨g3+1,j,none⟩) (12-j) (12-j)] wr (.int .u32 ((kw n i:Nat):Int)) from by rw[←hj.out];exact Ep k5 zOm zOm) fun w9 hb=>?_;obtain⟨k5,k6,k7⟩:=dZ k5 k6 k7 hb;replace kb:=az kb hb;clear hb;obtain⟨x,hx⟩:=zX (kw n i);rw[hx];have aL:Hid ((ws (KQ l0 n i)).set m (.int .u32 (x:Int))=ws (KQ l0 n (i+1))):=zH zbt;clear hx;have aI:=zH (A6 BW.out n i)
  go_wp2_with(refine bM rfl _ _ _ rfl g7 m (.int .u32 (x:Int)) rfl rfl _ k7 zKr zbu rfl (fun w6 k7 hg aB=>?_));rw[aL.out]at k7;have k5:=k5.kept hg zOm;have k6:=k6.kept hg zOm;have kb:=aq kb hg zbv kb.size;go_wp2_with fail;exact⟨⟨i+1,by omega,by go_num,k5,k6,k7,kb⟩,by simp[intOf];omega⟩
 have dj:decide ((i:Int)<3)=false:=decide_eq_false zOm;have jM:Hid (i=3):=zH zOm;rw[jM.out]at k7;clear hi iS mA;obtain⟨ic,sG⟩:∃ic:Int,(i:Int)=ic:=⟨_,rfl⟩;rw[sG]at dj⊢;clear sG;have lO:Hid (KQ l0 n 3=v8 k c n):=zH (by rw[←hl.out];rfl);rw[lO.out]at k7;have hs:Hid ((v8 k c n).length=16∧W32 (v8 k c n)):=zH ⟨Bl k c n,Lk k n hc⟩;obtain⟨s,NK⟩:=zX (v8 k c n);rw[NK]at hs k7;replace NK:=zH NK;go_upto_region 16 with(first|(refine ab rfl _ _ rfl _ rfl zDk _ k7 zby ?_)|(refine aD rfl _ _ _ rfl _ (ws s) rfl rfl _ (Arr.new _ _ _) zby zbz (oH _) (fun w3 k8 hg aB=>?_)))
 clear dj;have hb:=a9 hg;have h78:=k7.lt;replace k6:=k6.below hb;replace k7:=k7.below hb;replace kb:=az kb hb;obtain⟨g8,AM⟩:=zX wr.heap.size;rw[AM]at k8 h78⊢;clear hb aB AM hg k5 h37 h57;obtain⟨g6,lV⟩:=zX (g3+1+1);rw[lV]at k6 h67;have hw6:g3<g6:=zOm;have hw7:w.heap.size<g6:=(by rw[kZ.out];exact hw6);go_wp2_with fail;go_loopw[11] (fun iv wr=>∃r:Nat,r≤10∧iv=.int .i64 r∧Arr wr g6 (ag 64 0)∧Arr wr g7 (ws s)∧Arr wr g8 (ws (xV s r))∧Below w.heap.size w wr) (fun iv _=>10-(intOf iv).toNat)
 case atStart=>exact⟨0,by omega,rfl,k6,k7,k8,kb⟩
 case round=>
 clear k6 k7 k8 kb;obtain⟨r,hr,rfl,k6,k7,k8,kb⟩:=hrel;have JS:(0:Int)≤(r:Int):=zOm
 by_cases hrn:r<10
 ·have og:(r:Int)<10:=zOm;have ok:=zH (wm hs.out r);obtain⟨t,ht⟩:=zX (xV s r);rw[ht]at ok k8;obtain⟨t1,vE⟩:=zX (qr t 0 4 8 12);obtain⟨t2,AQ⟩:=zX (qr t1 1 5 9 13);obtain⟨t3,ht3⟩:=zX (qr t2 2 6 10 14);obtain⟨t4,ht4⟩:=zX (qr t3 3 7 11 15);obtain⟨t5,ht5⟩:=zX (qr t4 0 5 10 15);obtain⟨t6,ht6⟩:=zX (qr t5 1 6 11 12);obtain⟨t7,ht7⟩:=zX (qr t6 2 7 8 13);obtain⟨t8,ht8⟩:=zX (qr t7 3 4 9 14);have hR:Hid (t8=xV s (r+1)):=zH (by rw[xV,ht,←ht8,←ht7,←ht6,←ht5,←ht4,←ht3,←AQ,←vE];rfl);replace vE:=zH vE;replace AQ:=zH AQ;replace ht3:=zH ht3;replace ht4:=zH ht4;replace ht5:=zH ht5;replace ht6:=zH ht6;replace ht7:=zH ht7;replace ht8:=zH ht8;clear ht;go_wp2_with fail;refine(ik (g:=g8) (a:=0) (b:=4) (c:=8) (d:=12) _ ok.out.1 ok.out.2 zDc zDc zDc zDc k8).mono ?_;rintro e w9 ⟨rfl,k8,hg⟩;replace k6:=k6.kept hg zOm;replace k7:=k7.kept hg zOm;replace kb:=aq kb hg zOm kb.size;clear hg
  replace ok:=zH (show t1.length=16∧W32 t1 from by rw[←vE.out];exact⟨by rw[pw];exact ok.out.1,uC ok.out.2 _ _ _ _⟩);rw[vE.out]at k8;go_wp2_with fail;refine(ik (g:=g8) (a:=1) (b:=5) (c:=9) (d:=13) _ ok.out.1 ok.out.2 zDc zDc zDc zDc k8).mono ?_;rintro e w9 ⟨rfl,k8,hg⟩;replace k6:=k6.kept hg zOm;replace k7:=k7.kept hg zOm;replace kb:=aq kb hg zOm kb.size;clear hg;replace ok:=zH (show t2.length=16∧W32 t2 from by rw[←AQ.out];exact⟨by rw[pw];exact ok.out.1,uC ok.out.2 _ _ _ _⟩);rw[AQ.out]at k8;go_wp2_with fail;refine(ik (g:=g8) (a:=2) (b:=6) (c:=10) (d:=14) _ ok.out.1 ok.out.2 zDc zDc zDc zDc k8).mono ?_;rintro e w9 ⟨rfl,k8,hg⟩;replace k6:=k6.kept hg zOm;replace k7:=k7.kept hg zOm;replace kb:=aq kb hg zOm kb.size;clear hg;replace ok:=zH (show t3.length=16∧W32 t3 from by rw[←ht3.out];exact⟨by rw[pw];exact ok.out.1,uC ok.out.2 _ _ _ _⟩);rw[ht3.out]at k8;go_wp2_with fail
  refine(ik (g:=g8) (a:=3) (b:=7) (c:=11) (d:=15) _ ok.out.1 ok.out.2 zDc zDc zDc zDc k8).mono ?_;rintro e w9 ⟨rfl,k8,hg⟩;replace k6:=k6.kept hg zOm;replace k7:=k7.kept hg zOm;replace kb:=aq kb hg zOm kb.size;clear hg;replace ok:=zH (show t4.length=16∧W32 t4 from by rw[←ht4.out];exact⟨by rw[pw];exact ok.out.1,uC ok.out.2 _ _ _ _⟩);rw[ht4.out]at k8;go_wp2_with fail;refine(ik (g:=g8) (a:=0) (b:=5) (c:=10) (d:=15) _ ok.out.1 ok.out.2 zDc zDc zDc zDc k8).mono ?_;rintro e w9 ⟨rfl,k8,hg⟩;replace k6:=k6.kept hg zOm;replace k7:=k7.kept hg zOm;replace kb:=aq kb hg zOm kb.size;clear hg;replace ok:=zH (show t5.length=16∧W32 t5 from by rw[←ht5.out];exact⟨by rw[pw];exact ok.out.1,uC ok.out.2 _ _ _ _⟩);rw[ht5.out]at k8;go_wp2_with fail;refine(ik (g:=g8) (a:=1) (b:=6) (c:=11) (d:=12) _ ok.out.1 ok.out.2 zDc zDc zDc zDc k8).mono ?_;rintro e w9 ⟨rfl,k8,hg⟩;replace k6:=k6.kept hg zOm
  replace k7:=k7.kept hg zOm;replace kb:=aq kb hg zOm kb.size;clear hg;replace ok:=zH (show t6.length=16∧W32 t6 from by rw[←ht6.out];exact⟨by rw[pw];exact ok.out.1,uC ok.out.2 _ _ _ _⟩);rw[ht6.out]at k8;go_wp2_with fail;refine(ik (g:=g8) (a:=2) (b:=7) (c:=8) (d:=13) _ ok.out.1 ok.out.2 zDc zDc zDc zDc k8).mono ?_;rintro e w9 ⟨rfl,k8,hg⟩;replace k6:=k6.kept hg zOm;replace k7:=k7.kept hg zOm;replace kb:=aq kb hg zOm kb.size;clear hg;replace ok:=zH (show t7.length=16∧W32 t7 from by rw[←ht7.out];exact⟨by rw[pw];exact ok.out.1,uC ok.out.2 _ _ _ _⟩);rw[ht7.out]at k8;go_wp2_with fail;refine(ik (g:=g8) (a:=3) (b:=4) (c:=9) (d:=14) _ ok.out.1 ok.out.2 zDc zDc zDc zDc k8).mono ?_;rintro e w9 ⟨rfl,k8,hg⟩;replace k6:=k6.kept hg zOm;replace k7:=k7.kept hg zOm;replace kb:=aq kb hg zOm kb.size;clear hg
  replace ok:=zH (show t8.length=16∧W32 t8 from by rw[←ht8.out];exact⟨by rw[pw];exact ok.out.1,uC ok.out.2 _ _ _ _⟩);rw[ht8.out]at k8;rw[hR.out]at k8;exact zfb
 have dj:decide ((r:Int)<10)=false:=decide_eq_false zOm;have jM:Hid (r=10):=zH zOm;rw[jM.out]at k8;clear hr hrn JS;obtain⟨ic,sG⟩:∃ic:Int,(r:Int)=ic:=⟨_,rfl⟩;rw[sG]at dj⊢;clear sG;go_upto_region 28 with fail
 clear dj;refine aH (fun w4 aB k11 hb=>?_);replace k11:Arr w4 wr.heap.size (ag 64 0):=k11;have h6l:=k6.lt;have h7l:=k7.lt;have h8l:=k8.lt;obtain⟨k6,k7,k8⟩:=dZ k6 k7 k8 hb;replace kb:=az kb hb;obtain⟨g11,j8⟩:=zX wr.heap.size;rw[j8]at k11 h6l h7l h8l⊢;clear hb aB j8;obtain⟨v,hv⟩:=zX (xV s 10);have Z5:=zH (show v.length=16∧W32 v by rw[←hv];exact wm hs.out 10);rw[hv]at k8;replace hv:=zH hv;go_wp2_with fail;go_loopw[13] (fun iv wr=>∃j:Nat,j≤64∧iv=.int .i64 j∧Arr wr g6 (ag 64 0)∧Arr wr g7 (ws s)∧Arr wr g8 (ws v)∧Arr wr g11 (ag 64 (fV k c n j))∧Below w.heap.size w wr) (fun iv _=>64-(intOf iv).toNat)
 case atStart=>exact⟨0,by omega,rfl,k6,k7,k8,k11,kb⟩
 case round=>
 clear k6 k7 k8 k11 kb;obtain⟨j,hj,rfl,k6,k7,k8,k11,kb⟩:=hrel;have uz:(0:Int)≤(j:Int):=zOm
 by_cases hjn:j<64
 ·have hj1:(j:Int)<64:=zOm;obtain⟨q,hq⟩:=zX (j/4);have wI:q<16:=zOm;have fq:Int.tdiv (j:Int) 4=(q:Int):=(by rw[Int.tdiv_eq_ediv_of_nonneg uz];omega);have fw:IntKind.i64.wrap (q:Int)=(q:Int):=i64_in zOm;have Uv:(0:Int)≤(q:Int):=zOm;have XZ:(q:Int)<16:=zOm;have dP:=bL (l:=v) (j:=q) zbB;have ff:=bL (l:=s) (j:=q) zbC;have lx:=Z5.out.2.get q;have ly:=hs.out.2.get q;obtain⟨x,hx⟩:=zX (v.getD q 0);obtain⟨y,hy⟩:=zX (s.getD q 0);rw[hx]at dP lx;rw[hy]at ff ly;obtain⟨z,hz⟩:=zX ((x+y)%4294967296);have lz:z<4294967296:=zOm;have fz:IntKind.u32.wrap ((x:Int)+(y:Int))=(z:Int):=za1;have fP:Hid (DD k c n j=z/256^(j%4)%256):=zH zbD;replace dP:=zH dP;replace ff:=zH ff;clear hx hy hz;go_upto_region 31 with fail
  obtain⟨wq,rfl⟩:∃wq:World,wq=wr:=⟨_,rfl⟩;refine cH 9999 10 fun aP=>?_;refine dz ?_ 0 1023 zaD [0,1,2,3,4,5,6,7,8,9] (fun w' hB=>by have e1:=(k8.below hB).cell dP.out;have e2:=(k7.below hB).cell ff.out;exact zRd) ?_;refine ap zKr ?_;obtain⟨k6,k7,k8,k11⟩:=kJ k6 k7 k8 k11 aP;replace kb:=az kb aP;clear aP dP ff lx ly fz fq fw Uv XZ;have he4:j%4=0∨j%4=1∨j%4=2∨j%4=3:=zOm;rcases he4 with he|he|he|he
  ·have ft:Int.tmod (j:Int) 4=0:=zbE;replace he:=zH he;have fs:IntKind.i64.wrap 0=0:=zDc;have fu:IntKind.u64.wrap 0=0:=zDc;obtain⟨bv,Jr⟩:=zX (z/256^0%256);have fa:bits .and .u32 (z:Int) 255=(bv:Int):=by
    rw[show(z:Int)=((z/256^0:Nat):Int) by omega,oU zOm,Jr]
   have fb:IntKind.u8.wrap (bv:Int)=(bv:Int):=zco;have aL:Hid ((ag 64 (fV k c n j)).set j (.int .u8 (bv:Int))=ag 64 (fV k c n (j+1))):=zH (by
    have q:=oV (f:=(z:Int)) fP.out he.out zOm;rw[show(z:Int)=((z/256^0:Nat):Int) by omega,i7,Jr]at q;exact q)
   exact zc1
  ·have ft:Int.tmod (j:Int) 4=1:=zbE;replace he:=zH he;have fs:IntKind.i64.wrap 8=8:=zDc;have fu:IntKind.u64.wrap 8=8:=zDc;obtain⟨bv,Jr⟩:=zX (z/256^1%256);have fa:bits .and .u32 ((z:Int)/256) 255=(bv:Int):=by
    rw[show((z:Int)/256)=((z/256^1:Nat):Int) by omega,oU zOm,Jr]
   have fb:IntKind.u8.wrap (bv:Int)=(bv:Int):=zco;have aL:Hid ((ag 64 (fV k c n j)).set j (.int .u8 (bv:Int))=ag 64 (fV k c n (j+1))):=zH (by
    have q:=oV (f:=((z:Int)/256)) fP.out he.out zOm;rw[show((z:Int)/256)=((z/256^1:Nat):Int) by omega,i7,Jr]at q;exact q)
   exact zc1
  ·have ft:Int.tmod (j:Int) 4=2:=zbE;replace he:=zH he;have fs:IntKind.i64.wrap 16=16:=zDc;have fu:IntKind.u64.wrap 16=16:=zDc;obtain⟨bv,Jr⟩:=zX (z/256^2%256);have fa:bits .and .u32 ((z:Int)/65536) 255=(bv:Int):=by
    rw[show((z:Int)/65536)=((z/256^2:Nat):Int) by omega,oU zOm,Jr]
   have fb:IntKind.u8.wrap (bv:Int)=(bv:Int):=zco;have aL:Hid ((ag 64 (fV k c n j)).set j (.int .u8 (bv:Int))=ag 64 (fV k c n (j+1))):=zH (by
    have q:=oV (f:=((z:Int)/65536)) fP.out he.out zOm;rw[show((z:Int)/65536)=((z/256^2:Nat):Int) by omega,i7,Jr]at q;exact q)
   exact zc1
  ·have ft:Int.tmod (j:Int) 4=3:=zbE;replace he:=zH he;have fs:IntKind.i64.wrap 24=24:=zDc;have fu:IntKind.u64.wrap 24=24:=zDc;obtain⟨bv,Jr⟩:=zX (z/256^3%256);have fa:bits .and .u32 ((z:Int)/16777216) 255=(bv:Int):=by
    rw[show((z:Int)/16777216)=((z/256^3:Nat):Int) by omega,oU zOm,Jr]
   have fb:IntKind.u8.wrap (bv:Int)=(bv:Int):=zco;have aL:Hid ((ag 64 (fV k c n j)).set j (.int .u8 (bv:Int))=ag 64 (fV k c n (j+1))):=zH (by
    have q:=oV (f:=((z:Int)/16777216)) fP.out he.out zOm;rw[show((z:Int)/16777216)=((z/256^3:Nat):Int) by omega,i7,Jr]at q;exact q)
   exact zc1
 have dj:decide ((j:Int)<64)=false:=decide_eq_false zOm;have jM:Hid (j=64):=zH zOm;rw[jM.out]at k11;go_wp2_with(first|(refine ab rfl _ _ rfl _ rfl zDk _ k11 zbx ?_)|(refine aD rfl _ _ _ rfl _ (ag 64 (fV k c n 64)) rfl rfl _ k6 zbx za3 (bm _ _) (fun w7 k6 hg aB=>?_)));have qb:=aq kb hg zOm kb.size;exact bodyPost_ret (aj Tryz.results69 _ _ _ rfl zKr _ k6 zbx) rfl ⟨rfl,qb⟩
end Go.Proofs.YtgfkgolafkdjfaaGreatDoor
