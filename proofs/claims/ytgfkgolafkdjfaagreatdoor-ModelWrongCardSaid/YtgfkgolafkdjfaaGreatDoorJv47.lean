/- ModelWrong: part 47 of its proof: lemmas and contracts, each with its conditions in its own statement; the last part holds the law itself. -/
import Derived.Test.YtgfkgolafkdjfaaGreatDoorJv46
import Derived.Lib.AppendStr

set_option maxHeartbeats 4000000
set_option maxRecDepth 100000
namespace Go.Proofs.YtgfkgolafkdjfaaGreatDoor
open Go.RowKit
theorem Wd (b:Nat) (hb:b<256^32) (ee:(iZ b).2=true) (w:World) (kD:Arr w 4 (el (dQ dN))) (kR:Arr w 6 (el (dQ iN))):
 CB 56 #[.agg (ay b).toArray] w (.bool true):=by
 have c:=zH (fun w=>Tc b hb ee w);replace kD:=zH kD;replace kR:=zH kR;clear hb ee;go_enter Tryz.func56,Tryz.ntmps56;go_upto_region 1 with fail
 refine aH (fun W aB k1 kb=>?_);clear aB;go_wp2_with(refine aR ?_);refine(c.out _ (kD.out.below kb) (kR.out.below kb)).mono ?_;rintro e w1 ⟨V,rfl,hb⟩;replace kb:=az kb hb;clear hb k1 c;go_upto_region 2 with(refine aD rfl _ _ _ rfl _ (rq V) rfl rfl _ (Arr.new _ _ _) zcC (by rw[eI];rfl) (qG _) (fun w2 k3 hg aB=>?_))
 have hb:=a9 hg;replace kb:=az kb hb;clear hb hg aB k3;exact zc4
theorem OD (K k:Nat) (i:Int) (hk:k<256^32) (hi:0≤i∧i≤2147483647) (ee:(iZ k).2=true) (w:World) (g:Gl w):
 CB 32 #[.agg (ay K).toArray,.int .i64 i,.agg (ay k).toArray] w (.tuple #[.agg (Yz K i k).toArray,.int .i64 0]):=by
 have cM:=zH (fun w=>qt i hi.1 hi.2 w);have cV:=zH (fun w kD kR=>Wd k hk ee w kD kR);have cB:=zH (fun w=>Km i k w);obtain⟨B,hB⟩:=zX (jT++(bS [i]++nb 32 k));have hBl:B.length=44:=(by rw[←hB];simp[jT,de,aC]);have cS:Hid (∀w' d c,Sl w' (.slice d 44 c) (aJ B)→Gl w'→CB 57 #[.agg (ay K).toArray,.slice d 44 c] w' (.agg (mS (uF K B) (xv K B)).toArray)):=zH (fun w' d c h1 h2=>by
  have q:=EI K d c B zOm w' (by rw[hBl];exact h1) h2;rwa[hBl]at q)
 unfold Yz;rw[hB]at cB⊢;obtain⟨R,hR⟩:=zX (uF K B);obtain⟨s,hs⟩:=zX (xv K B);rw[hR,hs]at cS⊢;replace g:=zH g;replace hBl:=zH hBl;clear hB hR hs hk hi ee;go_enter Tryz.func32,Tryz.ntmps32;go_upto_region 1 with fail
 refine bZ (fun W aB k3 k5 k6 kb=>?_);replace k6:Arr W (w.heap.size+1+1) (jZ 0 0 0 0):=k6;clear aB;go_wp2_with fail;refine zQ (cM.out _) fun mU dG=>?_;obtain⟨k3,k5,k6⟩:=dZ k3 k5 k6 dG;have kb:=az kb dG;clear dG;go_wp2_with(refine aR ?_);refine zQ (cV.out _ (g.out.below kb).d (g.out.below kb).r) fun i8 dA=>?_;obtain⟨k3,k5,k6⟩:=dZ k3 k5 k6 dA;have kb:=az kb dA;clear dA;have g6:=zH (g.out.below kb);go_upto_region 6 with fail
 refine cH 8 10 fun bB=>?_;refine eZ ?_ 5 31 zaI [0,1,2,3,4] (fun w' hB=>by obtain⟨y5,y3⟩:=fZ k5 k3 hB;exact zRd) ?_;refine aY 5 63 rfl zDk (fun K hK=>?_);go_simp;refine(cB.out _).mono ?_;rintro e pJ ⟨u,rfl,dI,fG⟩;have b9:=aW bB (zA0 _) fG;refine hK (fun w'=>Below (i8).heap.size (i8) w') _ _ b9 (fun _ h=>h) ?_;clear hK K bB;try simp only[Act.put,zSa,zSz,zSs]
 obtain⟨au,cu,rfl⟩:=dI.shp;have dI:=dI.sl;rw[hBl.out]at dI⊢;refine eg 6 127 b9 (cS.out _ _ _ dI (g6.out.below b9)) fun m9 di=>?_;refine tu (A:=?_) 2 255 zKr zaK [7] zKr ?_ ?_;rotate_left
 ·intro w' hB;iterate 1 (first|(refine db rfl rfl ?_;simp only[Act.put,zSa,zSz,zSs])|(refine bN rfl rfl _ _ rfl _ rfl zDk _ zAm zLn ?_;simp only[Act.put,zSa,zSz,zSs])|(refine dw rfl rfl _ _ rfl (jZ i k R s).toArray zKr ?_;simp only[Act.put,zSa,zSz,zSs])|(refine cj (v:=?_) rfl rfl ?_ ?_;rotate_left;(focus (go_simp;try(with_reducible rfl)));simp only[Act.put,zSa,zSz,zSs]))
  exact eo
 have k6:=k6.below di;have kb:=az kb di;refine kO 511 ?_;refine eZ ?_ 0 1023 zaC [9] (fun _ _=>zRd) ?_;refine ap zKr ?_
 first|refine aV k6 (fun qD k6 ad ak=>?_)|refine eu k6 (fun qD k6 ad ak=>?_)
 have kb:=ak _ _ zOm kb;clear ad ak;go_wp2_with fail;exact bodyPost_ret (aT Tryz.results32 _ _ _ _ rfl Tryz.underlying82 rfl _ k6 (by rw[nO];kernel_rfl) _ rfl) rfl ⟨rfl,kb⟩
theorem OK (v b:Int) (root:Nat) (a:Option Addr) (c:Nat) (wl:List UInt8) (nA:wl.length=80) (i:Int) (k R1 s1 R s:Nat) (hv:0≤v) (lP:v≤2147483647) (hb:1≤b) (hb2:b≤32) (hi:0≤i) (IS:i≤2147483647) (w:World) (hw:Sl w (.slice a 80 c) (aJ wl)):
 Calls Tryz.prog 38 #[.agg (bU v b root (.slice a 80 c) i k R1 s1 R s).toArray] w fun e w'=>
  ∃u,e=.returned (.tuple #[u,.int .i64 0])∧OB w.heap.size w' u (fj v b root wl i k R1 s1++(nb 32 R++nb 32 s))∧Below w.heap.size w w':=by
 have cB:=zH (fun w hw=>ED v b root a c wl nA i k R1 s1 R s hv lP hb hb2 hi IS w hw);have aI:=a8 v b root (.slice a 80 c) i k R1 s1 R s;have hBl:=mq v b root wl i k R1 s1 nA;obtain⟨B,hB⟩:=zX (fj v b root wl i k R1 s1);rw[hB]at cB hBl⊢;replace hw:=zH hw;replace hBl:=zH hBl;clear hv lP hb hb2 hi IS hB;go_enter Tryz.func38,Tryz.ntmps38;go_upto_region 1 with fail
 refine aH (fun W aB k1 kb=>?_);replace k1:Arr W w.heap.size (bU v b root (.slice a 80 c) i k R1 s1 R s):=k1;clear aB;go_wp2_with(refine ab rfl _ _ rfl _ rfl zDk _ k1 (by rw[aI];kernel_rfl) ?_);refine(cB.out _ (hw.out.below kb)).mono ?_;rintro e w2 ⟨u,rfl,ho,hb⟩;have sg:=zH (Vz (k1.below hb));clear cB k1;go_wp2_with(at_builtin;refine jL (W:=W) rfl _ _ rfl rfl rfl ho sg.out hb (by rw[hBl.out,zA5,aC,aC];decide) (fun u9 wd Uu Jn _=>?_));go_ret2;exact⟨u9,rfl,Uu.mono kb.size,az kb Jn⟩
theorem OL (K:Nat) (v b:Int) (root:Nat) (a:Option Addr) (c:Nat) (wl:List UInt8) (nA:wl.length=80) (i:Int) (k R1 s1 R s:Nat) (hv:0≤v) (lP:v≤2147483647) (hb:1≤b) (hb2:b≤32) (hi:0≤i) (IS:i≤2147483647) (w:World) (hw:Sl w (.slice a 80 c) (aJ wl)) (g:Gl w):
 Calls Tryz.prog 36 #[.agg (ay K).toArray,.agg (bU v b root (.slice a 80 c) i k R1 s1 R s).toArray] w fun e w'=>
  ∃g c',e=.returned (.tuple #[.agg (bU v b root (.slice (some ⟨g,0,none⟩) 80 c') i k R1 s1 (uF K (fj v b root wl i k R1 s1)) (xv K (fj v b root wl i k R1 s1))).toArray,.int .i64 0])∧OB w.heap.size w' (.slice (some ⟨g,0,none⟩) 80 c') wl∧Below w.heap.size w w':=by
 have cB:=zH (fun w hw=>ED v b root a c wl nA i k R1 s1 R s hv lP hb hb2 hi IS w hw);have aI:=a8 v b root (.slice a 80 c) i k R1 s1 R s;have hBl:=mq v b root wl i k R1 s1 nA;obtain⟨B,hB⟩:=zX (fj v b root wl i k R1 s1);rw[hB]at cB hBl⊢;have cS:Hid (∀w' d c,Sl w' (.slice d 236 c) (aJ B)→Gl w'→CB 57 #[.agg (ay K).toArray,.slice d 236 c] w' (.agg (mS (uF K B) (xv K B)).toArray)):=zH (fun w' d c h1 h2=>by
  have q:=EI K d c B zOm w' (by rw[hBl];exact h1) h2;rwa[hBl]at q)
 obtain⟨R',hR'⟩:=zX (uF K B);obtain⟨s',L7⟩:=zX (xv K B);rw[hR',L7]at cS⊢;replace hw:=zH hw;replace g:=zH g;replace hBl:=zH hBl;replace nA:=zH nA;clear hv lP hb hb2 hi IS hB hR' L7;go_enter Tryz.func36,Tryz.ntmps36;go_upto_region 1 with fail
 refine bZ (fun W aB k2 k3 k4 kb=>?_);replace k3:Arr W (w.heap.size+1) (bU v b root (.slice a 80 c) i k R1 s1 R s):=k3;replace k4:Arr W (w.heap.size+1+1) (bU 0 0 0 (.slice none 0 0) 0 0 0 0 0 0):=k4;clear aB;go_wp2_with(refine ab rfl _ _ rfl _ rfl zDk _ k3 (by rw[aI];kernel_rfl) ?_);refine(cB.out _ (hw.out.below kb)).mono ?_;rintro e w2 ⟨u,rfl,ho,hb⟩;obtain⟨gu,cu,rfl,hgu,-⟩:=ho.rng (by rw[hBl.out];decide);rw[hBl.out]at ho⊢;have lt4:=k4.lt;obtain⟨k2,k3,k4⟩:=dZ k2 k3 k4 hb;replace kb:=az kb hb;clear cB;have y34:=vG k3;go_wp2_with(at_builtin;refine jL (W:=w2) rfl _ _ rfl rfl rfl (OB.nil _ _) (hw.out.below kb) (zA6 _ _) (by rw[nA.out];decide) ?_);intro u2 w3 rJ hb2 _;obtain⟨g9,c',rfl,ND,-⟩:=rJ.rng (by rw[nA.out];decide);rw[nA.out]at rJ⊢;obtain⟨k2,k3,k4⟩:=dZ k2 k3 k4 hb2;replace ho:=ho.below hb2;have rK:w.heap.size+1+1<w2.heap.size:=zA3 lt4 hb.size;replace kb:=az kb hb2;clear hb2 y34 hw hb
 go_upto_region 5 with(refine bM rfl _ _ _ rfl _ 34 (.slice (some ⟨g9,0,none⟩) 80 c') rfl rfl _ k3 zDk (by rw[aI];decide) rfl (fun w4 k3' mT adI=>?_))
 rw[Eu]at k3';replace k2:=k2.kept mT zOm;replace k4:=k4.kept mT zOm;replace ho:OB _ w4 _ _:=fH ho mT zcp;replace rJ:OB _ w4 _ _:=fH rJ mT zcp;replace kb:=aq kb mT zOm kb.size;clear mT k3 adI;have sb:=zH ho.sl;clear ho;go_wp2_with(refine aR ?_);refine zQ (cS.out _ _ _ sb.out (g.out.below kb)) fun w5 hb=>?_;replace k3':=k3'.below hb;replace k4:=k4.below hb;replace rJ:=rJ.below hb;replace kb:=az kb hb;clear hb sb cS g k2;have adg:=a8 v b root (.slice (some ⟨g9,0,none⟩) 80 c') i k R1 s1 R s;go_upto_region 6 with(refine eU rfl _ _ _ rfl (w.heap.size+1) 132 (mS R' s') rfl rfl _ k3' zce (by rw[fI,adg];decide) (tR _ _) (fun w6 k3'' lV=>?_))
 rw[Cr]at k3'';replace k4:=k4.kept lV zOm;replace rJ:OB _ w6 _ _:=fH rJ lV zcp;replace kb:=aq kb lV zOm kb.size;clear lV k3';go_wp2_with(first|(refine ab rfl _ _ rfl _ rfl zDk _ k3'' zcf ?_)|(refine aD rfl _ _ _ rfl _ (bU v b root (.slice (some ⟨g9,0,none⟩) 80 c') i k R1 s1 R' s') rfl rfl _ k4 zcf (by rw[a8,a8]) (jd _ _ _ _ _ _ _ _ _ _ rfl) (fun w7 k4' lW Hx=>?_)));replace rJ:OB _ w7 _ _:=fH rJ lW zcp;replace kb:=aq kb lW zOm kb.size;exact bodyPost_ret (aT Tryz.results36 _ _ _ _ rfl Tryz.underlying88 rfl _ k4' zcf _ rfl) rfl ⟨g9,c',rfl,rJ.mono zOm,kb⟩
theorem Gi (r s d k:Nat) (w:World) (g:Gl w):
 CB 30 #[.agg (fS r s d k).toArray] w (.agg (ay (ev r)).toArray):=by
 have c:=zH (fun w g=>th r w g);obtain⟨R,hR⟩:=zX (ev r);rw[hR,dJ r]at c;rw[hR];replace g:=zH g;clear hR;go_enter Tryz.func30,Tryz.ntmps30;go_upto_region 1 with fail
 refine be (fun W aB k1 k2 kb=>?_);have y:=KH (show Arr W w.heap.size (fS r s d k)from k1);replace k2:Arr W (w.heap.size+1) (ay 0):=k2;clear aB k1;go_wp2_with(refine aE rfl _ _ rfl _ _ rfl zKr _ y zbx ?_);refine zQ (c.out _ (g.out.below kb)) fun w1 hb=>?_;replace k2:=k2.below hb;replace kb:=az kb hb;clear hb y g c;go_wp2_with(refine aU ?_);exact bodyPost_ret (aj Tryz.results30 _ _ _ rfl zKr _ zaE zLn) rfl ⟨rfl,ah kb zOm _⟩
theorem FR (r s d k:Nat) (w:World) (g:Gl w):
 CB 14 #[.agg (fS r s d k).toArray] w (.agg (ay (ev r)).toArray):=by
 have c:=zH (fun w g=>Gi r s d k w g);obtain⟨R,hR⟩:=zX (ev r);rw[hR]at c⊢;replace g:=zH g;clear hR;go_enter Tryz.func14,Tryz.ntmps14;go_upto_region 1 with fail
 refine be (fun W aB k1 k2 kb=>?_);replace k1:Arr W w.heap.size (fS r s d k):=k1;replace k2:Arr W (w.heap.size+1) (ay 0):=k2;clear aB;go_wp2_with(refine ab rfl _ _ rfl _ rfl zDk _ k1 zcS ?_);refine zQ (c.out _ (g.out.below kb)) fun w1 hb=>?_;replace k2:=k2.below hb;replace kb:=az kb hb;clear hb k1 g c;go_wp2_with(refine aU ?_);exact bodyPost_ret (aj Tryz.results14 _ _ _ rfl zKr _ zaE zLn) rfl ⟨rfl,ah kb zOm _⟩
theorem OB.n {B n:Nat} {w:World} {v:Value} {bs:List UInt8} (h:OB B w v bs) (hn:bs.length=n):w.ownsRow B 5 1 v n (aJ bs):=hn▸h
theorem Lv {K:Nat} {v:Int} {bs l:List UInt8} (h:l∈oN K v bs):l.length=80:=by
 simp only[oN,List.mem_map]at h;obtain⟨i,-,rfl⟩:=h;rw[kd,qw,xU]
theorem Ge (r s d k:Nat) (id v:Int) (a:Option Addr) (c:Nat) (bs:List UInt8) {KEY PK R1 s1 DR LP RT RS SS n:Nat} {wl:List UInt8} {E:List (List UInt8)}
 (eK:Hid (dC k v=KEY)) (eP:Hid (ev s=PK)) (e1:Hid (uF r (jT++(bS [id]++nb 32 PK))=R1)) (e2:Hid (xv r (jT++(bS [id]++nb 32 PK))=s1)) (eL:Hid (bD d 9=LP)) (eD:Hid (iT (nb 32 KEY)=DR)) (eW:Hid (jw LP DR KEY=wl))
 (eE:Hid (oN KEY v bs=E)) (en:Hid (mr bs.length=n)) (eR:Hid (xo E=RT)) (e3:Hid (uF s (fj v n RT wl id PK R1 s1)=RS)) (e4:Hid (xv s (fj v n RT wl id PK R1 s1)=SS))
 (h0:0<bs.length) (hL:bs.length≤2048) (hv:0≤v) (lP:v≤2147483647) (hi:0≤id) (IS:id≤2147483647) (ee:(iZ PK).2=true) (hd:d<256^32) (hz:bD DR LP≠0) (w:World) (g:Gl w) (h:Sl w (.slice a bs.length c) (aJ bs)):
 Calls Tryz.prog 15 #[.agg (fS r s d k).toArray,.int .i64 id,.int .i64 v,.slice a bs.length c] w fun e w'=>
  ∃u dl,e=.returned (.tuple #[u,dl,.int .i64 0])∧OB w.heap.size w' u (fj v n RT wl id PK R1 s1++(nb 32 RS++nb 32 SS))∧OBs w.heap.size w' dl E∧Below w.heap.size w w':=by
 have cK:=zH (fun w g=>CV r s d k v w g);rw[eK.out]at cK;have cM:=zH (fun w h=>OI KEY v a c bs h0 hL ⟨hv,lP⟩ w h);rw[eE.out]at cM;have cP:=zH (fun w g=>th s w g);rw[eP.out,dJ s]at cP;have cT:=zH (fun w g=>OD r PK id (by rw[←eP.out];exact wt _) ⟨hi,IS⟩ ee w g);unfold Yz at cT;rw[e1.out,e2.out,dJ r]at cT;have hWl:=tW LP DR KEY;have cW:=zH (fun w g=>OU LP DR KEY (by rw[←eL.out];exact AR _ _) (by rw[←eD.out];exact MF _) hz w g);rw[dJ DR,dJ KEY,eW.out]at cW;rw[eW.out]at hWl;have cD:=zH (fun w a h g=>Ip a 32 (nb 32 KEY) zck w h g);rw[aC,eD.out]at cD;have cL:=zH (fun w=>EF d hd w);rw[eL.out,dJ d]at cL;have hEl:E.length=n:=(by rw[←eE.out,←en.out,oN];simp);have GG:Hid (1≤n∧n≤32):=zH (by rw[←en.out,mr,xd];split<;>omega);have dB:∀l∈E,0<l.length∧l.length≤1000000:=by
  intro l hl;have q:l.length=80:=(by rw[←eE.out]at hl;exact Lv hl);omega
 have cR:=zH (fun w dl cl h kG=>show CB 37 #[.slice dl E.length cl] w (.agg (ag 32 (xo E)).toArray) from vL E.length E (zA0 _) zcT (fun q=>by have:=GG.out;rw[q]at hEl;simp at hEl;omega) dB dl cl w h kG);rw[hEl,eR.out]at cR;have cG:=zH (fun w gw cw h g=>OL s v (n:Int) RT (some ⟨gw,0,none⟩) cw wl hWl id PK R1 s1 0 0 hv lP zcT zcT hi IS w h g);rw[e3.out,e4.out,dJ]at cG;have cQ:=zH (fun w gw cw h=>OK v (n:Int) RT (some ⟨gw,0,none⟩) cw wl hWl id PK R1 s1 RS SS hv lP zcT zcT hi IS w h);obtain⟨OUT,hOUT⟩:=zX (fj v n RT wl id PK R1 s1++(nb 32 RS++nb 32 SS));rw[hOUT]at cQ⊢;obtain⟨L,hLe⟩:=zX bs.length;rw[hLe]at cM h⊢;replace h:=zH h;replace g:=zH g;replace hWl:=zH hWl;replace hEl:=zH hEl
 clear eK eP e1 e2 eL eD eW eE en eR e3 e4 ee hd hz hLe hL h0 hi IS hv lP hOUT dB GG;go_enter Tryz.func15,Tryz.ntmps15;go_upto_region 1 with fail
 refine aH (fun W aB k4 kb=>?_);replace k4:Arr W w.heap.size (fS r s d k):=k4;clear aB;go_wp2_with(refine ab rfl _ _ rfl _ rfl zDk _ k4 zcS ?_);refine zQ (cK.out _ (g.out.below kb)) fun w1 hb=>?_;replace k4:=k4.below hb;replace kb:=az kb hb;clear hb cK;go_upto_region 2 with(first|refine aR ?_|refine aU ?_)
 have yn:=k4.lt;refine aK (fun mU k11 aA=>?_);have k4:=k4.below aA;have kb:=az kb aA;clear aA;generalize (w1).heap.size=Hc at k11 yn⊢;go_wp2_with(refine aR ?_);have lt1:w.heap.size≤(mU).heap.size:=kb.size;refine(cM.out _ (h.out.below kb)).mono ?_;rintro e w3 ⟨ul,rfl,hS,hb⟩;replace k4:=k4.below hb;replace k11:=k11.below hb;replace kb:=az kb hb;clear hb cM;obtain⟨dl,cl,rfl⟩:=hS.shp;rw[hEl.out];replace hS:=zH hS;have K2:=zH kb;have G3:=zH (g.out.below kb);have lt3:w.heap.size≤w3.heap.size:=kb.size;replace kb:Below w3.heap.size w3 w3:=zA6 _ _;clear g h;go_upto_region 5 with fail
 refine cH 11 13 fun bn=>?_;refine eZ ?_ 8 31 za0 [0,1,2,3,4] (fun w' hB=>by have yr:=KH (k4.below hB);have ys:=KI (k4.below hB);exact zRm) ?_;refine bG 2 2047 [(5,37),(6,38),(7,31),(8,39),(9,40),(10,14)] [(false,[]),(false,[(5,37)]),(true,[(6,38)]),(true,[(7,31)]),(true,[(7,31)]),(false,[])] [(5,Ph.is (.agg (ag 32 PK).toArray)),(6,Ph.is (.tuple #[.agg (jZ id PK R1 s1).toArray,.int .i64 0])),(7,Ph.is (.tuple #[.agg (jZ id PK R1 s1).toArray,.int .i64 0])),(8,Ph.is (.agg (jZ id PK R1 s1).toArray)),(9,Ph.is (.int .i64 0)),(10,Ph.arr (w3).heap.size (jZ 0 0 0 0))] zKr zKr zaA ?_ ?_
 ·refine⟨⟨_,rfl,?_⟩,⟨_,rfl,?_⟩,⟨_,rfl,?_⟩,⟨_,rfl,?_⟩,⟨_,rfl,?_⟩,⟨_,rfl,?_⟩,trivial⟩
  ·intro vs w1 hS hE hD K hK;clear hD;simp only[aG,Act.put,zSa,zSz,zSs]at hK⊢;go_simp;refine zQ (cP.out _ (G3.out.below hS)) fun w2 hb2=>?_;exact zdH
  ·intro vs w1 hS hE hD K hK;obtain⟨q5,-⟩:=hD;simp only[aG,Act.put,zSa,zSz,zSs]at hK⊢;rw[show vs 5=_ from q5]at hK⊢;clear q5;go_simp;refine zQ (cT.out _ (G3.out.below hS)) fun w2 hb2=>?_;exact zdH
  ·exact zde
  ·exact zcZ
  ·exact zcZ
  ·exact zcV
 intro vs ag1 zV acp hP hD;obtain⟨q5,q6,q7,q8,q9,q10,-⟩:=hP;simp only[aG,Act.put,zSa,zSz,zSs];rw[show vs 5=_ from q5,show vs 6=_ from q6,show vs 7=_ from q7,show vs 8=_ from q8,show vs 9=_ from q9];clear q5 q6 q7 q8 q9;obtain⟨g10,e10,qT,nU⟩:=q10;rw[e10];clear e10 hD vs;have agz:=zI2 k4 k11 qT;clear cP cT;obtain⟨k4,k11⟩:=fZ k4 k11 zV;have kb:=az kb zV;refine kO 4095 ?_;refine eZ ?_ 0 8191 zaC [12] (fun _ _=>zRd) ?_;refine ap zKr ?_
 first|refine aV nU (fun jF nU ad ak=>?_)|refine eu nU (fun jF nU ad ak=>?_)
 obtain⟨k4,k11⟩:=rR ad k4 k11;have kb:=ak _ _ zOm kb;clear ad ak;have k14:=nU;clear nU;generalize g10=g14 at*;have sY:=zH (show Sl jF (.slice (some ⟨Hc,0,none⟩) 32 32) (aJ (nb 32 KEY))from Sl.ofArrN (by rw[←eB];exact k11) (aC _ _) zDc);go_upto_region 8 with fail
 have G8:=zH (G3.out.below kb);refine cH 9999 12 fun b9=>?_;refine eZ ?_ 8 43 zaJ [0,1,3,5] (fun w' hB=>by have yd:=KG (k4.below hB);have y11:=k11.below hB;exact zRm) ?_;refine bG 6 63 [(2,47),(4,49)] [(false,[]),(false,[])] [(2,Ph.is (.agg (ay LP).toArray)),(4,Ph.is (.agg (ag 32 DR).toArray))] zKr zKr zaA ?_ ?_
 ·refine⟨⟨_,rfl,?_⟩,⟨_,rfl,?_⟩,trivial⟩
  ·exact oT cL.out
  ·intro vs w1 hS hE hD K hK;clear hD;simp only[aG,Act.put,zSa,zSz,zSs]at hK⊢;go_simp;refine zQ (cD.out _ _ (sY.out.below hS) (G8.out.below hS).a) fun w2 hb2=>?_;exact zdH
 intro vs ajx Qb ahf hP hD;obtain⟨q2,q4,-⟩:=hP;simp only[aG,Act.put,zSa,zSz,zSs];rw[show vs 2=_ from q2,show vs 4=_ from q4];clear q2 q4;clear hD vs;clear cL cD;refine aY 6 127 rfl zDk (fun K hK=>?_);go_simp;refine(cW.out _ (G8.out.below Qb)).mono ?_;rintro e m9 ⟨uw,rfl,hW,gH⟩;have di:=aW Qb (zA0 _) gH;refine hK (fun w'=>Below (jF).heap.size (jF) w') _ _ di (fun _ h=>h) ?_;clear hK K Qb;try simp only[Act.put,zSa,zSz,zSs]
 obtain⟨gw,cw,rfl,-,-⟩:=hW.rng (by rw[hWl.out];decide);rw[hWl.out];refine eZ ?_ 0 4095 zaK [7,8,9,10,11] (fun _ _=>zRd) ?_;refine ap zKr ?_;obtain⟨k4,k11,k14⟩:=dZ k4 k11 k14 di;have kb:=az kb di;clear di;have hS6:=hS.out.below kb;have K3:=zH (az K2.out kb);have G6:=zH (G3.out.below kb);have X3:=kb.size;have hW6:=hW.n hWl.out;rw[hWl.out]at hW6;have lb0:w.heap.size≤(m9).heap.size:=zA14 lt3 X3;obtain⟨w6,hw6⟩:=zX m9;rw[hw6]at hS6 K3 G6 X3 hW6 lb0 k4 k11 k14⊢;have ai0:g14<w6.heap.size:=k14.lt;have sW6:=zH (Sl.of_own hW6);clear hw6 hS K2 cW sY kb hW hW6 G3 G8;have kb:Below w6.heap.size w6 w6:=zA6 _ _;replace hS6:=zH hS6;go_upto_region 11 with fail
 refine cH 15 17 fun dV=>?_;refine eZ ?_ 9 447 zaL [0,1,2,3,4,5,7,8] (fun w' hB=>by have ys:=KI (k4.below hB);have y14:=k14.below hB;exact zRm) ?_;refine bG 2 32767 [(6,64),(9,67),(10,68),(11,57),(12,69),(13,70),(14,16)] [(false,[]),(true,[(6,64)]),(false,[(9,67)]),(true,[(10,68)]),(true,[(11,57)]),(true,[(11,57)]),(false,[])] [(6,Ph.is (.agg (ag 32 RT).toArray)),(9,Ph.is (.agg (bU v n RT (.slice (some ⟨gw,0,none⟩) 80 cw) id PK R1 s1 0 0).toArray)),(10,Ph.tx w6.heap.size v n RT id PK R1 s1 RS SS wl),(11,Ph.tx w6.heap.size v n RT id PK R1 s1 RS SS wl),(12,Ph.mx w6.heap.size v n RT id PK R1 s1 RS SS wl),(13,Ph.is (.int .i64 0)),(14,Ph.at w6.heap.size (bU 0 0 0 (.slice none 0 0) 0 0 0 0 0 0) 88)] zKr zKr zaA ?_ ?_
 ·refine⟨⟨_,rfl,?_⟩,⟨_,rfl,?_⟩,⟨_,rfl,?_⟩,⟨_,rfl,?_⟩,⟨_,rfl,?_⟩,⟨_,rfl,?_⟩,⟨_,rfl,?_⟩,trivial⟩
  ·intro vs w1 hS hE hD K hK;clear hD;simp only[aG,Act.put,zSa,zSz,zSs]at hK⊢;go_simp;refine zQ (cR.out _ _ _ (hEl.out▸(hS6.out.below hS).sls) (G6.out.below hS).a) fun w2 hb2=>?_;exact zdH
  ·intro vs w1 hS hE hD;obtain⟨q6,-⟩:=hD;simp only[aG,Act.put,zSa,zSz,zSs]at⊢;rw[show vs 6=_ from q6]at⊢;clear q6;refine⟨_,rfl,fun w'=>KA _ _ rfl (bU v n RT (.slice (some ⟨gw,0,none⟩) 80 cw) id PK R1 s1 0 0).toArray zKr,rfl,nofun⟩
  ·intro vs w1 hS hE hD K hK;obtain⟨q9,-⟩:=hD;simp only[aG,Act.put,zSa,zSz,zSs]at hK⊢;rw[show vs 9=_ from q9]at hK⊢;clear q9;go_simp;refine(cG.out _ _ _ (sW6.out.below hS) (G6.out.below hS)).mono ?_;rintro e w2 ⟨g,c',rfl,dI,hb2⟩;exact hK _ _ ⟨(g,c'),rfl,ej (dI.n hWl.out) hS.size⟩ hb2 nofun
  ·intro vs w1 hS hE hD;obtain⟨q10,-⟩:=hD;simp only[aG,Act.put,zSa,zSz,zSs]at⊢;obtain⟨d10,e10,ZS⟩:=q10;rw[e10]at⊢;clear e10;refine⟨_,rfl,fun w'=>zaB,⟨d10,rfl,ZS⟩,nofun⟩
  ·intro vs w1 hS hE hD;obtain⟨q11,-⟩:=hD;simp only[aG,Act.put,zSa,zSz,zSs]at⊢;obtain⟨d11,e11,Vk⟩:=q11;rw[e11]at⊢;clear e11;refine⟨_,rfl,fun w'=>zaB,⟨d11,rfl,Vk⟩,nofun⟩
  ·intro vs w1 hS hE hD;obtain⟨q11,-⟩:=hD;simp only[aG,Act.put,zSa,zSz,zSs]at⊢;obtain⟨d11,e11,Vk⟩:=q11;rw[e11]at⊢;clear e11;exact zd2
  ·intro vs w1 hS hE hD K hK;clear hD;simp only[aG,Act.put,zSa,zSz,zSs]at hK⊢;go_simp;exact hK _ _ ⟨_,rfl,hS.size,heap_alloc_new _ _⟩ (ae _ _) nofun
 intro vs Yn BB YN hP hD;obtain⟨q6,q9,q10,q11,q12,q13,q14,-⟩:=hP;simp only[aG,Act.put,zSa,zSz,zSs];rw[show vs 6=_ from q6,show vs 9=_ from q9];clear q6 q9;obtain⟨d10,e10,ZS⟩:=q10;rw[e10];clear e10;obtain⟨d11,e11,Vk⟩:=q11;rw[e11];clear e11;obtain⟨d12,e12,ZT⟩:=q12;rw[e12];clear e12;rw[show vs 13=_ from q13];clear q13;obtain⟨d14,e14,agj⟩:=q14;rw[e14];clear e14;clear hD vs;clear cR cG ZS Vk;obtain⟨acZ,Pg⟩:=agj;have k16:Arr Yn d14 (bU 0 0 0 (.slice none 0 0) 0 0 0 0 0 0):=⟨_,Pg⟩;refine bf 65535 rfl zDk (fun K hK=>?_);refine gg rfl _ _ _ rfl d14 (bU v n RT (.slice (some ⟨d12.1,0,none⟩) 80 d12.2) id PK R1 s1 RS SS) rfl rfl _ k16 zcf (by rw[a8,a8]) (jd _ _ _ _ _ _ _ _ _ _ rfl) (fun w9 k16 hg aB=>?_);refine hK (fun _=>True) 9999 _ _ ?_;clear hK K;try simp only[Act.put]
 try simp only[zSa,zSz,zSs]
 refine eZ ?_ 0 131071 zaC [16] (fun _ _=>zRd) ?_;refine ap zKr ?_;have adq:=ZT.kept hg (.inr (Ne.symm (uo Pg zDc ZT)));have kb9:=gQ BB hg acZ (Below.size BB);have hS9:=zH (hS6.out.below kb9);have adc:=zH (Sl.of_own adq);have K9:=zH (az K3.out kb9);clear ZT adq hg aB kb9 Pg acZ hS6 K3 G6;go_wp2_with(refine ab rfl _ _ rfl _ rfl zDk _ k16 zcf ?_);refine(cQ.out _ _ _ adc.out).mono ?_;rintro e w10 ⟨u,rfl,hu,hb⟩;replace hS9:=zH (hS9.out.below hb);have K10:=zH (az K9.out hb);have hu2:=zH (hu.mono (Below.size K9.out));clear cQ adc hu hb K9;go_wp2_with fail;go_ret3;refine⟨u,.slice dl n cl,rfl,hu2.out,by have q:=hS9.out.mono lt1;rwa[hEl.out]at q,K10.out⟩
theorem CU (r s d k:Nat) (id v:Int) (a:Option Addr) (c:Nat) (bs:List UInt8) (h0:0<bs.length) (hL:bs.length≤2048) (hv:0≤v) (lP:v≤2147483647) (hi:0≤id) (IS:id≤2147483647) (ee:(iZ (ev s)).2=true) (hd:d<256^32) (hz:bD (iT (nb 32 (dC k v))) (bD d 9)≠0) (w:World) (g:Gl w) (h:Sl w (.slice a bs.length c) (aJ bs)):
 Calls Tryz.prog 15 #[.agg (fS r s d k).toArray,.int .i64 id,.int .i64 v,.slice a bs.length c] w fun e w'=>
  ∃u dl,e=.returned (.tuple #[u,dl,.int .i64 0])∧OB w.heap.size w' u (jS r s d k id v bs)∧OBs w.heap.size w' dl (oN (dC k v) v bs)∧Below w.heap.size w w':=
 Ge r s d k id v a c bs (zH rfl) (zH rfl) (zH rfl) (zH rfl) (zH rfl) (zH rfl) (zH rfl) (zH rfl) (zH rfl) (zH rfl) (zH rfl) (zH rfl) h0 hL hv lP hi IS ee hd hz w g h
theorem KR {W w:World} {o:Oper} {a:Act} {K:Act→World→Prop} {Q:Exit→Act→World→Prop} {v:Value} {bs:List UInt8} (sb:ByteArray) (s x:Operand)
 (ho:o.op=.call {callee:=.builtin .append,args:=#[s,x],argTypes:=#[24,9]}) (hs:a.eval s=v) (hx:a.eval x=.string sb) (cf:OB W.heap.size w v bs) (kb:Below W.heap.size W w) (hl:bs.length+sb.data.toList.length≤140737488355328)
 (h:∀v' w',OB W.heap.size w' v' (bs++sb.data.toList)→Below W.heap.size W w'→K (a.put o.dst v') w'):Oper.wp Tryz.prog o a w K Q:=by
 obtain⟨i,hi,jN,jA,jB⟩:=info_parts ig;have e:sb.data.toList.length=sb.size:=(by rw[ByteArray.size,Array.length_toList]);rw[e]at hl;obtain⟨v',w',hr,h2,h3,-⟩:=Lib.run_append_own_string (P:=Tryz.prog) w W.heap.size 24 9 o.type 5 i Tryz.underlying24 Tryz.underlying9 hi jN jA jB v bs.length (aJ bs) cf sb zbW hl kb.size;unfold Oper.wp execOp;simp only[ho,resolve,invoke,builtin,Sem.run_bind,Sem.run_pure,Result.andThen_ok,List.map_toArray,List.map_cons,List.map_nil,hs,hx,hr];refine h v' w' ?_ (f9 kb cf kb.size h3);rw[Gt,←bE]at h2;rw[OB,zA5,e];exact h2
theorem tM {A B C D:List Value} {o:Nat} (ho:A.length=o) (hl:C.length=B.length):gJ o C (A++(B++D))=A++(C++D):=by
 subst ho;rw[gJ,List.take_left,←List.drop_drop,List.drop_left,hl,List.drop_left]
def vS:Nat→List UInt8
 |0=>[114,111,111,116]
 |1=>[115,105,103,110,101,114]
 |2=>[100,101,118,105,99,101]
 |_=>[107,101,121]
def xR (seed:Int) (nm:List UInt8):Nat:=iT (bS [seed]++nm)
def DQ (seed:Int) (n i:Nat):Nat:=if i<n then xR seed (vS i)else 0
def Gm (seed:Int) (n:Nat):List Value:=fS (DQ seed n 0) (DQ seed n 1) (DQ seed n 2) (DQ seed n 3)
theorem Wv (a s d k x:Nat):gJ 0 (ag 32 x) (fS a s d k)=fS x s d k:=by
 have q:=tM (A:=[]) (B:=ag 32 a) (C:=ag 32 x) (D:=ag 32 s++(ag 32 d++ag 32 k)) rfl za3;rw[List.nil_append,List.nil_append]at q;rw[fS,fS,←q];rfl
theorem Ww (r a d k x:Nat):gJ 32 (ag 32 x) (fS r a d k)=fS r x d k:=
 tM (A:=ag 32 r) (B:=ag 32 a) (C:=ag 32 x) (D:=ag 32 d++ag 32 k) (aa _ _) za3
theorem Wx (r s a k x:Nat):gJ 64 (ag 32 x) (fS r s a k)=fS r s x k:=by
 have q:=tM (A:=ag 32 r++ag 32 s) (B:=ag 32 a) (C:=ag 32 x) (D:=ag 32 k) (o:=64) zcb za3;rw[zA16,zA16]at q;exact q
theorem Wy (r s d a x:Nat):gJ 96 (ag 32 x) (fS r s d a)=fS r s d x:=by
 have q:=tM (A:=ag 32 r++(ag 32 s++ag 32 d)) (B:=ag 32 a) (C:=ag 32 x) (D:=[]) (o:=96) zcb za3;rw[zA16,zA16,zA16,zA16,zA31,zA31]at q;exact q
theorem rp {seed:Int} {n i:Nat} (h:i<n):DQ seed n i=xR seed (vS i):=if_pos h
theorem MD {seed:Int} {n i:Nat} (h:n≤i):DQ seed n i=0:=if_neg zOm
theorem Tk (seed:Int) (n:Nat) (h:n<4):gJ (32*n) (ag 32 (xR seed (vS n))) (Gm seed n)=Gm seed (n+1):=by
 generalize hx:xR seed (vS n)=x;have e:∀i,i≠n→DQ seed (n+1) i=DQ seed n i:=fun i hi=>by
  by_cases hl:i<n
  ·rw[rp hl,rp zOm]
  ·rw[MD zOm,MD zOm]
 have e2:DQ seed (n+1) n=x:=(by rw[rp zOm,hx]);unfold Gm
 match n,h with
 |0,_=>rw[e2,e 1 zDc,e 2 zDc,e 3 zDc];exact Wv _ _ _ _ _
 |1,_=>rw[e2,e 0 zDc,e 2 zDc,e 3 zDc];exact Ww _ _ _ _ _
 |2,_=>rw[e2,e 0 zDc,e 1 zDc,e 3 zDc];exact Wx _ _ _ _ _
 |3,_=>rw[e2,e 0 zDc,e 1 zDc,e 2 zDc];exact Wy _ _ _ _ _
theorem aaO (seed:Int):Gm seed 0=fS 0 0 0 0:=by simp[Gm,DQ]
theorem tQ (r s d k:Nat):∀v∈fS r s d k,v.oneCell'=true:=by
 intro v hv;simp only[fS,List.mem_append]at hv;rcases hv with h|h|h|h<;>exact bm _ _ v h
def OV (seed:Int):List Value:=fS (xR seed (vS 0)) (xR seed (vS 1)) (xR seed (vS 2)) (xR seed (vS 3))
theorem aaP (seed:Int):Gm seed 4=OV seed:=by rw[Gm,OV,rp zDc,rp zDc,rp zDc,rp zDc]
theorem aaQ {w:World} {g r s d k:Nat} (h:Arr w g (fS r s d k)):w.rangeAt g 96 (ag 32 k):=h.range (fun j hj=>by
 have q:=gW (A:=ag 32 r++(ag 32 s++ag 32 d)) (B:=ag 32 k) (C:=[]) (o:=96) zcb j hj;rwa[zA16,zA16,zA31]at q)
theorem Tj (seed:Int) (n:Nat):(Gm seed n).length=128:=dS _ _ _ _
def UC (i:Nat):ByteArray:=⟨(vS i).toArray⟩
theorem VE (i:Nat):(vS i).length≤6:=by
 unfold vS;split<;>decide
def aaT:List Value:=[.string (UC 0),.string (UC 1),.string (UC 2),.string (UC 3)]
theorem TK {i:Nat} (h:i<4):aaT[i]? =some (.string (UC i)):=by
 match i,h with
 |0,_=>rfl
 |1,_=>rfl
 |2,_=>rfl
 |3,_=>rfl
theorem Kx (seed:Int) (w:World) (g:Gl w):
 CB 13 #[.int .i64 seed] w (.agg (OV seed).toArray):=by
 replace g:=zH g;go_enter Tryz.func13,Tryz.ntmps13;go_upto_region 1 with fail
 refine aH (fun W1 aB k2 kb=>?_);replace k2:Arr W1 w.heap.size (fS 0 0 0 0):=k2;clear aB;go_upto_region 2 with fail
 refine aH (fun W3 aB k3 kb3=>?_);replace k3:Arr W3 W1.heap.size aaT:=k3;have l2:=k2.lt;replace k2:=k2.below kb3;replace kb:=az kb kb3;have l3:=k3.lt;clear aB kb3;go_upto_region 3 with fail
 refine aH (fun W aB k4 kb3=>?_);replace k4:Arr W W3.heap.size (fS 0 0 0 0):=k4;rw[←aaO seed]at k4;have l4:=k2.lt;replace k2:=k2.below kb3;replace k3:=k3.below kb3;replace kb:=az kb kb3;clear aB kb3;generalize W3.heap.size=g4 at*;generalize W1.heap.size=g3 at*;obtain⟨g2,j9⟩:=zX w.heap.size;rw[j9]at k2 l2⊢;replace j9:=zH j9;go_wp2_with fail;go_loopw[5] (fun iv wr=>∃i:Nat,i≤4∧iv=.int .i64 (i:Int)∧Arr wr g2 (fS 0 0 0 0)∧Arr wr g3 aaT∧Arr wr g4 (Gm seed i)∧Below w.heap.size w wr) (fun iv _=>4-(intOf iv).toNat)
 case atStart=>exact⟨0,by decide,rfl,k2,k3,k4,kb⟩
 case round=>
 clear k2 k3 k4 kb;obtain⟨i,XQ,rfl,k2,k3,k4,kb⟩:=hrel
 by_cases hi:i<4
 ·have hiI:(i:Int)<4:=zOm;have ep:=TK hi;go_upto_region 6 with fail
  have Gr:=zH (fun w' (hb:Below wr.heap.size wr w')=>((g.out.below kb).below hb).a);have eR:Hid (iT (jG seed++(UC i).data.toList)=xR seed (vS i)):=zH (by rw[xR,bS];simp[UC]);have QQ:Hid ((jG seed).length+(UC i).data.toList.length≤1000):=zH (by have:=VE i;rw[cg];simp only[UC,List.toList_toArray];omega);obtain⟨sx,hsx⟩:=zX (UC i);rw[hsx]at eR QQ ep;clear hsx;refine cH 10 11 fun aP=>?_;refine eZ ?_ 5 123 zaD [0,1,3,4,5,6] (fun w' hB=>by have bo:=(k3.below hB).cell ep;have bT:=(k3.below hB).frozen i;exact zRd) ?_;refine aY 2 127 rfl zDk (fun K hK=>?_);go_simp;refine(oy seed _).mono ?_;rintro e i8 ⟨u2,rfl,o2,dA⟩;have bn:=aW aP (zA0 _) dA;refine hK (fun w'=>Below (wr).heap.size (wr) w') _ _ bn (fun _ h=>h) ?_;clear hK K aP;try simp only[Act.put,zSa,zSz,zSs]
  have o2:OB wr.heap.size i8 u2 (jG seed):=(by rw[OB,cg];exact ej o2 (zA0 _));refine aY 7 255 rfl zDk (fun K hK=>?_);refine kH rfl ?_;refine KR (W:=wr) sx _ _ rfl rfl rfl o2 bn (by have:=QQ.out;omega) (fun v6 wb o6 kK=>?_);refine hK _ _ _ kK (fun _ h=>h) ?_;clear hK K o2;refine eg 8 511 kK (tP o6 (by rw[zA5];have:=QQ.out;omega) (Gr.out _ kK)) fun jF bB=>?_;rw[eR.out];refine eZ ?_ 1 1023 zaI [9] (fun _ _=>zRd) ?_;obtain⟨kc4,kc3,kc2⟩:=dZ k4 k3 k2 bB;have kc:=az kb bB;refine bf 2047 rfl zDk (fun K hK=>?_);refine Gs rfl _ _ _ rfl g4 (i*32) (ag 32 (xR seed (vS i))) rfl rfl _ kc4 zbx (by rw[aa,Tj];omega) (bm _ _) (fun w9 k9 hg aB=>?_);rw[Nat.mul_comm i 32,Tk seed i hi]at k9;refine hK (fun _=>True) 9999 _ _ ?_;clear hK K;try simp only[Act.put]
  try simp only[zSa,zSz,zSs]
  refine ap zKr ?_;replace kc2:=kc2.kept hg zOm;replace kc3:=kc3.kept hg zOm;replace kc:=aq kc hg (by rw[j9.out];omega) kc.size;clear k2 k3 k4 kb kc4 hg aB o6;go_wp2_with fail;exact⟨⟨i+1,by omega,by go_num,kc2,kc3,k9,kc⟩,by simp[intOf];omega⟩
 ·have hiI:¬(i:Int)<4:=zOm;obtain rfl:i=4:=zOm;rw[aaP,OV]at k4;have Vl:Hid (OV seed=fS (xR seed (vS 0)) (xR seed (vS 1)) (xR seed (vS 2)) (xR seed (vS 3))):=zH rfl;have yr:=KH k4;have ys:=KI k4;have yd:=KG k4;have yk:=aaQ k4;clear k3 k4;generalize xR seed (vS 0)=r0 at*;generalize xR seed (vS 1)=r1 at*;generalize xR seed (vS 2)=r2 at*;generalize xR seed (vS 3)=r3 at*;go_wp2_with(first|(refine aE rfl _ _ rfl _ _ rfl zKr _ yr zbx ?_)|(refine aE rfl _ _ rfl _ _ rfl zKr _ ys zbx ?_)|(refine aE rfl _ _ rfl _ _ rfl zKr _ yd zbx ?_)|(refine aE rfl _ _ rfl _ _ rfl zKr _ yk zbx ?_)|(refine bi rfl _ _ rfl (fS r0 r1 r2 r3).toArray zKr ?_)|(refine aD rfl _ _ _ rfl _ (fS r0 r1 r2 r3) rfl rfl _ k2 zcS (by rw[dS,dS]) (tQ _ _ _ _) (fun w5 k5 hg aB=>?_)))
  exact bodyPost_ret (aj Tryz.results13 _ _ _ rfl zKr _ k5 zcS) rfl ⟨by rw[Vl.out],aq kb hg (by rw[j9.out];exact zA0 _) kb.size⟩
end Go.Proofs.YtgfkgolafkdjfaaGreatDoor
