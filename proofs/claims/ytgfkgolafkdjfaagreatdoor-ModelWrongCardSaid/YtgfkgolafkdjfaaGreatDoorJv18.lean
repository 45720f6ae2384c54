/- ModelWrong: part 18 of its proof: lemmas and contracts, each with its conditions in its own statement; the last part holds the law itself. -/
import Derived.WalkSpells
import Derived.WalkKit
import Derived.Deep.CutRange
import Derived.Deep.CutBlock
import Derived.RegionTactic
import Derived.ScopeJumps
import Derived.WalkLawsBesides
import Derived.StillTailTactics
import Derived.ProofKit
import Derived.Test.YtgfkgolafkdjfaaGreatDoorJv10

set_option maxHeartbeats 4000000
set_option maxRecDepth 100000
namespace Go.Proofs.YtgfkgolafkdjfaaGreatDoor
open Go.RowKit
theorem fN {w w':World} {g:Nat} (h:w.grownBy w' (some g)) {w2:World} (hb:Below w'.heap.size w' w2):w.grownBy w2 (some g):=aN h (bO hb)
theorem Wg {x:Nat} (hx:x<4294967296) (w:World):
 CB 240 #[.int .u32 (x:Int),.int .i64 16] w (.int .u32 ((rl x 16:Nat):Int)):=by
 have h0:bits .and .u64 16 31=16:=zDc;have h2:bits .or .u32 ((x:Int)*65536%4294967296) ((x:Int)/65536)=((rl x 16:Nat):Int):=by
  exact zdP
 exact zeG
theorem Wo {x:Nat} (hx:x<4294967296) (w:World):
 CB 163 #[.int .u32 (x:Int),.int .u64 16] w (.int .u32 ((rl x 16:Nat):Int)):=by
 have h0:bits .and .u64 16 31=16:=zDc;have h2:bits .or .u32 ((x:Int)*65536%4294967296) ((x:Int)/65536)=((rl x 16:Nat):Int):=by
  exact zdP
 exact zeH
theorem Wf {x:Nat} (hx:x<4294967296) (w:World):
 CB 240 #[.int .u32 (x:Int),.int .i64 12] w (.int .u32 ((rl x 12:Nat):Int)):=by
 have h0:bits .and .u64 12 31=12:=zDc;have h2:bits .or .u32 ((x:Int)*4096%4294967296) ((x:Int)/1048576)=((rl x 12:Nat):Int):=by
  exact zdN
 exact zeG
theorem Wn {x:Nat} (hx:x<4294967296) (w:World):
 CB 163 #[.int .u32 (x:Int),.int .u64 12] w (.int .u32 ((rl x 12:Nat):Int)):=by
 have h0:bits .and .u64 12 31=12:=zDc;have h2:bits .or .u32 ((x:Int)*4096%4294967296) ((x:Int)/1048576)=((rl x 12:Nat):Int):=by
  exact zdN
 exact zeH
theorem aaI {x:Nat} (hx:x<4294967296) (w:World):
 CB 240 #[.int .u32 (x:Int),.int .i64 8] w (.int .u32 ((rl x 8:Nat):Int)):=by
 have h0:bits .and .u64 8 31=8:=zDc;have h2:bits .or .u32 ((x:Int)*256%4294967296) ((x:Int)/16777216)=((rl x 8:Nat):Int):=by
  exact zdO
 exact zeG
theorem aaL {x:Nat} (hx:x<4294967296) (w:World):
 CB 163 #[.int .u32 (x:Int),.int .u64 8] w (.int .u32 ((rl x 8:Nat):Int)):=by
 have h0:bits .and .u64 8 31=8:=zDc;have h2:bits .or .u32 ((x:Int)*256%4294967296) ((x:Int)/16777216)=((rl x 8:Nat):Int):=by
  exact zdO
 exact zeH
theorem aaH {x:Nat} (hx:x<4294967296) (w:World):
 CB 240 #[.int .u32 (x:Int),.int .i64 7] w (.int .u32 ((rl x 7:Nat):Int)):=by
 have h0:bits .and .u64 7 31=7:=zDc;have h2:bits .or .u32 ((x:Int)*128%4294967296) ((x:Int)/33554432)=((rl x 7:Nat):Int):=by
  exact zdg
 exact zeG
theorem aaK {x:Nat} (hx:x<4294967296) (w:World):
 CB 163 #[.int .u32 (x:Int),.int .u64 7] w (.int .u32 ((rl x 7:Nat):Int)):=by
 have h0:bits .and .u64 7 31=7:=zDc;have h2:bits .or .u32 ((x:Int)*128%4294967296) ((x:Int)/33554432)=((rl x 7:Nat):Int):=by
  exact zdg
 exact zeH
theorem Al {g:Nat} {l0:List Nat} {a b c d:Nat} (w:World) (Hp:l0.length=16) (P4:W32 l0) (ha:a<16) (hb:b<16) (hc:c<16) (hd:d<16) (k0:Arr w g (ws l0)):
 Calls Tryz.prog 232 #[.pointer (some ⟨g,0,none⟩),.int .i64 a,.int .i64 b,.int .i64 c,.int .i64 d] w fun e w'=>e=.returned (.tuple #[])∧Arr w' g (ws (qr l0 a b c d))∧w.grownBy w' (some g):=by
 obtain⟨R,hR⟩:=zX (qr l0 a b c d);rw[hR];have a0:(0:Int)≤(a:Int):=zOm;have a1:(a:Int)<16:=zOm;have b0:(0:Int)≤(b:Int):=zOm;have b1:(b:Int)<16:=zOm;have c0:(0:Int)≤(c:Int):=zOm;have c1:(c:Int)<16:=zOm;have d0:(0:Int)≤(d:Int):=zOm;have d1:(d:Int)<16:=zOm;obtain⟨l,dF⟩:=zX l0;have aI:Hid (l.length=16):=zH (by rw[←dF];exact Hp);have iF:Hid (W32 l):=zH (by rw[←dF];exact P4);rw[dF]at k0 hR;unfold qr at hR;replace hR:=zH hR;clear Hp P4 dF;have kg:=World.grownBy.refl w (some g);go_enter Tryz.func232,Tryz.ntmps232
 
 obtain⟨x,hx⟩:=zX (l.getD a 0);obtain⟨y,hy⟩:=zX (l.getD b 0);have dP:=bL (l:=l) (j:=a) zbe;have ff:=bL (l:=l) (j:=b) zbf;rw[hx]at dP;rw[hy]at ff;replace dP:=zH dP;replace ff:=zH ff;obtain⟨l2,sI⟩:=zX (qa l a b);have dH:Hid (l2.length=16):=zH (by rw[←sI,rh];exact aI.out);have gG:Hid (W32 l2):=zH (by rw[←sI];exact rN iF.out _ _);have aL:Hid ((ws l).set a (.int .u32 (IntKind.u32.wrap ((x:Int)+(y:Int))))=ws l2):=zH (by
  rw[show((x:Int)+(y:Int))=((x+y:Nat):Int) by omega,dW,eX,←sI,qa,hx,hy])
 replace hR:=zH (by have q:=hR.out;rw[sI]at q;exact q);clear sI hx hy;go_upto_region 0 with fail
 refine cH 13 14 fun aP=>?_;refine eZ ?_ 1 8191 zaD [0,1,2,3,4,5,6,7,8,9,10,11,12] (fun w' hB=>by have e1:=(k0.below hB).cell dP.out;have e2:=(k0.below hB).cell ff.out;exact zRd) ?_;refine bf 16383 rfl zDk (fun K hK=>?_);replace k0:=k0.below aP;replace kg:=fN kg aP;clear aP;refine br rfl _ _ _ rfl g a (.int .u32 (IntKind.u32.wrap ((x:Int)+(y:Int)))) rfl rfl _ k0 zKr zbg rfl (fun w1 k1 hg aB=>?_);replace kg:=aN kg hg;clear k0;have k0:=k1;clear k1;rw[aL.out]at k0;clear hg aB aL dP ff aI iF;refine hK (fun _=>True) 9999 _ _ ?_;clear hK K;try simp only[Act.put]
 try simp only[zSa,zSz,zSs]
 refine ap zKr ?_;have aI:=dH;have iF:=gG;clear dH gG;obtain⟨l,dF⟩:=zX l2;rw[dF]at k0 aI iF hR
 
 obtain⟨x,hx⟩:=zX (l.getD d 0);obtain⟨y,hy⟩:=zX (l.getD a 0);have dP:=bL (l:=l) (j:=d) zbh;have ff:=bL (l:=l) (j:=a) zbe;rw[hx]at dP;rw[hy]at ff;replace dP:=zH dP;replace ff:=zH ff;have lx:x<4294967296:=zbi;have ly:y<4294967296:=zbj;have qk:=fK lx ly;obtain⟨z,hz⟩:=zX (x ^^^y);have lz:Hid (z<4294967296):=zH zbk;rw[hz]at qk;obtain⟨l2,sJ⟩:=zX (qx l d a 16);have dH:Hid (l2.length=16):=zH (by rw[←sJ,ri];exact aI.out);have gG:Hid (W32 l2):=zH (by rw[←sJ];exact rO iF.out _ _ _);have aL:Hid ((ws l).set d (.int .u32 ((rl z 16:Nat):Int))=ws l2):=zH (by
  rw[eX,←sJ,qx,hx,hy,hz])
 replace hR:=zH (by have q:=hR.out;rw[sJ]at q;exact q);clear sJ hx hy hz lx ly;go_upto_region 1 with fail
 obtain⟨wq,lq⟩:∃wq:World,w1=wq:=⟨_,rfl⟩;rw[lq]at k0 kg⊢;clear lq;refine cH 16 17 fun bn=>?_;refine eZ ?_ 3 24575 za0 [0,1,2,3,4,5,6,7,8,9,10,11,12,14] (fun w' hB=>by have e1:=(k0.below hB).cell dP.out;have e2:=(k0.below hB).cell ff.out;exact zRd) ?_;refine eg 13 32767 bn (Wg lz.out) fun jF bB=>?_;refine eZ ?_ 1 65535 zaI [15] (fun _ _=>zRd) ?_;refine bf 131071 rfl zDk (fun K hK=>?_);replace k0:=k0.below bB;replace kg:=fN kg bB;clear bB;refine br rfl _ _ _ rfl g d (.int .u32 ((rl z 16:Nat):Int)) rfl rfl _ k0 zKr zbl rfl (fun w2 k1 hg aB=>?_);replace kg:=aN kg hg;clear k0;have k0:=k1;clear k1;rw[aL.out]at k0;clear hg aB aL dP ff aI iF qk lz;refine hK (fun _=>True) 9999 _ _ ?_;clear hK K;try simp only[Act.put]
 try simp only[zSa,zSz,zSs]
 refine ap zKr ?_;have aI:=dH;have iF:=gG;clear dH gG;obtain⟨l,dF⟩:=zX l2;rw[dF]at k0 aI iF hR
 
 obtain⟨x,hx⟩:=zX (l.getD c 0);obtain⟨y,hy⟩:=zX (l.getD d 0);have dP:=bL (l:=l) (j:=c) zbm;have ff:=bL (l:=l) (j:=d) zbh;rw[hx]at dP;rw[hy]at ff;replace dP:=zH dP;replace ff:=zH ff;obtain⟨l2,sL⟩:=zX (qa l c d);have dH:Hid (l2.length=16):=zH (by rw[←sL,rh];exact aI.out);have gG:Hid (W32 l2):=zH (by rw[←sL];exact rN iF.out _ _);have aL:Hid ((ws l).set c (.int .u32 (IntKind.u32.wrap ((x:Int)+(y:Int))))=ws l2):=zH (by
  rw[show((x:Int)+(y:Int))=((x+y:Nat):Int) by omega,dW,eX,←sL,qa,hx,hy])
 replace hR:=zH (by have q:=hR.out;rw[sL]at q;exact q);clear sL hx hy;go_upto_region 2 with fail
 obtain⟨wq,lq⟩:∃wq:World,w2=wq:=⟨_,rfl⟩;rw[lq]at k0 kg⊢;clear lq;refine cH 13 14 fun b9=>?_;refine eZ ?_ 1 8191 zaJ [0,1,2,3,4,5,6,7,8,9,10,11,12] (fun w' hB=>by have e1:=(k0.below hB).cell dP.out;have e2:=(k0.below hB).cell ff.out;exact zRd) ?_;refine bf 16383 rfl zDk (fun K hK=>?_);replace k0:=k0.below b9;replace kg:=fN kg b9;clear b9;refine br rfl _ _ _ rfl g c (.int .u32 (IntKind.u32.wrap ((x:Int)+(y:Int)))) rfl rfl _ k0 zKr zbn rfl (fun w3 k1 hg aB=>?_);replace kg:=aN kg hg;clear k0;have k0:=k1;clear k1;rw[aL.out]at k0;clear hg aB aL dP ff aI iF;refine hK (fun _=>True) 9999 _ _ ?_;clear hK K;try simp only[Act.put]
 try simp only[zSa,zSz,zSs]
 refine ap zKr ?_;have aI:=dH;have iF:=gG;clear dH gG;obtain⟨l,dF⟩:=zX l2;rw[dF]at k0 aI iF hR
 
 obtain⟨x,hx⟩:=zX (l.getD b 0);obtain⟨y,hy⟩:=zX (l.getD c 0);have dP:=bL (l:=l) (j:=b) zbf;have ff:=bL (l:=l) (j:=c) zbm;rw[hx]at dP;rw[hy]at ff;replace dP:=zH dP;replace ff:=zH ff;have lx:x<4294967296:=zbi;have ly:y<4294967296:=zbj;have qk:=fK lx ly;obtain⟨z,hz⟩:=zX (x ^^^y);have lz:Hid (z<4294967296):=zH zbk;rw[hz]at qk;obtain⟨l2,sM⟩:=zX (qx l b c 12);have dH:Hid (l2.length=16):=zH (by rw[←sM,ri];exact aI.out);have gG:Hid (W32 l2):=zH (by rw[←sM];exact rO iF.out _ _ _);have aL:Hid ((ws l).set b (.int .u32 ((rl z 12:Nat):Int))=ws l2):=zH (by
  rw[eX,←sM,qx,hx,hy,hz])
 replace hR:=zH (by have q:=hR.out;rw[sM]at q;exact q);clear sM hx hy hz lx ly;go_upto_region 3 with fail
 obtain⟨wq,lq⟩:∃wq:World,w3=wq:=⟨_,rfl⟩;rw[lq]at k0 kg⊢;clear lq;refine cH 16 17 fun di=>?_;refine eZ ?_ 3 24575 zaK [0,1,2,3,4,5,6,7,8,9,10,11,12,14] (fun w' hB=>by have e1:=(k0.below hB).cell dP.out;have e2:=(k0.below hB).cell ff.out;exact zRd) ?_;refine eg 13 32767 di (Wf lz.out) fun qD dV=>?_;refine eZ ?_ 1 65535 zaL [15] (fun _ _=>zRd) ?_;refine bf 131071 rfl zDk (fun K hK=>?_);replace k0:=k0.below dV;replace kg:=fN kg dV;clear dV;refine br rfl _ _ _ rfl g b (.int .u32 ((rl z 12:Nat):Int)) rfl rfl _ k0 zKr zbo rfl (fun w4 k1 hg aB=>?_);replace kg:=aN kg hg;clear k0;have k0:=k1;clear k1;rw[aL.out]at k0;clear hg aB aL dP ff aI iF qk lz;refine hK (fun _=>True) 9999 _ _ ?_;clear hK K;try simp only[Act.put]
 try simp only[zSa,zSz,zSs]
 refine ap zKr ?_;have aI:=dH;have iF:=gG;clear dH gG;obtain⟨l,dF⟩:=zX l2;rw[dF]at k0 aI iF hR
 
 obtain⟨x,hx⟩:=zX (l.getD a 0);obtain⟨y,hy⟩:=zX (l.getD b 0);have dP:=bL (l:=l) (j:=a) zbe;have ff:=bL (l:=l) (j:=b) zbf;rw[hx]at dP;rw[hy]at ff;replace dP:=zH dP;replace ff:=zH ff;obtain⟨l2,sN⟩:=zX (qa l a b);have dH:Hid (l2.length=16):=zH (by rw[←sN,rh];exact aI.out);have gG:Hid (W32 l2):=zH (by rw[←sN];exact rN iF.out _ _);have aL:Hid ((ws l).set a (.int .u32 (IntKind.u32.wrap ((x:Int)+(y:Int))))=ws l2):=zH (by
  rw[show((x:Int)+(y:Int))=((x+y:Nat):Int) by omega,dW,eX,←sN,qa,hx,hy])
 replace hR:=zH (by have q:=hR.out;rw[sN]at q;exact q);clear sN hx hy;go_upto_region 4 with fail
 obtain⟨wq,lq⟩:∃wq:World,w4=wq:=⟨_,rfl⟩;rw[lq]at k0 kg⊢;clear lq;refine cH 13 14 fun iB=>?_;refine eZ ?_ 1 8191 zbb [0,1,2,3,4,5,6,7,8,9,10,11,12] (fun w' hB=>by have e1:=(k0.below hB).cell dP.out;have e2:=(k0.below hB).cell ff.out;exact zRd) ?_;refine bf 16383 rfl zDk (fun K hK=>?_);replace k0:=k0.below iB;replace kg:=fN kg iB;clear iB;refine br rfl _ _ _ rfl g a (.int .u32 (IntKind.u32.wrap ((x:Int)+(y:Int)))) rfl rfl _ k0 zKr zbg rfl (fun w5 k1 hg aB=>?_);replace kg:=aN kg hg;clear k0;have k0:=k1;clear k1;rw[aL.out]at k0;clear hg aB aL dP ff aI iF;refine hK (fun _=>True) 9999 _ _ ?_;clear hK K;try simp only[Act.put]
 try simp only[zSa,zSz,zSs]
 refine ap zKr ?_;have aI:=dH;have iF:=gG;clear dH gG;obtain⟨l,dF⟩:=zX l2;rw[dF]at k0 aI iF hR
 
 obtain⟨x,hx⟩:=zX (l.getD d 0);obtain⟨y,hy⟩:=zX (l.getD a 0);have dP:=bL (l:=l) (j:=d) zbh;have ff:=bL (l:=l) (j:=a) zbe;rw[hx]at dP;rw[hy]at ff;replace dP:=zH dP;replace ff:=zH ff;have lx:x<4294967296:=zbi;have ly:y<4294967296:=zbj;have qk:=fK lx ly;obtain⟨z,hz⟩:=zX (x ^^^y);have lz:Hid (z<4294967296):=zH zbk;rw[hz]at qk;obtain⟨l2,sO⟩:=zX (qx l d a 8);have dH:Hid (l2.length=16):=zH (by rw[←sO,ri];exact aI.out);have gG:Hid (W32 l2):=zH (by rw[←sO];exact rO iF.out _ _ _);have aL:Hid ((ws l).set d (.int .u32 ((rl z 8:Nat):Int))=ws l2):=zH (by
  rw[eX,←sO,qx,hx,hy,hz])
 replace hR:=zH (by have q:=hR.out;rw[sO]at q;exact q);clear sO hx hy hz lx ly;go_upto_region 5 with fail
 obtain⟨wq,lq⟩:∃wq:World,w5=wq:=⟨_,rfl⟩;rw[lq]at k0 kg⊢;clear lq;refine cH 16 17 fun kV=>?_;refine eZ ?_ 3 24575 (by exact kV) [0,1,2,3,4,5,6,7,8,9,10,11,12,14] (fun w' hB=>by have e1:=(k0.below hB).cell dP.out;have e2:=(k0.below hB).cell ff.out;exact zRd) ?_;refine eg 13 32767 kV (aaI lz.out) fun xF hU=>?_;refine eZ ?_ 1 65535 zaF [15] (fun _ _=>zRd) ?_;refine bf 131071 rfl zDk (fun K hK=>?_);replace k0:=k0.below hU;replace kg:=fN kg hU;clear hU;refine br rfl _ _ _ rfl g d (.int .u32 ((rl z 8:Nat):Int)) rfl rfl _ k0 zKr zbl rfl (fun w6 k1 hg aB=>?_);replace kg:=aN kg hg;clear k0;have k0:=k1;clear k1;rw[aL.out]at k0;clear hg aB aL dP ff aI iF qk lz;refine hK (fun _=>True) 9999 _ _ ?_;clear hK K;try simp only[Act.put]
 try simp only[zSa,zSz,zSs]
 refine ap zKr ?_;have aI:=dH;have iF:=gG;clear dH gG;obtain⟨l,dF⟩:=zX l2;rw[dF]at k0 aI iF hR
 
 obtain⟨x,hx⟩:=zX (l.getD c 0);obtain⟨y,hy⟩:=zX (l.getD d 0);have dP:=bL (l:=l) (j:=c) zbm;have ff:=bL (l:=l) (j:=d) zbh;rw[hx]at dP;rw[hy]at ff;replace dP:=zH dP;replace ff:=zH ff;obtain⟨l2,sP⟩:=zX (qa l c d);have dH:Hid (l2.length=16):=zH (by rw[←sP,rh];exact aI.out);have gG:Hid (W32 l2):=zH (by rw[←sP];exact rN iF.out _ _);have aL:Hid ((ws l).set c (.int .u32 (IntKind.u32.wrap ((x:Int)+(y:Int))))=ws l2):=zH (by
  rw[show((x:Int)+(y:Int))=((x+y:Nat):Int) by omega,dW,eX,←sP,qa,hx,hy])
 replace hR:=zH (by have q:=hR.out;rw[sP]at q;exact q);clear sP hx hy;go_upto_region 6 with fail
 obtain⟨wq,lq⟩:∃wq:World,w6=wq:=⟨_,rfl⟩;rw[lq]at k0 kg⊢;clear lq;refine cH 13 14 fun eT=>?_;refine eZ ?_ 1 8191 (by exact eT) [0,1,2,3,4,5,6,7,8,9,10,11,12] (fun w' hB=>by have e1:=(k0.below hB).cell dP.out;have e2:=(k0.below hB).cell ff.out;exact zRd) ?_;refine bf 16383 rfl zDk (fun K hK=>?_);replace k0:=k0.below eT;replace kg:=fN kg eT;clear eT;refine br rfl _ _ _ rfl g c (.int .u32 (IntKind.u32.wrap ((x:Int)+(y:Int)))) rfl rfl _ k0 zKr zbn rfl (fun w7 k1 hg aB=>?_);replace kg:=aN kg hg;clear k0;have k0:=k1;clear k1;rw[aL.out]at k0;clear hg aB aL dP ff aI iF;refine hK (fun _=>True) 9999 _ _ ?_;clear hK K;try simp only[Act.put]
 try simp only[zSa,zSz,zSs]
 refine ap zKr ?_;have aI:=dH;have iF:=gG;clear dH gG;obtain⟨l,dF⟩:=zX l2;rw[dF]at k0 aI iF hR
 
 obtain⟨x,hx⟩:=zX (l.getD b 0);obtain⟨y,hy⟩:=zX (l.getD c 0);have dP:=bL (l:=l) (j:=b) zbf;have ff:=bL (l:=l) (j:=c) zbm;rw[hx]at dP;rw[hy]at ff;replace dP:=zH dP;replace ff:=zH ff;have lx:x<4294967296:=zbi;have ly:y<4294967296:=zbj;have qk:=fK lx ly;obtain⟨z,hz⟩:=zX (x ^^^y);have lz:Hid (z<4294967296):=zH zbk;rw[hz]at qk;obtain⟨l2,sQ⟩:=zX (qx l b c 7);have dH:Hid (l2.length=16):=zH (by rw[←sQ,ri];exact aI.out);have gG:Hid (W32 l2):=zH (by rw[←sQ];exact rO iF.out _ _ _);have aL:Hid ((ws l).set b (.int .u32 ((rl z 7:Nat):Int))=ws l2):=zH (by
  rw[eX,←sQ,qx,hx,hy,hz])
 replace hR:=zH (by have q:=hR.out;rw[sQ]at q;exact q);clear sQ hx hy hz lx ly;go_upto_region 7 with fail
 obtain⟨wq,lq⟩:∃wq:World,w7=wq:=⟨_,rfl⟩;rw[lq]at k0 kg⊢;clear lq;refine cH 16 17 fun gZ=>?_;refine eZ ?_ 3 24575 zaG [0,1,2,3,4,5,6,7,8,9,10,11,12,14] (fun w' hB=>by have e1:=(k0.below hB).cell dP.out;have e2:=(k0.below hB).cell ff.out;exact zRd) ?_;refine eg 13 32767 gZ (aaH lz.out) fun tq kT=>?_;refine eZ ?_ 1 65535 (by exact kT) [15] (fun _ _=>zRd) ?_;refine bf 131071 rfl zDk (fun K hK=>?_);replace k0:=k0.below kT;replace kg:=fN kg kT;clear kT;refine br rfl _ _ _ rfl g b (.int .u32 ((rl z 7:Nat):Int)) rfl rfl _ k0 zKr zbo rfl (fun w8 k1 hg aB=>?_);replace kg:=aN kg hg;clear k0;have k0:=k1;clear k1;rw[aL.out]at k0;clear hg aB aL dP ff aI iF qk lz;refine hK (fun _=>True) 9999 _ _ ?_;clear hK K;try simp only[Act.put]
 try simp only[zSa,zSz,zSs]
 refine ap zKr ?_;have aI:=dH;have iF:=gG;clear dH gG;obtain⟨l,dF⟩:=zX l2;rw[dF]at k0 aI iF hR;go_wp2_with fail;go_end0;have q:=hR.out;subst q;exact⟨rfl,k0,kg⟩
theorem ik {g:Nat} {l0:List Nat} {a b c d:Nat} (w:World) (Hp:l0.length=16) (P4:W32 l0) (ha:a<16) (hb:b<16) (hc:c<16) (hd:d<16) (k0:Arr w g (ws l0)):
 Calls Tryz.prog 115 #[.pointer (some ⟨g,0,none⟩),.int .i64 a,.int .i64 b,.int .i64 c,.int .i64 d] w fun e w'=>e=.returned (.tuple #[])∧Arr w' g (ws (qr l0 a b c d))∧w.grownBy w' (some g):=by
 obtain⟨R,hR⟩:=zX (qr l0 a b c d);rw[hR];have a0:(0:Int)≤(a:Int):=zOm;have a1:(a:Int)<16:=zOm;have b0:(0:Int)≤(b:Int):=zOm;have b1:(b:Int)<16:=zOm;have c0:(0:Int)≤(c:Int):=zOm;have c1:(c:Int)<16:=zOm;have d0:(0:Int)≤(d:Int):=zOm;have d1:(d:Int)<16:=zOm;obtain⟨l,dF⟩:=zX l0;have aI:Hid (l.length=16):=zH (by rw[←dF];exact Hp);have iF:Hid (W32 l):=zH (by rw[←dF];exact P4);rw[dF]at k0 hR;unfold qr at hR;replace hR:=zH hR;clear Hp P4 dF;have kg:=World.grownBy.refl w (some g);go_enter Tryz.func115,Tryz.ntmps115
 
 obtain⟨x,hx⟩:=zX (l.getD a 0);obtain⟨y,hy⟩:=zX (l.getD b 0);have dP:=bL (l:=l) (j:=a) zbe;have ff:=bL (l:=l) (j:=b) zbf;rw[hx]at dP;rw[hy]at ff;replace dP:=zH dP;replace ff:=zH ff;obtain⟨l2,sI⟩:=zX (qa l a b);have dH:Hid (l2.length=16):=zH (by rw[←sI,rh];exact aI.out);have gG:Hid (W32 l2):=zH (by rw[←sI];exact rN iF.out _ _);have aL:Hid ((ws l).set a (.int .u32 (IntKind.u32.wrap ((x:Int)+(y:Int))))=ws l2):=zH (by
  rw[show((x:Int)+(y:Int))=((x+y:Nat):Int) by omega,dW,eX,←sI,qa,hx,hy])
 replace hR:=zH (by have q:=hR.out;rw[sI]at q;exact q);clear sI hx hy;go_upto_region 0 with fail
 refine cH 15 16 fun iU=>?_;refine eZ ?_ 1 32767 zaN [0,1,2,3,4,5,6,7,8,9,10,11,12,13,14] (fun w' hB=>by have e1:=(k0.below hB).cell dP.out;have e2:=(k0.below hB).cell ff.out;exact zRd) ?_;refine bf 65535 rfl zDk (fun K hK=>?_);replace k0:=k0.below iU;replace kg:=fN kg iU;clear iU;refine br rfl _ _ _ rfl g a (.int .u32 (IntKind.u32.wrap ((x:Int)+(y:Int)))) rfl rfl _ k0 zKr zbg rfl (fun w1 k1 hg aB=>?_);replace kg:=aN kg hg;clear k0;have k0:=k1;clear k1;rw[aL.out]at k0;clear hg aB aL dP ff aI iF;refine hK (fun _=>True) 9999 _ _ ?_;clear hK K;try simp only[Act.put]
 try simp only[zSa,zSz,zSs]
 refine ap zKr ?_;have aI:=dH;have iF:=gG;clear dH gG;obtain⟨l,dF⟩:=zX l2;rw[dF]at k0 aI iF hR
 
 obtain⟨x,hx⟩:=zX (l.getD d 0);obtain⟨y,hy⟩:=zX (l.getD a 0);have dP:=bL (l:=l) (j:=d) zbh;have ff:=bL (l:=l) (j:=a) zbe;rw[hx]at dP;rw[hy]at ff;replace dP:=zH dP;replace ff:=zH ff;have lx:x<4294967296:=zbi;have ly:y<4294967296:=zbj;have qk:=fK lx ly;obtain⟨z,hz⟩:=zX (x ^^^y);have lz:Hid (z<4294967296):=zH zbk;rw[hz]at qk;obtain⟨l2,sJ⟩:=zX (qx l d a 16);have dH:Hid (l2.length=16):=zH (by rw[←sJ,ri];exact aI.out);have gG:Hid (W32 l2):=zH (by rw[←sJ];exact rO iF.out _ _ _);have aL:Hid ((ws l).set d (.int .u32 ((rl z 16:Nat):Int))=ws l2):=zH (by
  rw[eX,←sJ,qx,hx,hy,hz])
 replace hR:=zH (by have q:=hR.out;rw[sJ]at q;exact q);clear sJ hx hy hz lx ly;go_upto_region 1 with fail
 obtain⟨wq,lq⟩:∃wq:World,w1=wq:=⟨_,rfl⟩;rw[lq]at k0 kg⊢;clear lq;refine cH 16 17 fun iV=>?_;refine eZ ?_ 3 24575 (by exact iV) [0,1,2,3,4,5,6,7,8,9,10,11,12,14] (fun w' hB=>by have e1:=(k0.below hB).cell dP.out;have e2:=(k0.below hB).cell ff.out;exact zRd) ?_;refine eg 13 32767 iV (Wo lz.out) fun uj iA=>?_;refine eZ ?_ 1 65535 (by exact iA) [15] (fun _ _=>zRd) ?_;refine bf 131071 rfl zDk (fun K hK=>?_);replace k0:=k0.below iA;replace kg:=fN kg iA;clear iA;refine br rfl _ _ _ rfl g d (.int .u32 ((rl z 16:Nat):Int)) rfl rfl _ k0 zKr zbl rfl (fun w2 k1 hg aB=>?_);replace kg:=aN kg hg;clear k0;have k0:=k1;clear k1;rw[aL.out]at k0;clear hg aB aL dP ff aI iF qk lz;refine hK (fun _=>True) 9999 _ _ ?_;clear hK K;try simp only[Act.put]
 try simp only[zSa,zSz,zSs]
 refine ap zKr ?_;have aI:=dH;have iF:=gG;clear dH gG;obtain⟨l,dF⟩:=zX l2;rw[dF]at k0 aI iF hR
 
 obtain⟨x,hx⟩:=zX (l.getD c 0);obtain⟨y,hy⟩:=zX (l.getD d 0);have dP:=bL (l:=l) (j:=c) zbm;have ff:=bL (l:=l) (j:=d) zbh;rw[hx]at dP;rw[hy]at ff;replace dP:=zH dP;replace ff:=zH ff;obtain⟨l2,sL⟩:=zX (qa l c d);have dH:Hid (l2.length=16):=zH (by rw[←sL,rh];exact aI.out);have gG:Hid (W32 l2):=zH (by rw[←sL];exact rN iF.out _ _);have aL:Hid ((ws l).set c (.int .u32 (IntKind.u32.wrap ((x:Int)+(y:Int))))=ws l2):=zH (by
  rw[show((x:Int)+(y:Int))=((x+y:Nat):Int) by omega,dW,eX,←sL,qa,hx,hy])
 replace hR:=zH (by have q:=hR.out;rw[sL]at q;exact q);clear sL hx hy;go_upto_region 2 with fail
 obtain⟨wq,lq⟩:∃wq:World,w2=wq:=⟨_,rfl⟩;rw[lq]at k0 kg⊢;clear lq;refine cH 15 16 fun lT=>?_;refine eZ ?_ 1 32767 (by exact lT) [0,1,2,3,4,5,6,7,8,9,10,11,12,13,14] (fun w' hB=>by have e1:=(k0.below hB).cell dP.out;have e2:=(k0.below hB).cell ff.out;exact zRd) ?_;refine bf 65535 rfl zDk (fun K hK=>?_);replace k0:=k0.below lT;replace kg:=fN kg lT;clear lT;refine br rfl _ _ _ rfl g c (.int .u32 (IntKind.u32.wrap ((x:Int)+(y:Int)))) rfl rfl _ k0 zKr zbn rfl (fun w3 k1 hg aB=>?_);replace kg:=aN kg hg;clear k0;have k0:=k1;clear k1;rw[aL.out]at k0;clear hg aB aL dP ff aI iF;refine hK (fun _=>True) 9999 _ _ ?_;clear hK K;try simp only[Act.put]
 try simp only[zSa,zSz,zSs]
 refine ap zKr ?_;have aI:=dH;have iF:=gG;clear dH gG;obtain⟨l,dF⟩:=zX l2;rw[dF]at k0 aI iF hR
 
 obtain⟨x,hx⟩:=zX (l.getD b 0);obtain⟨y,hy⟩:=zX (l.getD c 0);have dP:=bL (l:=l) (j:=b) zbf;have ff:=bL (l:=l) (j:=c) zbm;rw[hx]at dP;rw[hy]at ff;replace dP:=zH dP;replace ff:=zH ff;have lx:x<4294967296:=zbi;have ly:y<4294967296:=zbj;have qk:=fK lx ly;obtain⟨z,hz⟩:=zX (x ^^^y);have lz:Hid (z<4294967296):=zH zbk;rw[hz]at qk;obtain⟨l2,sM⟩:=zX (qx l b c 12);have dH:Hid (l2.length=16):=zH (by rw[←sM,ri];exact aI.out);have gG:Hid (W32 l2):=zH (by rw[←sM];exact rO iF.out _ _ _);have aL:Hid ((ws l).set b (.int .u32 ((rl z 12:Nat):Int))=ws l2):=zH (by
  rw[eX,←sM,qx,hx,hy,hz])
 replace hR:=zH (by have q:=hR.out;rw[sM]at q;exact q);clear sM hx hy hz lx ly;go_upto_region 3 with fail
 obtain⟨wq,lq⟩:∃wq:World,w3=wq:=⟨_,rfl⟩;rw[lq]at k0 kg⊢;clear lq;refine cH 16 17 fun nh=>?_;refine eZ ?_ 3 24575 (by exact nh) [0,1,2,3,4,5,6,7,8,9,10,11,12,14] (fun w' hB=>by have e1:=(k0.below hB).cell dP.out;have e2:=(k0.below hB).cell ff.out;exact zRd) ?_;refine eg 13 32767 nh (Wn lz.out) fun Dm nR=>?_;refine eZ ?_ 1 65535 (by exact nR) [15] (fun _ _=>zRd) ?_;refine bf 131071 rfl zDk (fun K hK=>?_);replace k0:=k0.below nR;replace kg:=fN kg nR;clear nR;refine br rfl _ _ _ rfl g b (.int .u32 ((rl z 12:Nat):Int)) rfl rfl _ k0 zKr zbo rfl (fun w4 k1 hg aB=>?_);replace kg:=aN kg hg;clear k0;have k0:=k1;clear k1;rw[aL.out]at k0;clear hg aB aL dP ff aI iF qk lz;refine hK (fun _=>True) 9999 _ _ ?_;clear hK K;try simp only[Act.put]
 try simp only[zSa,zSz,zSs]
 refine ap zKr ?_;have aI:=dH;have iF:=gG;clear dH gG;obtain⟨l,dF⟩:=zX l2;rw[dF]at k0 aI iF hR
 
 obtain⟨x,hx⟩:=zX (l.getD a 0);obtain⟨y,hy⟩:=zX (l.getD b 0);have dP:=bL (l:=l) (j:=a) zbe;have ff:=bL (l:=l) (j:=b) zbf;rw[hx]at dP;rw[hy]at ff;replace dP:=zH dP;replace ff:=zH ff;obtain⟨l2,sN⟩:=zX (qa l a b);have dH:Hid (l2.length=16):=zH (by rw[←sN,rh];exact aI.out);have gG:Hid (W32 l2):=zH (by rw[←sN];exact rN iF.out _ _);have aL:Hid ((ws l).set a (.int .u32 (IntKind.u32.wrap ((x:Int)+(y:Int))))=ws l2):=zH (by
  rw[show((x:Int)+(y:Int))=((x+y:Nat):Int) by omega,dW,eX,←sN,qa,hx,hy])
 replace hR:=zH (by have q:=hR.out;rw[sN]at q;exact q);clear sN hx hy;go_upto_region 4 with fail
 obtain⟨wq,lq⟩:∃wq:World,w4=wq:=⟨_,rfl⟩;rw[lq]at k0 kg⊢;clear lq;refine cH 15 16 fun pV=>?_;refine eZ ?_ 1 32767 (by exact pV) [0,1,2,3,4,5,6,7,8,9,10,11,12,13,14] (fun w' hB=>by have e1:=(k0.below hB).cell dP.out;have e2:=(k0.below hB).cell ff.out;exact zRd) ?_;refine bf 65535 rfl zDk (fun K hK=>?_);replace k0:=k0.below pV;replace kg:=fN kg pV;clear pV;refine br rfl _ _ _ rfl g a (.int .u32 (IntKind.u32.wrap ((x:Int)+(y:Int)))) rfl rfl _ k0 zKr zbg rfl (fun w5 k1 hg aB=>?_);replace kg:=aN kg hg;clear k0;have k0:=k1;clear k1;rw[aL.out]at k0;clear hg aB aL dP ff aI iF;refine hK (fun _=>True) 9999 _ _ ?_;clear hK K;try simp only[Act.put]
 try simp only[zSa,zSz,zSs]
 refine ap zKr ?_;have aI:=dH;have iF:=gG;clear dH gG;obtain⟨l,dF⟩:=zX l2;rw[dF]at k0 aI iF hR
 
 obtain⟨x,hx⟩:=zX (l.getD d 0);obtain⟨y,hy⟩:=zX (l.getD a 0);have dP:=bL (l:=l) (j:=d) zbh;have ff:=bL (l:=l) (j:=a) zbe;rw[hx]at dP;rw[hy]at ff;replace dP:=zH dP;replace ff:=zH ff;have lx:x<4294967296:=zbi;have ly:y<4294967296:=zbj;have qk:=fK lx ly;obtain⟨z,hz⟩:=zX (x ^^^y);have lz:Hid (z<4294967296):=zH zbk;rw[hz]at qk;obtain⟨l2,sO⟩:=zX (qx l d a 8);have dH:Hid (l2.length=16):=zH (by rw[←sO,ri];exact aI.out);have gG:Hid (W32 l2):=zH (by rw[←sO];exact rO iF.out _ _ _);have aL:Hid ((ws l).set d (.int .u32 ((rl z 8:Nat):Int))=ws l2):=zH (by
  rw[eX,←sO,qx,hx,hy,hz])
 replace hR:=zH (by have q:=hR.out;rw[sO]at q;exact q);clear sO hx hy hz lx ly;go_upto_region 5 with fail
 obtain⟨wq,lq⟩:∃wq:World,w5=wq:=⟨_,rfl⟩;rw[lq]at k0 kg⊢;clear lq;refine cH 16 17 fun ni=>?_;refine eZ ?_ 3 24575 (by exact ni) [0,1,2,3,4,5,6,7,8,9,10,11,12,14] (fun w' hB=>by have e1:=(k0.below hB).cell dP.out;have e2:=(k0.below hB).cell ff.out;exact zRd) ?_;refine eg 13 32767 ni (aaL lz.out) fun DW pW=>?_;refine eZ ?_ 1 65535 (by exact pW) [15] (fun _ _=>zRd) ?_;refine bf 131071 rfl zDk (fun K hK=>?_);replace k0:=k0.below pW;replace kg:=fN kg pW;clear pW;refine br rfl _ _ _ rfl g d (.int .u32 ((rl z 8:Nat):Int)) rfl rfl _ k0 zKr zbl rfl (fun w6 k1 hg aB=>?_);replace kg:=aN kg hg;clear k0;have k0:=k1;clear k1;rw[aL.out]at k0;clear hg aB aL dP ff aI iF qk lz;refine hK (fun _=>True) 9999 _ _ ?_;clear hK K;try simp only[Act.put]
 try simp only[zSa,zSz,zSs]
 refine ap zKr ?_;have aI:=dH;have iF:=gG;clear dH gG;obtain⟨l,dF⟩:=zX l2;rw[dF]at k0 aI iF hR
 
 obtain⟨x,hx⟩:=zX (l.getD c 0);obtain⟨y,hy⟩:=zX (l.getD d 0);have dP:=bL (l:=l) (j:=c) zbm;have ff:=bL (l:=l) (j:=d) zbh;rw[hx]at dP;rw[hy]at ff;replace dP:=zH dP;replace ff:=zH ff;obtain⟨l2,sP⟩:=zX (qa l c d);have dH:Hid (l2.length=16):=zH (by rw[←sP,rh];exact aI.out);have gG:Hid (W32 l2):=zH (by rw[←sP];exact rN iF.out _ _);have aL:Hid ((ws l).set c (.int .u32 (IntKind.u32.wrap ((x:Int)+(y:Int))))=ws l2):=zH (by
  rw[show((x:Int)+(y:Int))=((x+y:Nat):Int) by omega,dW,eX,←sP,qa,hx,hy])
 replace hR:=zH (by have q:=hR.out;rw[sP]at q;exact q);clear sP hx hy;go_upto_region 6 with fail
 obtain⟨wq,lq⟩:∃wq:World,w6=wq:=⟨_,rfl⟩;rw[lq]at k0 kg⊢;clear lq;refine cH 15 16 fun mI=>?_;refine eZ ?_ 1 32767 (by exact mI) [0,1,2,3,4,5,6,7,8,9,10,11,12,13,14] (fun w' hB=>by have e1:=(k0.below hB).cell dP.out;have e2:=(k0.below hB).cell ff.out;exact zRd) ?_;refine bf 65535 rfl zDk (fun K hK=>?_);replace k0:=k0.below mI;replace kg:=fN kg mI;clear mI;refine br rfl _ _ _ rfl g c (.int .u32 (IntKind.u32.wrap ((x:Int)+(y:Int)))) rfl rfl _ k0 zKr zbn rfl (fun w7 k1 hg aB=>?_);replace kg:=aN kg hg;clear k0;have k0:=k1;clear k1;rw[aL.out]at k0;clear hg aB aL dP ff aI iF;refine hK (fun _=>True) 9999 _ _ ?_;clear hK K;try simp only[Act.put]
 try simp only[zSa,zSz,zSs]
 refine ap zKr ?_;have aI:=dH;have iF:=gG;clear dH gG;obtain⟨l,dF⟩:=zX l2;rw[dF]at k0 aI iF hR
 
 obtain⟨x,hx⟩:=zX (l.getD b 0);obtain⟨y,hy⟩:=zX (l.getD c 0);have dP:=bL (l:=l) (j:=b) zbf;have ff:=bL (l:=l) (j:=c) zbm;rw[hx]at dP;rw[hy]at ff;replace dP:=zH dP;replace ff:=zH ff;have lx:x<4294967296:=zbi;have ly:y<4294967296:=zbj;have qk:=fK lx ly;obtain⟨z,hz⟩:=zX (x ^^^y);have lz:Hid (z<4294967296):=zH zbk;rw[hz]at qk;obtain⟨l2,sQ⟩:=zX (qx l b c 7);have dH:Hid (l2.length=16):=zH (by rw[←sQ,ri];exact aI.out);have gG:Hid (W32 l2):=zH (by rw[←sQ];exact rO iF.out _ _ _);have aL:Hid ((ws l).set b (.int .u32 ((rl z 7:Nat):Int))=ws l2):=zH (by
  rw[eX,←sQ,qx,hx,hy,hz])
 replace hR:=zH (by have q:=hR.out;rw[sQ]at q;exact q);clear sQ hx hy hz lx ly;go_upto_region 7 with fail
 obtain⟨wq,lq⟩:∃wq:World,w7=wq:=⟨_,rfl⟩;rw[lq]at k0 kg⊢;clear lq;refine cH 16 17 fun nS=>?_;refine eZ ?_ 3 24575 (by exact nS) [0,1,2,3,4,5,6,7,8,9,10,11,12,14] (fun w' hB=>by have e1:=(k0.below hB).cell dP.out;have e2:=(k0.below hB).cell ff.out;exact zRd) ?_;refine eg 13 32767 nS (aaK lz.out) fun IK zS=>?_;refine eZ ?_ 1 65535 (by exact zS) [15] (fun _ _=>zRd) ?_;refine bf 131071 rfl zDk (fun K hK=>?_);replace k0:=k0.below zS;replace kg:=fN kg zS;clear zS;refine br rfl _ _ _ rfl g b (.int .u32 ((rl z 7:Nat):Int)) rfl rfl _ k0 zKr zbo rfl (fun w8 k1 hg aB=>?_);replace kg:=aN kg hg;clear k0;have k0:=k1;clear k1;rw[aL.out]at k0;clear hg aB aL dP ff aI iF qk lz;refine hK (fun _=>True) 9999 _ _ ?_;clear hK K;try simp only[Act.put]
 try simp only[zSa,zSz,zSs]
 refine ap zKr ?_;have aI:=dH;have iF:=gG;clear dH gG;obtain⟨l,dF⟩:=zX l2;rw[dF]at k0 aI iF hR;go_wp2_with fail;go_end0;have q:=hR.out;subst q;exact⟨rfl,k0,kg⟩
def w4 (b0 b1 b2 b3:Nat):Nat:=b0+256*b1+65536*b2+16777216*b3
theorem aeG {b0 b1 b2 b3:Nat} (h0:b0<256) (h1:b1<256) (h2:b2<256) (h3:b3<256):w4 b0 b1 b2 b3<4294967296:=by unfold w4;omega
theorem zx {x y k:Nat} (hx:x<2^k):x |||(2^k*y)=x+2^k*y:=by
 rw[Nat.or_comm,←Nat.two_pow_add_eq_or_of_lt hx,Nat.add_comm]
theorem Ul {g o n c:Nat} {b0 b1 b2 b3:Nat} (w:World) (h0:b0<256) (h1:b1<256) (h2:b2<256) (h3:b3<256) (hn:4≤n)
 (c0:w.cell? ⟨g,o,none⟩=some (.int .u8 (b0:Int))) (c1:w.cell? ⟨g,o+1,none⟩=some (.int .u8 (b1:Int))) (c2:w.cell? ⟨g,o+2,none⟩=some (.int .u8 (b2:Int))) (c3:w.cell? ⟨g,o+3,none⟩=some (.int .u8 (b3:Int))):
 CB 245 #[.slice (some ⟨g,o,none⟩) n c] w (.int .u32 ((w4 b0 b1 b2 b3:Nat):Int)):=by
 have n0:0<n:=zOm;have m1:1<n:=zOm;have m2:2<n:=zOm;have m3:3<n:=zOm;have n1:(1:Int)<(n:Int):=zOm;have n2:(2:Int)<(n:Int):=zOm;have n3:(3:Int)<(n:Int):=zOm;have e1:bits .or .u32 (b0:Int) (IntKind.u32.wrap ((b1:Int)*256))=((b0+256*b1:Nat):Int):=by
  exact zfj
 have e2:bits .or .u32 ((b0+256*b1:Nat):Int) (IntKind.u32.wrap ((b2:Int)*65536))=((b0+256*b1+65536*b2:Nat):Int):=by
  exact zfg
 have e3:bits .or .u32 ((b0+256*b1+65536*b2:Nat):Int) (IntKind.u32.wrap ((b3:Int)*16777216))=((w4 b0 b1 b2 b3:Nat):Int):=by
  exact ze6
 have u0:IntKind.u32.wrap (b0:Int)=(b0:Int):=eV zOm;have u1:IntKind.u32.wrap (b1:Int)=(b1:Int):=eV zOm;have u2:IntKind.u32.wrap (b2:Int)=(b2:Int):=eV zOm;have u3:IntKind.u32.wrap (b3:Int)=(b3:Int):=eV zOm;obtain⟨r1,og⟩:=zX (b0+256*b1);rw[og]at e1 e2 e3;obtain⟨r2,Du⟩:=zX (r1+65536*b2);rw[Du]at e2 e3;obtain⟨r3,Ux⟩:=zX (w4 b0 b1 b2 b3);rw[Ux]at e3⊢;clear og Du Ux;go_enter Tryz.func245,Tryz.ntmps245;go_upto_region 1 with fail
 refine cH 9999 23 fun aP=>?_;refine dz ?_ 0 8388607 zaD [0,1,2,3,4,5,6,7,8,9,10,11,12,13,14,15,16,17,18,19,20,21,22] (fun w' hB=>by have d0:w'.cell? ⟨g,o,none⟩=some (.int .u8 (b0:Int)):=zbp;have d1:w'.cell? ⟨g,o+1,none⟩=some (.int .u8 (b1:Int)):=zbq;have d2:w'.cell? ⟨g,o+2,none⟩=some (.int .u8 (b2:Int)):=zbr;have d3:w'.cell? ⟨g,o+3,none⟩=some (.int .u8 (b3:Int)):=zbs;exact zRd) ?_;refine ap zKr ?_;go_wp2_with fail;go_ret;exact⟨rfl,aP⟩
theorem J4 {g o n c:Nat} {b0 b1 b2 b3:Nat} (w:World) (h0:b0<256) (h1:b1<256) (h2:b2<256) (h3:b3<256) (hn:4≤n)
 (c0:w.cell? ⟨g,o,none⟩=some (.int .u8 (b0:Int))) (c1:w.cell? ⟨g,o+1,none⟩=some (.int .u8 (b1:Int))) (c2:w.cell? ⟨g,o+2,none⟩=some (.int .u8 (b2:Int))) (c3:w.cell? ⟨g,o+3,none⟩=some (.int .u8 (b3:Int))):
 CB 114 #[.slice (some ⟨g,o,none⟩) n c] w (.int .u32 ((w4 b0 b1 b2 b3:Nat):Int)):=by
 have n0:0<n:=zOm;have m1:1<n:=zOm;have m2:2<n:=zOm;have m3:3<n:=zOm;have n1:(1:Int)<(n:Int):=zOm;have n2:(2:Int)<(n:Int):=zOm;have n3:(3:Int)<(n:Int):=zOm;have e1:bits .or .u32 (b0:Int) (IntKind.u32.wrap ((b1:Int)*256))=((b0+256*b1:Nat):Int):=by
  exact zfj
 have e2:bits .or .u32 ((b0+256*b1:Nat):Int) (IntKind.u32.wrap ((b2:Int)*65536))=((b0+256*b1+65536*b2:Nat):Int):=by
  exact zfg
 have e3:bits .or .u32 ((b0+256*b1+65536*b2:Nat):Int) (IntKind.u32.wrap ((b3:Int)*16777216))=((w4 b0 b1 b2 b3:Nat):Int):=by
  exact ze6
 have u0:IntKind.u32.wrap (b0:Int)=(b0:Int):=eV zOm;have u1:IntKind.u32.wrap (b1:Int)=(b1:Int):=eV zOm;have u2:IntKind.u32.wrap (b2:Int)=(b2:Int):=eV zOm;have u3:IntKind.u32.wrap (b3:Int)=(b3:Int):=eV zOm;obtain⟨r1,og⟩:=zX (b0+256*b1);rw[og]at e1 e2 e3;obtain⟨r2,Du⟩:=zX (r1+65536*b2);rw[Du]at e2 e3;obtain⟨r3,Ux⟩:=zX (w4 b0 b1 b2 b3);rw[Ux]at e3⊢;clear og Du Ux;go_enter Tryz.func114,Tryz.ntmps114;go_upto_region 1 with fail
 refine cH 9999 23 fun bn=>?_;refine dz ?_ 0 8388607 za0 [0,1,2,3,4,5,6,7,8,9,10,11,12,13,14,15,16,17,18,19,20,21,22] (fun w' hB=>by have d0:w'.cell? ⟨g,o,none⟩=some (.int .u8 (b0:Int)):=zbp;have d1:w'.cell? ⟨g,o+1,none⟩=some (.int .u8 (b1:Int)):=zbq;have d2:w'.cell? ⟨g,o+2,none⟩=some (.int .u8 (b2:Int)):=zbr;have d3:w'.cell? ⟨g,o+3,none⟩=some (.int .u8 (b3:Int)):=zbs;exact zRd) ?_;refine ap zKr ?_;go_wp2_with fail;go_ret;exact⟨rfl,bn⟩
def kw (k i:Nat):Nat:=w4 (k/256^(4*i)%256) (k/256^(4*i+1)%256) (k/256^(4*i+2)%256) (k/256^(4*i+3)%256)
theorem Yb (k i:Nat):kw k i<4294967296:=aeG (zA1 _ zDc) (zA1 _ zDc) (zA1 _ zDc) (zA1 _ zDc)
def Dy (k:Nat):Nat→List Nat
 |0=>[1634760805,857760878,2036477234,1797285236,0,0,0,0,0,0,0,0,0,0,0,0]
 |i+1=>(Dy k i).set (4+i) (kw k i)
def KQ (l:List Nat) (n:Nat):Nat→List Nat
 |0=>l
 |i+1=>(KQ l n i).set (13+i) (kw n i)
def v8 (k c n:Nat):List Nat:=KQ ((Dy k 8).set 12 c) n 3
theorem pj (k:Nat):∀i,(Dy k i).length=16
 |0=>rfl
 |i+1=>by rw[Dy,zA23,pj k i]
theorem A6 {l:List Nat} (hl:l.length=16) (n:Nat):∀i,(KQ l n i).length=16
 |0=>hl
 |i+1=>by rw[KQ,zA23,A6 hl n i]
theorem Tu (k:Nat):∀i,W32 (Dy k i)
 |0=>by intro x hx;simp only[Dy,List.mem_cons,List.not_mem_nil,or_false]at hx;omega
 |i+1=>(Tu k i).set _ (Yb _ _)
theorem Tv {l:List Nat} (hl:W32 l) (n:Nat):∀i,W32 (KQ l n i)
 |0=>hl
 |i+1=>(Tv hl n i).set _ (Yb _ _)
theorem Bl (k c n:Nat):(v8 k c n).length=16:=A6 (by rw[zA23,pj]) n 3
theorem Lk (k n:Nat) {c:Nat} (hc:c<4294967296):W32 (v8 k c n):=Tv ((Tu k 8).set 12 hc) n 3
def Fj (l:List Nat):Nat→List Nat
 |0=>l
 |i+1=>qr (Fj l i) i (4+i) (8+i) (12+i)
def Fm (l:List Nat):Nat→List Nat
 |0=>l
 |i+1=>qr (Fm l i) i (4+(i+1)%4) (8+(i+2)%4) (12+(i+3)%4)
def xV (l:List Nat):Nat→List Nat
 |0=>l
 |i+1=>Fm (Fj (xV l i) 4) 4
theorem wk {l:List Nat} (h:l.length=16∧W32 l):∀i,(Fj l i).length=16∧W32 (Fj l i)
 |0=>h
 |i+1=>⟨by rw[Fj,pw];exact(wk h i).1,uC (wk h i).2 _ _ _ _⟩
theorem AJ {l:List Nat} (h:l.length=16∧W32 l):∀i,(Fm l i).length=16∧W32 (Fm l i)
 |0=>h
 |i+1=>⟨by rw[Fm,pw];exact(AJ h i).1,uC (AJ h i).2 _ _ _ _⟩
theorem wm {l:List Nat} (h:l.length=16∧W32 l):∀i,(xV l i).length=16∧W32 (xV l i)
 |0=>h
 |i+1=>AJ (wk (wm h i) 4) 4
def Yv (k c n:Nat):List Nat:=List.zipWith (fun a b=>(a+b)%4294967296) (xV (v8 k c n) 10) (v8 k c n)
def DD (k c n j:Nat):Nat:=(Yv k c n).getD (j/4) 0/256^(j%4)%256
def fV (k c n:Nat):Nat→Nat
 |0=>0
 |j+1=>fV k c n j+256^j*DD k c n j
theorem Fb (k c n j:Nat):DD k c n j<256:=zA1 _ zDc
theorem Fc (k c n:Nat):∀j,fV k c n j<256^j
 |0=>Nat.zero_lt_one
 |j+1=>by
  have h1:=Fc k c n j;have h2:=Fb k c n j;rw[fV,zA24];have:256^j*DD k c n j≤256^j*255:=Nat.mul_le_mul_left _ zOm;omega
theorem nH {K m j v:Nat} (hm:m<256^j) (hv:v<256):(ag K m).set j (.int .u8 (v:Int))=ag K (m+256^j*v):=by
 apply List.ext_getElem?;intro i;have hp:0<256^j:=Nat.pow_pos zDc
 by_cases hi:i<K
 ·rw[List.getElem?_set,bX _ _ _ hi]
  by_cases e:j=i
  ·subst e;rw[if_pos rfl,if_pos (by rw[aa];exact hi),bX _ _ _ hi,zA30 _ _ hp,zA32 hm,Nat.zero_add,zA4 hv]
  ·rw[if_neg e,bX _ _ _ hi];congr 3
   by_cases h:i<j
   ·have e2:256^j=256^i*(256*256^(j-i-1)):=(by rw[←zA26,←zA24,←Nat.pow_add,show i+1+(j-i-1)=j by omega]);rw[e2,zA26,zA30 _ _ (Nat.pow_pos zDc),zA26,zA27]
   ·have h3:256^(j+1)≤256^i:=Nat.pow_le_pow_right zDc zOm;have h4:256^j*v≤256^j*255:=Nat.mul_le_mul_left _ zOm;rw[zA24]at h3;rw[zA32 zOm,zA32 zOm]
 ·rw[zA13 (by rw[zA23,aa];omega),zA13 za4]
end Go.Proofs.YtgfkgolafkdjfaaGreatDoor
