/- ModelWrong: part 19 of its proof: lemmas and contracts, each with its conditions in its own statement; the last part holds the law itself. -/
import Derived.Test.YtgfkgolafkdjfaaGreatDoorJv18
import Derived.Deep.LoopGhost
import Derived.Test.YtgfkgolafkdjfaaGreatDoorJv17

set_option maxHeartbeats 4000000
set_option maxRecDepth 100000
namespace Go.Proofs.YtgfkgolafkdjfaaGreatDoor
open Go.RowKit
theorem Lz {w:World} {g K k i:Nat} (h:Arr w g (ag K k)) (hi:4*i+3<K):
 w.cell? ⟨g,4*i,none⟩=some (.int .u8 ((k/256^(4*i)%256:Nat):Int))∧w.cell? ⟨g,4*i+1,none⟩=some (.int .u8 ((k/256^(4*i+1)%256:Nat):Int))∧
 w.cell? ⟨g,4*i+2,none⟩=some (.int .u8 ((k/256^(4*i+2)%256:Nat):Int))∧w.cell? ⟨g,4*i+3,none⟩=some (.int .u8 ((k/256^(4*i+3)%256:Nat):Int)):=
 ⟨h.cell (bX _ _ _ zOm),h.cell (bX _ _ _ zOm),h.cell (bX _ _ _ zOm),h.cell (bX _ _ _ zOm)⟩
theorem MO {w:World} {g K k i n c:Nat} (h:Arr w g (ag K k)) (hi:4*i+3<K) (hn:4≤n):
 CB 245 #[.slice (some ⟨g,4*i,none⟩) n c] w (.int .u32 ((kw k i:Nat):Int)):=by
 obtain⟨c0,c1,c2,c3⟩:=Lz h hi;exact Ul w (zA1 _ zDc) (zA1 _ zDc) (zA1 _ zDc) (zA1 _ zDc) hn c0 c1 c2 c3
theorem Ep {w:World} {g K k i n c:Nat} (h:Arr w g (ag K k)) (hi:4*i+3<K) (hn:4≤n):
 CB 114 #[.slice (some ⟨g,4*i,none⟩) n c] w (.int .u32 ((kw k i:Nat):Int)):=by
 obtain⟨c0,c1,c2,c3⟩:=Lz h hi;exact J4 w (zA1 _ zDc) (zA1 _ zDc) (zA1 _ zDc) (zA1 _ zDc) hn c0 c1 c2 c3
theorem I9 (k n c:Nat) (w:World):
 CB 231 #[.agg (ag 32 k).toArray,.int .u32 (c:Int),.agg (ag 12 n).toArray] w (.agg (ws (v8 k c n)).toArray):=by
 go_enter Tryz.func231,Tryz.ntmps231;go_upto_region 1 with fail
 refine bZ (fun W aB k3 k5 k6 kb=>?_);have k3:Arr W w.heap.size (ag 32 k):=k3;have k5:Arr W (w.heap.size+1) (ag 12 n):=k5;have k6:Arr W (w.heap.size+1+1) (List.replicate 16 (.int .u32 0)):=k6;clear aB;go_upto_region 2 with fail
 refine aH (fun w4 aB k7 hb=>?_);replace k7:Arr w4 W.heap.size (ws (Dy k 0)):=k7;have h3:=k3.lt;have h5:=k5.lt;have h6:=k6.lt;obtain⟨k3,k5,k6⟩:=dZ k3 k5 k6 hb;replace kb:=az kb hb;obtain⟨g7,lW⟩:=zX W.heap.size;rw[lW]at k7 h3 h5 h6⊢;clear hb aB lW;obtain⟨g3,kZ⟩:=zX w.heap.size;rw[kZ]at k3 k5 k6 h3 h5 h6⊢;replace kZ:=zH kZ;go_wp2_with fail;go_loopw[11] (fun iv wr=>∃i:Nat,i≤8∧iv=.int .i64 i∧Arr wr g3 (ag 32 k)∧Arr wr (g3+1) (ag 12 n)∧Arr wr (g3+1+1) (List.replicate 16 (.int .u32 0))∧Arr wr g7 (ws (Dy k i))∧Below w.heap.size w wr) (fun iv _=>8-(intOf iv).toNat)
 case atStart=>exact⟨0,by omega,rfl,k3,k5,k6,k7,kb⟩
 case round=>
  clear k3 k5 k6 k7 kb;obtain⟨i,hi,rfl,k3,k5,k6,k7,kb⟩:=hrel;have mA:(0:Int)≤(i:Int):=zOm
  by_cases iS:i<8
  ·have ub:(i:Int)<8:=zOm;obtain⟨j,hj⟩:=zX (4*i);obtain⟨m,hm⟩:=zX (4+i);have e4:4*(i:Int)=(j:Int):=zOm;have em:4+(i:Int)=(m:Int):=zOm;have uz:(0:Int)≤(j:Int):=zOm;have hj1:(j:Int)≤32:=zOm;have Zy:¬32=j:=zOm;have lZ:(0:Int)≤(m:Int):=zOm;have Vg:(m:Int)<16:=zOm;replace hj:=zH hj;replace hm:=zH hm;go_wp2_with fail;refine zQ (show CB 245 #[.slice (some ⟨g3,j,none⟩) (32-j) (32-j)] wr (.int .u32 ((kw k i:Nat):Int)) from by rw[←hj.out];exact MO k3 zOm zOm) fun w5 hb=>?_;obtain⟨k3,k5,k6,k7⟩:=kJ k3 k5 k6 k7 hb;replace kb:=az kb hb;clear hb;obtain⟨x,hx⟩:=zX (kw k i);rw[hx];have aL:Hid ((ws (Dy k i)).set m (.int .u32 (x:Int))=ws (Dy k (i+1))):=zH zbt;clear hx;have aI:=zH (pj k i);go_wp2_with(refine bM rfl _ _ _ rfl g7 m (.int .u32 (x:Int)) rfl rfl _ k7 zKr zbu rfl (fun w6 k7 hg aB=>?_))
   rw[aL.out]at k7;have q3:=k3.kept hg zOm;have q5:=k5.kept hg zOm;have q6:=k6.kept hg zOm;have qb:=aq kb hg zbv kb.size;go_wp2_with fail;exact⟨⟨i+1,by omega,by go_num,q3,q5,q6,k7,qb⟩,by simp[intOf];omega⟩
  ·obtain rfl:i=8:=zOm;have aL:Hid ((ws (Dy k 8)).set 12 (.int .u32 (c:Int))=ws (KQ ((Dy k 8).set 12 c) n 0)):=zH (by rw[eX];rfl);have aI:=zH (pj k 8);go_upto_region 8 with(refine bM rfl _ _ _ rfl g7 12 (.int .u32 (c:Int)) rfl rfl _ k7 zKr zbu rfl (fun w6 k7 hg aB=>?_))
   rw[aL.out]at k7;replace k3:=k3.kept hg zOm;replace k5:=k5.kept hg zOm;replace k6:=k6.kept hg zOm;replace kb:=aq kb hg zbv kb.size;have BW:Hid (((Dy k 8).set 12 c).length=16):=zH (by rw[zA23];exact pj k 8);obtain⟨l0,hl⟩:=zX ((Dy k 8).set 12 c);rw[hl]at k7 BW;replace hl:=zH hl;clear hg aB aL aI iS hi mA;go_wp2_with fail;go_loopw[24] (fun iv wr=>∃i:Nat,i≤3∧iv=.int .i64 i∧Arr wr (g3+1) (ag 12 n)∧Arr wr (g3+1+1) (List.replicate 16 (.int .u32 0))∧Arr wr g7 (ws (KQ l0 n i))∧Below w.heap.size w wr) (fun iv _=>3-(intOf iv).toNat)
   case atStart=>exact⟨0,by omega,rfl,k5,k6,k7,kb⟩
   case round=>
    clear k3 k5 k6 k7 kb;obtain⟨i,hi,rfl,k5,k6,k7,kb⟩:=hrel;have mA:(0:Int)≤(i:Int):=zOm
    by_cases iS:i<3
    ·have ub:(i:Int)<3:=zOm;obtain⟨j,hj⟩:=zX (4*i);obtain⟨m,hm⟩:=zX (13+i);have e4:4*(i:Int)=(j:Int):=zOm;have em:13+(i:Int)=(m:Int):=zOm;have uz:(0:Int)≤(j:Int):=zOm;have hj1:(j:Int)≤12:=zOm;have Zy:¬12=j:=zOm;have lZ:(0:Int)≤(m:Int):=zOm;have Vg:(m:Int)<16:=zOm;replace hj:=zH hj;replace hm:=zH hm;go_wp2_with fail;refine zQ (show CB 245 #[.slice (some ⟨g3+1,j,none⟩) (12-j) (12-j)] wr (.int .u32 ((kw n i:Nat):Int)) from by rw[←hj.out];exact MO k5 zOm zOm) fun w5 hb=>?_;obtain⟨k5,k6,k7⟩:=dZ k5 k6 k7 hb;replace kb:=az kb hb;clear hb;obtain⟨x,hx⟩:=zX (kw n i);rw[hx];have aL:Hid ((ws (KQ l0 n i)).set m (.int .u32 (x:Int))=ws (KQ l0 n (i+1))):=zH zbt;clear hx;have aI:=zH (A6 BW.out n i)
     go_wp2_with(refine bM rfl _ _ _ rfl g7 m (.int .u32 (x:Int)) rfl rfl _ k7 zKr zbu rfl (fun w6 k7 hg aB=>?_));rw[aL.out]at k7;have q5:=k5.kept hg zOm;have q6:=k6.kept hg zOm;have qb:=aq kb hg zbv kb.size;go_wp2_with fail;exact⟨⟨i+1,by omega,by go_num,q5,q6,k7,qb⟩,by simp[intOf];omega⟩
    ·obtain rfl:i=3:=zOm;have lO:Hid (KQ l0 n 3=v8 k c n):=zH (by rw[←hl.out];rfl);rw[lO.out]at k7;have aI:=zH (Bl k c n);go_wp2_with(first|(refine ab rfl _ _ rfl _ rfl zDk _ k7 zbw ?_)|(refine aD rfl _ _ _ rfl _ (ws (v8 k c n)) rfl rfl _ k6 zbw (by rw[a7,aI.out];rfl) (oH _) (fun w7 k6 hg aB=>?_)));have qb:=aq kb hg zbv kb.size;exact bodyPost_ret (aj Tryz.results231 _ _ _ rfl zKr _ k6 zbw) rfl ⟨rfl,qb⟩
theorem i7 (a:Nat):IntKind.u8.wrap (a:Int)=((a%256:Nat):Int):=by
 exact zeD
theorem MS {A B:List Nat} {q:Nat} (ha:q<A.length) (hb:q<B.length):(List.zipWith (fun a b=>(a+b)%4294967296) A B).getD q 0=(A.getD q 0+B.getD q 0)%4294967296:=by
 rw[zA10,List.getElem?_zipWith];simp[ha,hb]
theorem oV {k c n j z e:Nat} {f:Int} (hb:DD k c n j=z/256^(j%4)%256) (he:j%4=e) (hf:f=((z/256^e:Nat):Int)):
 (ag 64 (fV k c n j)).set j (.int .u8 (IntKind.u8.wrap f))=ag 64 (fV k c n (j+1)):=by
 rw[hf,i7,nH (Fc k c n j) (zA1 _ zDc),fV,hb,he]
theorem a9 {w w':World} {o:Obj} (hg:(w.alloc o).grownBy w' (some w.heap.size)):Below w.heap.size w w':=
 aq (ae w o) hg (zA0 _) zac
theorem Bm (k n c:Nat) (hc:c<4294967296) (w:World):
 CB 211 #[.agg (ag 32 k).toArray,.int .i64 (c:Int),.agg (ag 12 n).toArray] w (.agg (ag 64 (fV k c n 64)).toArray):=by
 have uc:=eV hc;go_enter Tryz.func211,Tryz.ntmps211;go_upto_region 1 with fail
 refine bZ (fun W aB k3 k5 k6 kb=>?_);have k3:Arr W w.heap.size (ag 32 k):=k3;have k5:Arr W (w.heap.size+1) (ag 12 n):=k5;have k6:Arr W (w.heap.size+1+1) (ag 64 0):=k6;clear aB;go_wp2_with(first|(refine ab rfl _ _ rfl _ rfl zDk _ k3 zbx ?_)|(refine ab rfl _ _ rfl _ rfl zDk _ k5 zbx ?_));refine zQ (I9 k n c _) fun w1 hb=>?_;obtain⟨k3,k5,k6⟩:=dZ k3 k5 k6 hb;replace kb:=az kb hb;clear hb;have hs:Hid ((v8 k c n).length=16∧W32 (v8 k c n)):=zH ⟨Bl k c n,Lk k n hc⟩;obtain⟨s,NK⟩:=zX (v8 k c n);rw[NK]at hs⊢;replace NK:=zH NK;go_upto_region 2 with(refine aD rfl _ _ _ rfl _ (ws s) rfl rfl _ (Arr.new _ _ _) zby zbz (oH _) (fun w2 k7 hg aB=>?_))
 have hb:=a9 hg;have h37:=k3.lt;have h57:=k5.lt;have h67:=k6.lt;obtain⟨k3,k5,k6⟩:=dZ k3 k5 k6 hb;replace kb:=az kb hb;obtain⟨g7,lW⟩:=zX w1.heap.size;rw[lW]at k7 h37 h57 h67⊢;clear hb aB lW hg;go_upto_region 3 with(first|(refine ab rfl _ _ rfl _ rfl zDk _ k7 zby ?_)|(refine aD rfl _ _ _ rfl _ (ws s) rfl rfl _ (Arr.new _ _ _) zby zbz (oH _) (fun w3 k8 hg aB=>?_)))
 have hb:=a9 hg;have h78:=k7.lt;replace k6:=k6.below hb;replace k7:=k7.below hb;replace kb:=az kb hb;obtain⟨g8,AM⟩:=zX w2.heap.size;rw[AM]at k8 h78⊢;clear hb aB AM hg k3 k5 h37 h57;obtain⟨g6,lV⟩:=zX (w.heap.size+1+1);rw[lV]at k6 h67⊢;have hw6:w.heap.size<g6:=zOm;clear lV;go_wp2_with fail;go_loopw[19] (fun iv wr=>∃r:Nat,r≤10∧iv=.int .i64 r∧Arr wr g6 (ag 64 0)∧Arr wr g7 (ws s)∧Arr wr g8 (ws (xV s r))∧Below w.heap.size w wr) (fun iv _=>10-(intOf iv).toNat)
 case atStart=>exact⟨0,by omega,rfl,k6,k7,k8,kb⟩
 case round=>
  clear k6 k7 k8 kb;obtain⟨r,hr,rfl,k6,k7,k8,kb⟩:=hrel;have JS:(0:Int)≤(r:Int):=zOm
  by_cases hrn:r<10
  ·have og:(r:Int)<10:=zOm;have ok0:=zH (wm hs.out r);obtain⟨t,ht⟩:=zX (xV s r);rw[ht]at ok0 k8;replace ht:=zH ht;go_wp2_with fail;go_loopw[21] (fun iv wr=>∃i:Nat,i≤4∧iv=.int .i64 i∧Arr wr g6 (ag 64 0)∧Arr wr g7 (ws s)∧Arr wr g8 (ws (Fj t i))∧Below w.heap.size w wr) (fun iv _=>4-(intOf iv).toNat)
   case atStart=>exact⟨0,by omega,rfl,k6,k7,k8,kb⟩
   case round=>
    clear k6 k7 k8 kb;obtain⟨i,hi,rfl,k6,k7,k8,kb⟩:=hrel;have mA:(0:Int)≤(i:Int):=zOm
    by_cases iS:i<4
    ·have ub:(i:Int)<4:=zOm;have ok1:=zH (wk ok0.out i);obtain⟨b,hb⟩:=zX (4+i);obtain⟨d,hd⟩:=zX (8+i);obtain⟨f,hf⟩:=zX (12+i);have eb:4+(i:Int)=(b:Int):=zOm;have ed:8+(i:Int)=(d:Int):=zOm;have ef:12+(i:Int)=(f:Int):=zOm;have ep:Hid (qr (Fj t i) i b d f=Fj t (i+1)):=zH (by rw[←hb,←hd,←hf];rfl);have lb:b<16:=zOm;have ld:d<16:=zOm;have lf:f<16:=zOm;replace hb:=zH hb;replace hd:=zH hd;replace hf:=zH hf;go_wp2_with fail;refine(Al (g:=g8) (a:=i) (b:=b) (c:=d) (d:=f) _ ok1.out.1 ok1.out.2 zOm lb ld lf k8).mono ?_;exact zdK
    ·have dj:decide ((i:Int)<4)=false:=decide_eq_false zOm;have jM:Hid (i=4):=zH zOm;rw[jM.out]at k8;have ok1:=zH (wk ok0.out 4);obtain⟨u,hu⟩:=zX (Fj t 4);rw[hu]at ok1 k8;replace hu:=zH hu;clear hi iS mA;obtain⟨ic,sG⟩:∃ic:Int,(i:Int)=ic:=⟨_,rfl⟩;rw[sG]at dj⊢;clear sG;go_wp2_with fail;clear dj;go_loopw[33] (fun iv wr=>∃i:Nat,i≤4∧iv=.int .i64 i∧Arr wr g6 (ag 64 0)∧Arr wr g7 (ws s)∧Arr wr g8 (ws (Fm u i))∧Below w.heap.size w wr) (fun iv _=>4-(intOf iv).toNat)
     case atStart=>exact⟨0,by omega,rfl,k6,k7,k8,kb⟩
     case round=>
      clear k6 k7 k8 kb;obtain⟨i,hi,rfl,k6,k7,k8,kb⟩:=hrel
      by_cases iS:i<4
      ·have mA:(0:Int)≤(i:Int):=zOm;have ub:(i:Int)<4:=zOm;have ok2:=zH (AJ ok1.out i);obtain⟨p,hp⟩:=zX ((i+1)%4);obtain⟨q,hq⟩:=zX ((i+2)%4);obtain⟨x,hx⟩:=zX ((i+3)%4);have m1:Int.tmod ((i:Int)+1) 4=(p:Int):=zbA;have m2:Int.tmod ((i:Int)+2) 4=(q:Int):=zbA;have m3:Int.tmod ((i:Int)+3) 4=(x:Int):=zbA;have n1:IntKind.i64.wrap (p:Int)=(p:Int):=i64_in zOm;have n2:IntKind.i64.wrap (q:Int)=(q:Int):=i64_in zOm;have n3:IntKind.i64.wrap (x:Int)=(x:Int):=i64_in zOm;obtain⟨b,hb⟩:=zX (4+p);obtain⟨d,hd⟩:=zX (8+q);obtain⟨f,hf⟩:=zX (12+x);have eb:4+(p:Int)=(b:Int):=zOm;have ed:8+(q:Int)=(d:Int):=zOm;have ef:12+(x:Int)=(f:Int):=zOm;have ep:Hid (qr (Fm u i) i b d f=Fm u (i+1)):=zH (by rw[←hb,←hd,←hf,←hp,←hq,←hx];rfl);have lb:b<16:=zOm;have ld:d<16:=zOm;have lf:f<16:=zOm;replace hb:=zH hb;replace hd:=zH hd;replace hf:=zH hf;replace hp:=zH hp
       replace hq:=zH hq;replace hx:=zH hx;go_wp2_with fail;refine(Al (g:=g8) (a:=i) (b:=b) (c:=d) (d:=f) _ ok2.out.1 ok2.out.2 zOm lb ld lf k8).mono ?_;exact zdK
      ·have dj:decide ((i:Int)<4)=false:=decide_eq_false zOm;have jM:Hid (i=4):=zH zOm;rw[jM.out]at k8;have ep:Hid (Fm u 4=xV s (r+1)):=zH (by rw[←hu.out,←ht.out];rfl);rw[ep.out]at k8;clear hi iS;exact zfb
  ·have dj:decide ((r:Int)<10)=false:=decide_eq_false zOm;have jM:Hid (r=10):=zH zOm;rw[jM.out]at k8;clear hr hrn JS;obtain⟨ic,sG⟩:∃ic:Int,(r:Int)=ic:=⟨_,rfl⟩;rw[sG]at dj⊢;clear sG;go_upto_region 17 with fail
   clear dj;refine aH (fun w4 aB k11 hb=>?_);replace k11:Arr w4 wr.heap.size (ag 64 0):=k11;have h6l:=k6.lt;have h7l:=k7.lt;have h8l:=k8.lt;obtain⟨k6,k7,k8⟩:=dZ k6 k7 k8 hb;replace kb:=az kb hb;obtain⟨g11,j8⟩:=zX wr.heap.size;rw[j8]at k11 h6l h7l h8l⊢;clear hb aB j8;obtain⟨v,hv⟩:=zX (xV s 10);have Z5:=zH (show v.length=16∧W32 v by rw[←hv];exact wm hs.out 10);rw[hv]at k8;replace hv:=zH hv;go_wp2_with fail;go_loopw[52] (fun iv wr=>∃j:Nat,j≤64∧iv=.int .i64 j∧Arr wr g6 (ag 64 0)∧Arr wr g7 (ws s)∧Arr wr g8 (ws v)∧Arr wr g11 (ag 64 (fV k c n j))∧Below w.heap.size w wr) (fun iv _=>64-(intOf iv).toNat)
   case atStart=>exact⟨0,by omega,rfl,k6,k7,k8,k11,kb⟩
   case round=>
    clear k6 k7 k8 k11 kb;obtain⟨j,hj,rfl,k6,k7,k8,k11,kb⟩:=hrel;have uz:(0:Int)≤(j:Int):=zOm
    by_cases hjn:j<64
    ·have hj1:(j:Int)<64:=zOm;obtain⟨q,hq⟩:=zX (j/4);have wI:q<16:=zOm;have fq:Int.tdiv (j:Int) 4=(q:Int):=(by rw[Int.tdiv_eq_ediv_of_nonneg uz];omega);have fw:IntKind.i64.wrap (q:Int)=(q:Int):=i64_in zOm;have Uv:(0:Int)≤(q:Int):=zOm;have XZ:(q:Int)<16:=zOm;have dP:=bL (l:=v) (j:=q) zbB;have ff:=bL (l:=s) (j:=q) zbC;have lx:=Z5.out.2.get q;have ly:=hs.out.2.get q;obtain⟨x,hx⟩:=zX (v.getD q 0);obtain⟨y,hy⟩:=zX (s.getD q 0);rw[hx]at dP lx;rw[hy]at ff ly;obtain⟨z,hz⟩:=zX ((x+y)%4294967296);have fz:IntKind.u32.wrap ((x:Int)+(y:Int))=(z:Int):=za1;have fP:Hid (DD k c n j=z/256^(j%4)%256):=zH zbD;replace dP:=zH dP;replace ff:=zH ff;have he4:j%4=0∨j%4=1∨j%4=2∨j%4=3:=zOm;rcases he4 with he|he|he|he
     ·have ft:Int.tmod (j:Int) 4=0:=zbE;replace he:=zH he;have fs:IntKind.i64.wrap 0=0:=zDc;have aL:Hid ((ag 64 (fV k c n j)).set j (.int .u8 (IntKind.u8.wrap (z:Int)))=ag 64 (fV k c n (j+1))):=zH (oV (e:=0) fP.out he.out zOm);go_upto_region 20 with fail
      obtain⟨wq,rfl⟩:∃wq:World,wq=wr:=⟨_,rfl⟩;refine cH 16 17 fun aP=>?_;refine eZ ?_ 1 65535 zaD [0,1,2,3,4,5,6,7,8,9,10,11,12,13,14,15] (fun w' hB=>by have e1:=(k8.below hB).cell dP.out;have e2:=(k7.below hB).cell ff.out;exact zRd) ?_;refine bf 131071 rfl zDk (fun K hK=>?_);obtain⟨k6,k7,k8,k11⟩:=kJ k6 k7 k8 k11 aP;replace kb:=az kb aP;clear aP;refine br rfl _ _ _ rfl g11 j (.int .u8 (IntKind.u8.wrap (z:Int))) rfl rfl _ k11 zKr za4 rfl (fun w5 k11 hg aB=>?_);rw[aL.out]at k11;replace k6:=k6.kept hg zOm;replace k7:=k7.kept hg zOm;replace k8:=k8.kept hg zOm;replace kb:=aq kb hg zOm kb.size;refine hK (fun _=>True) 9999 _ _ ?_;clear hK K;try simp only[Act.put]
      try simp only[zSa,zSz,zSs]
      exact zds
     ·have ft:Int.tmod (j:Int) 4=1:=zbE;replace he:=zH he;have fs:IntKind.i64.wrap 8=8:=zDc;have aL:Hid ((ag 64 (fV k c n j)).set j (.int .u8 (IntKind.u8.wrap ((z:Int)/256)))=ag 64 (fV k c n (j+1))):=zH (oV (e:=1) fP.out he.out zOm);go_upto_region 20 with fail
      obtain⟨wq,rfl⟩:∃wq:World,wq=wr:=⟨_,rfl⟩;refine cH 16 17 fun bn=>?_;refine eZ ?_ 1 65535 za0 [0,1,2,3,4,5,6,7,8,9,10,11,12,13,14,15] (fun w' hB=>by have e1:=(k8.below hB).cell dP.out;have e2:=(k7.below hB).cell ff.out;exact zRd) ?_;refine bf 131071 rfl zDk (fun K hK=>?_);obtain⟨k6,k7,k8,k11⟩:=kJ k6 k7 k8 k11 bn;replace kb:=az kb bn;clear bn;refine br rfl _ _ _ rfl g11 j (.int .u8 (IntKind.u8.wrap ((z:Int)/256))) rfl rfl _ k11 zKr za4 rfl (fun w5 k11 hg aB=>?_);rw[aL.out]at k11;replace k6:=k6.kept hg zOm;replace k7:=k7.kept hg zOm;replace k8:=k8.kept hg zOm;replace kb:=aq kb hg zOm kb.size;refine hK (fun _=>True) 9999 _ _ ?_;clear hK K;try simp only[Act.put]
      try simp only[zSa,zSz,zSs]
      exact zds
     ·have ft:Int.tmod (j:Int) 4=2:=zbE;replace he:=zH he;have fs:IntKind.i64.wrap 16=16:=zDc;have aL:Hid ((ag 64 (fV k c n j)).set j (.int .u8 (IntKind.u8.wrap ((z:Int)/65536)))=ag 64 (fV k c n (j+1))):=zH (oV (e:=2) fP.out he.out zOm);go_upto_region 20 with fail
      obtain⟨wq,rfl⟩:∃wq:World,wq=wr:=⟨_,rfl⟩;refine cH 16 17 fun bB=>?_;refine eZ ?_ 1 65535 zaI [0,1,2,3,4,5,6,7,8,9,10,11,12,13,14,15] (fun w' hB=>by have e1:=(k8.below hB).cell dP.out;have e2:=(k7.below hB).cell ff.out;exact zRd) ?_;refine bf 131071 rfl zDk (fun K hK=>?_);obtain⟨k6,k7,k8,k11⟩:=kJ k6 k7 k8 k11 bB;replace kb:=az kb bB;clear bB;refine br rfl _ _ _ rfl g11 j (.int .u8 (IntKind.u8.wrap ((z:Int)/65536))) rfl rfl _ k11 zKr za4 rfl (fun w5 k11 hg aB=>?_);rw[aL.out]at k11;replace k6:=k6.kept hg zOm;replace k7:=k7.kept hg zOm;replace k8:=k8.kept hg zOm;replace kb:=aq kb hg zOm kb.size;refine hK (fun _=>True) 9999 _ _ ?_;clear hK K;try simp only[Act.put]
      try simp only[zSa,zSz,zSs]
      exact zds
     ·have ft:Int.tmod (j:Int) 4=3:=zbE;replace he:=zH he;have fs:IntKind.i64.wrap 24=24:=zDc;have aL:Hid ((ag 64 (fV k c n j)).set j (.int .u8 (IntKind.u8.wrap ((z:Int)/16777216)))=ag 64 (fV k c n (j+1))):=zH (oV (e:=3) fP.out he.out zOm);go_upto_region 20 with fail
      obtain⟨wq,rfl⟩:∃wq:World,wq=wr:=⟨_,rfl⟩;refine cH 16 17 fun b9=>?_;refine eZ ?_ 1 65535 zaJ [0,1,2,3,4,5,6,7,8,9,10,11,12,13,14,15] (fun w' hB=>by have e1:=(k8.below hB).cell dP.out;have e2:=(k7.below hB).cell ff.out;exact zRd) ?_;refine bf 131071 rfl zDk (fun K hK=>?_);obtain⟨k6,k7,k8,k11⟩:=kJ k6 k7 k8 k11 b9;replace kb:=az kb b9;clear b9;refine br rfl _ _ _ rfl g11 j (.int .u8 (IntKind.u8.wrap ((z:Int)/16777216))) rfl rfl _ k11 zKr za4 rfl (fun w5 k11 hg aB=>?_);rw[aL.out]at k11;replace k6:=k6.kept hg zOm;replace k7:=k7.kept hg zOm;replace k8:=k8.kept hg zOm;replace kb:=aq kb hg zOm kb.size;refine hK (fun _=>True) 9999 _ _ ?_;clear hK K;try simp only[Act.put]
      try simp only[zSa,zSz,zSs]
      exact zds
    ·have dj:decide ((j:Int)<64)=false:=decide_eq_false zOm;have jM:Hid (j=64):=zH zOm;rw[jM.out]at k11;go_wp2_with(first|(refine ab rfl _ _ rfl _ rfl zDk _ k11 zbx ?_)|(refine aD rfl _ _ _ rfl _ (ag 64 (fV k c n 64)) rfl rfl _ k6 zbx za3 (bm _ _) (fun w7 k6 hg aB=>?_)));have qb:=aq kb hg zOm kb.size;exact bodyPost_ret (aj Tryz.results211 _ _ _ rfl zKr _ k6 zbx) rfl ⟨rfl,qb⟩
def jG (n:Int):List UInt8:=(List.range 8).map fun i=>UInt8.ofNat ((n%18446744073709551616).toNat/2^(8*(7-i))%256)
def bS (ns:List Int):List UInt8:=ns.flatMap jG
theorem cg (n:Int):(jG n).length=8:=by simp[jG]
theorem fC (n:Int):IntKind.u64.wrap n=n%18446744073709551616:=IntKind.wrap_u64 n
theorem I5 (n:Int) (k:Nat) (hk:k<8):∃c:UInt8,(jG n).take (k+1)=(jG n).take k++[c]∧IntKind.u64.wrap n/2^(8*(7-k))%256=(c.toNat:Int):=by
 have hl:k<(jG n).length:=(by rw[cg];exact hk);refine⟨(jG n)[k],?_,?_⟩
 ·rw[List.take_add_one,zA7 hl];rfl
 ·rw[fC];simp only[jG,List.getElem_map,List.getElem_range];have h0:0≤n%18446744073709551616:=zOm;obtain⟨m,hm⟩:=Int.eq_ofNat_of_zero_le h0;rw[hm];have e:(UInt8.ofNat ((m:Int).toNat/2^(8*(7-k))%256)).toNat=m/2^(8*(7-k))%256:=by
   simp
  rw[e];simp
theorem Lj (ns:List Int) (j:Nat) (h:j<ns.length):bS (ns.take (j+1))=bS (ns.take j)++jG ns[j]:=by
 unfold bS;rw[List.take_add_one,zA7 h,List.flatMap_append];simp only[Option.toList,List.flatMap_cons,List.flatMap_nil,zA31]
theorem de (ns:List Int):(bS ns).length=8*ns.length:=by
 induction ns with
 |nil=>rfl
 |cons n ns ih=>simp only[bS,List.flatMap_cons,zA5,cg,List.length_cons]at*;omega
theorem Ke (vb:Value) (bs:List UInt8) (an:Option Addr) (cn:Nat) (ns:List Int) (w:World) (hb:Sl w vb (aJ bs)) (hn:Sl w (.slice an ns.length cn) (ns.map (.int .i64)))
 (hr:bs.length+8*ns.length≤140737488355328):
 Calls Tryz.prog 140 #[vb,.slice an ns.length cn] w fun e w'=>
  ∃v,e=.returned v∧w'.ownsRow w.heap.size 5 1 v (bs++bS ns).length (aJ (bs++bS ns))∧Below w.heap.size w w':=by
 obtain⟨i,hi,jN,jA,jB⟩:=info_parts ig;have hn':=zH hn;clear hn;go_enter Tryz.func140,Tryz.ntmps140;go_wp2_with fail;refine(jy vb bs w hb zOm).mono ?_;rintro e w1 ⟨v1,rfl,cf,ak,-⟩;clear hb;go_wp2_with fail;go_loopw[5,14] (fun v i wr=>∃j:Nat,j≤ns.length∧i=.int .i64 j∧Below w.heap.size w wr∧wr.ownsRow w.heap.size 5 1 v (bs++bS (ns.take j)).length (aJ (bs++bS (ns.take j)))) (fun _ i _=>ns.length-(intOf i).toNat)
 case atStart=>exact⟨0,zA28 _,rfl,ak,by simpa[bS]using cf⟩
 case round=>
  obtain⟨j,hj,rfl,Nl,Ei⟩:=hrel;clear ak cf
  by_cases bK:j<ns.length
  ·obtain⟨b,o,rfl,-,-,Nm,nq⟩:=(hn'.out.below Nl).at zab;have cZ:=nq j (.int .i64 ns[j]) (by simp[zA7 bK]);clear nq;obtain⟨wo,rfl⟩:∃wo:World,wo=wr:=⟨_,rfl⟩;have aI:ns.length≤9223372036854775807:=zOm;go_wp2_with fail;go_loopw[5,9] (fun v kv wr=>∃k:Nat,k≤8∧kv=.int .i64 (7-(k:Int))∧Below w.heap.size w wr∧wr.ownsRow w.heap.size 5 1 v (bs++bS (ns.take j)++(jG ns[j]).take k).length (aJ (bs++bS (ns.take j)++(jG ns[j]).take k))) (fun _ kv _=>(intOf kv+1).toNat)
   case atStart=>exact⟨0,zA28 _,rfl,Nl,by simpa using Ei⟩
   case round=>
    obtain⟨k,hk,rfl,Un,Ax⟩:=hrel;clear Nl Ei cZ
    by_cases Zz:k<8
    ·have h1:(0:Int)≤7-(k:Int):=zOm;obtain⟨c,jX,pH⟩:=I5 ns[j] k Zz;have afA:=zH pH;have Qp:=zH jX;clear jX pH;have Zg:(bs++bS (ns.take j)++(jG ns[j]).take k).length+1≤140737488355328:=by
      simp only[zA5,de,zA15,cg];omega
     have XI:=zH Zg;clear Zg;have aB:w.heap.size≤wr.heap.size:=Un.size;go_wp2_with(at_builtin;refine wpList_append_own _ rfl _ _ 24 rfl w.heap.size 5 i (.int .u8 0) 1 1 Tryz.underlying24 hi jN jA jB rfl zDc _ _ _ rfl (Ax.alloc _) ⟨wr.heap.size,0,none⟩ 1 1 [_] rfl rfl (D7 wr _ _) ?c1 ?c2 ?c3 ?c4 ?_)
     case c1=>intro u hu;simp at hu;subst hu;rfl
     case c2=>have:=XI.out;unfold maxLen;omega
     case c3=>have:=XI.out;omega
     case c4=>simp;omega
     intro v' w2 Hu j9 _;have hb2:=Fa Un Ax aB j9;rw[afA.out]at Hu;clear Ax j9 Un;go_wp2;go_roundw
     case rel=>
      refine⟨k+1,by omega,by simp;omega,hb2,?_⟩;rw[Qp.out,←zA16];simpa[aJ,Nat.add_assoc]using Hu
     case measure=>simp[intOf];omega
    ·have hk:k=8:=zOm;subst hk;have hf:(jG ns[j]).take 8=jG ns[j]:=zA8 (by rw[cg];exact zA0 _);rw[hf]at Ax;clear hf;go_wp2;go_roundw
     case rel=>exact⟨j+1,by omega,by go_num,Un,by rw[Lj ns j bK,←zA16];exact Ax⟩
     case measure=>simp[intOf];omega
  ·have LY:j=ns.length:=zOm;subst LY;rw[zA8 (zA0 _)]at Ei;go_wp2;go_ret;exact⟨_,rfl,Ei,Nl⟩
theorem mP (vb vn:Value) (bs:List UInt8) (ns:List Int) (w:World) (hb:Sl w vb (aJ bs)) (hn:Sl w vn (ns.map (.int .i64)))
 (hr:bs.length+8*ns.length≤140737488355328):
 Calls Tryz.prog 140 #[vb,vn] w fun e w'=>
  ∃v,e=.returned v∧w'.ownsRow w.heap.size 5 1 v (bs++bS ns).length (aJ (bs++bS ns))∧Below w.heap.size w w':=by
 obtain⟨a,cap,rfl,h⟩:=id hn;rw[List.length_map]at*;exact Ke vb bs a cap ns w hb hn hr
def DU (n:Nat):Nat:=(239-n%128)%128
def KM (L:List UInt8):List UInt8:=L++[128]++List.replicate (DU L.length) 0++List.replicate 8 0
def rB (L:List UInt8):List UInt8:=KM L++jG (8*L.length:Int)
theorem Tr (L:List UInt8):(rB L).length%128=0:=by
 simp[rB,KM,DU,cg];omega
def KL (h:List Nat) (i:Nat):Nat:=h.getD (i/8) 0/2^(56-8*(i%8))%256
def m8 (h:List Nat):Nat→Nat
 |0=>0
 |i+1=>m8 h i+256^i*KL h i
theorem A5 (h:List Nat):∀i,m8 h i<256^i
 |0=>by rw[m8];decide
 |i+1=>by
  have h1:=A5 h i;have h2:KL h i<256:=zA1 _ zDc;have h3:256^i*KL h i≤256^i*255:=Nat.mul_le_mul_left _ zOm;rw[m8,zA24];omega
def tm (L:List UInt8):Nat:=m8 (ry (rB L) ((rB L).length/128)) 64
theorem MG (L:List UInt8):tm L<256^64:=A5 _ _
theorem KN (d:Option Addr) (cap:Nat) (ls:List (List UInt8)) (w:World) (hs:Sls w (.slice d ls.length cap) ls):
 Calls Tryz.prog 203 #[.slice d ls.length cap] w fun e w'=>e=.returned (.agg (ag 64 (tm ls.flatten)).toArray)∧Below w.heap.size w w':=by
 have aI:=hs.len;obtain⟨-,NF,ye⟩:=aI;unfold maxLen at ye;obtain⟨X,hX⟩:=zX (Ending.returned (.agg (ag 64 (tm ls.flatten)).toArray));rw[hX];replace hX:=zH hX;replace hs:=zH hs;go_enter Tryz.func203,Tryz.ntmps203;go_upto_region 1 with fail
 refine aH (fun W aB k2 kb=>?_);replace k2:Arr W w.heap.size (ag 64 0):=k2;clear aB;go_wp2_with fail;refine(I7 _).mono ?_;rintro e w1 ⟨g,rfl,hg,k0,hb⟩;have k0:=SStb.start k0;have lt2:=k2.lt;replace k2:=k2.below hb;replace kb:=az kb hb;obtain⟨g2,j9⟩:=zX w.heap.size;rw[j9]at k2 lt2⊢;have h2g:g2<g:=zOm;have rK:w.heap.size≤g2:=zOm;clear hb hg lt2 j9;have ib:(ls.length:Int)≤9223372036854775807:=zOm;go_wp2_with fail;go_loopw[14] (fun iv wr=>∃i:Nat,i≤ls.length∧iv=.int .i64 i∧Arr wr g2 (ag 64 0)∧SStb wr g ((ls.take i).flatten.length%18446744073709551616) (ls.take i).flatten∧Below w.heap.size w wr) (fun iv _=>ls.length-(intOf iv).toNat)
 case atStart=>exact⟨0,zA28 _,rfl,k2,k0,kb⟩
 case round=>
  clear k2 k0 kb;obtain⟨i,hi,rfl,k2,k0,kb⟩:=hrel
  by_cases bK:i<ls.length
  ·obtain⟨b,o,x,c,rfl,kW,dI⟩:=hs.out.at bK;have bo:wr.cell? ⟨b,o+i,none⟩=some (.slice x ls[i].length c):=za7;have fR:=kS bK;obtain⟨l,hl⟩:=zX (ls[i]);rw[hl]at fR bo dI;obtain⟨pre,Az⟩:=zX ((ls.take i).flatten);rw[Az]at k0 fR;have dF:=dI.len;rw[ai]at dF;obtain⟨-,adf,Qs⟩:=dF;unfold maxLen at Qs;clear Az hl kW;replace fR:=zH fR;replace dI:=zH dI;have ilt:(i:Int)<(ls.length:Int):=zOm;obtain⟨lg,NG⟩:=zX (pre.length%18446744073709551616);rw[NG]at k0;have lgl:lg<18446744073709551616:=zOm;have JJ:Hid ((pre++l).length%18446744073709551616=(lg+l.length)%18446744073709551616):=zH zbF;clear NG;go_wp2_with fail;clear bo;go_loopw[20] (fun jv wr=>∃j:Nat,j≤l.length∧jv=.int .i64 j∧Arr wr g2 (ag 64 0)∧SStb wr g lg (pre++l.take j)∧Below w.heap.size w wr) (fun jv _=>l.length-(intOf jv).toNat)
   case atStart=>exact⟨0,zA28 _,rfl,k2,by rw[List.take_zero,zA31];exact k0,kb⟩
   case round=>
    clear k2 k0 kb;obtain⟨j,hj,rfl,k2,k0,kb⟩:=hrel
    by_cases hltj:j<l.length
    ·obtain⟨b2,o2,rfl,-,-,-,np⟩:=dI.out.at zaV;have bo:=np j _ (eY l j hltj);have Ad:wr.cell? ⟨b2,o2+j,none⟩=some (.int .u8 (l[j].toNat:Int)):=za8;have Re:pre++l.take (j+1)=pre++l.take j++[l[j]]:=za9;have IX:l[j].toNat<256:=l[j].toNat_lt;have c3:=zH (xy g lg (pre++l.take j) l[j] wr k0);exact zdr
    ·obtain rfl:j=l.length:=zOm;rw[zA8 (zA0 _),←fR.out]at k0;obtain⟨lg2,pI⟩:=zX ((lg+l.length)%18446744073709551616);have fl:IntKind.u64.wrap ((lg:Int)+(l.length:Int))=(lg2:Int):=zbG;have Ho:Hid (((ls.take (i+1)).flatten).length%18446744073709551616=lg2):=zH (by rw[fR.out,JJ.out,pI]);have ll0:(0:Int)≤(l.length:Int):=zOm;have ll1:(l.length:Int)≤9223372036854775807:=zOm;have fu:IntKind.u64.wrap (l.length:Int)=(l.length:Int):=zbG;obtain⟨rI,oZ⟩:=k0.l;clear pI;go_wp2_with fail;replace k2:=k2.other (a:=⟨g,217,none⟩) zab (.int .u64 (lg2:Int));exact zew
  ·obtain rfl:i=ls.length:=zOm;rw[zA8 (zA0 _)]at k0;obtain⟨L,hL⟩:=zX ls.flatten;have hX2:=hX.out;rw[hL]at hX2 k0;replace hX:=zH hX2;obtain⟨N,hN⟩:=zX L.length;obtain⟨lg,NG⟩:=zX (N%18446744073709551616);rw[hN,NG]at k0;have c1:Hid (Calls Tryz.prog 229 #[.pointer (some ⟨g,0,none⟩),.int .u8 128] wr fun e w'=>e=.returned (.tuple #[])∧SStb w' g lg (L++[128])∧wr.grownBy w' (some g)):=zH (xy g lg L 128 wr k0);have c2:Hid (∀wr M,SStb wr g lg M→Calls Tryz.prog 229 #[.pointer (some ⟨g,0,none⟩),.int .u8 0] wr fun e w'=>e=.returned (.tuple #[])∧SStb w' g lg (M++[0])∧wr.grownBy w' (some g)):=zH (fun wr M k=>xy g lg M 0 wr k);replace hN:=zH hN;have JJ:=zH NG;clear hL hX2 hs NG;go_wp2_with fail;refine c1.out.mono ?_;rintro e w4 ⟨rfl,k0',hg⟩;replace k2:=k2.kept hg zOm;replace kb:=aq kb hg zOm kb.size;replace k0:SStb w4 g lg (L++[128]++List.replicate 0 0):=(by rw[List.replicate_zero,zA31];exact k0')
   clear c1 hg k0';go_wp2_with fail;go_loopw[44] (fun _ wr=>∃z:Nat,z≤DU N∧Arr wr g2 (ag 64 0)∧SStb wr g lg (L++[128]++List.replicate z 0)∧Below w.heap.size w wr) (fun _ wr=>((112+128-(intOf ((wr.cell? ⟨g,216,none⟩).getD undef)).toNat)%128))
   case atStart=>exact⟨0,zA28 _,k2,k0,kb⟩
   case round=>
   clear k2 k0 kb;obtain⟨z,hz,k2,k0,kb⟩:=hrel;have rI:=k0.n;obtain⟨m,hm⟩:=zX ((L++[128]++List.replicate z 0).length%128);rw[hm]at rI;have L0:m=(N+1+z)%128:=by
    rw[←hm,←hN.out];simp;omega
   have Hz:DU N=(239-N%128)%128:=rfl
   by_cases ZJ:m=112
   ·have dn:((m:Int) != 112)=false:=(by rw[ZJ];rfl);have hze:Hid (z=DU N):=zH zbH;rw[hze.out]at k0;have hXe:Hid (L++[128]++List.replicate (DU N) 0++List.replicate 8 0=KM L):=zH (by rw[←hN.out];rfl);clear hm L0 Hz hz hze ZJ;obtain⟨Q,hQ⟩:=zX (L++[128]++List.replicate (DU N) 0);rw[hQ]at k0;replace hXe:Hid (Q++List.replicate 8 0=KM L):=zH (by rw[←hQ];exact hXe.out);replace hQ:=zH hQ;go_wp2_with fail;clear dn rI;go_loopw[48] (fun jv wr=>∃j:Nat,j≤8∧jv=.int .i64 j∧Arr wr g2 (ag 64 0)∧SStb wr g lg (Q++List.replicate j 0)∧Below w.heap.size w wr) (fun jv _=>8-(intOf jv).toNat)
    case atStart=>exact⟨0,by omega,rfl,k2,by rw[List.replicate_zero,zA31];exact k0,kb⟩
    case round=>
    clear k2 k0 kb;obtain⟨j,hj,rfl,k2,k0,kb⟩:=hrel;have j0:(0:Int)≤(j:Int):=zOm
    by_cases hj8:j<8
    ·have j1:(j:Int)<8:=zOm;have c3:=zH (c2.out wr _ k0);have LX:Q++List.replicate j 0++[0]=Q++List.replicate (j+1) 0:=zbI;rw[LX]at c3;clear LX;go_wp2_with fail;refine c3.out.mono ?_;rintro e w5 ⟨rfl,k0',hg⟩;replace k2:=k2.kept hg zOm;replace kb:=aq kb hg zOm kb.size;clear c3 hg k0;go_wp2_with fail;exact⟨⟨j+1,by omega,by go_num,k2,k0',kb⟩,by simp[intOf];omega⟩
    have ac7:Hid (j=8):=zH zOm;have dj:decide ((j:Int)<8)=false:=decide_eq_false zOm;rw[ac7.out]at k0;obtain⟨jc,XR⟩:∃jc:Int,(j:Int)=jc:=⟨_,rfl⟩;rw[XR]at dj⊢;clear XR hj8 hj j0 ac7;rw[hXe.out]at k0;clear c2;obtain⟨P,hP⟩:=zX (KM L);rw[hP]at k0;replace hP:=zH hP;clear hXe;have hn8:Hid (IntKind.u64.wrap ((lg:Int)*8)=IntKind.u64.wrap (8*L.length:Int)):=zH (by rw[fC,fC,←JJ.out,←hN.out];omega);obtain⟨E,hE⟩:=zX (jG (8*L.length:Int));have DJ:Hid (∀k,k<8→∃c:UInt8,E.take (k+1)=E.take k++[c]∧IntKind.u64.wrap ((lg:Int)*8)/2^(8*(7-k))%256=(c.toNat:Int)):=zH (fun k hk=>by rw[hn8.out,←hE];exact I5 _ k hk);have hEl:Hid (E.length=8):=zH (by rw[←hE,cg]);replace hE:=zH hE;clear hn8;go_wp2_with fail;clear dj;go_loopw[8] (fun kv wr=>∃k:Nat,k≤8∧kv=.int .i64 (7-(k:Int))∧Arr wr g2 (ag 64 0)∧SStb wr g lg (P++E.take k)∧Below w.heap.size w wr) (fun kv _=>(intOf kv+1).toNat)
    case atStart=>exact⟨0,zA28 _,rfl,k2,by rw[List.take_zero,zA31];exact k0,kb⟩
    case round=>
    clear k2 k0 kb;obtain⟨k,hk,rfl,k2,k0,kb⟩:=hrel
    by_cases JH:k<8
    ·obtain⟨c,jX,pH⟩:=DJ.out k JH;have c3:=zH (xy g lg (P++E.take k) c wr k0);exact zc2
    ·have Zz:Hid (k=8):=zH zOm;have hM:Hid (P++E.take 8=rB L):=zH zbJ;rw[Zz.out,hM.out]at k0;have dk:decide ((0:Int)≤7-(k:Int))=false:=decide_eq_false zOm;have dk2:¬(0:Int)≤7-(k:Int):=zOm;obtain⟨kc,NE⟩:=zX (7-(k:Int));rw[NE]at dk dk2⊢;clear NE hk JH DJ hM hEl;obtain⟨h,hh⟩:=zX (ry (rB L) ((rB L).length/128));have ok:=rz (rB L) ((rB L).length/128);obtain⟨bs,-,-,k0⟩:=k0;rw[hh]at k0 ok;have hX2:=hX.out;rw[tm,hh]at hX2;replace hX:=zH hX2;obtain⟨nn,JL⟩:=zX ((rB L).length%128);rw[JL]at k0;replace ok:=zH ok;clear JL hh hX2;go_upto_region 24 with fail
     refine aH (fun w8 aB k9 FA=>?_);replace k9:Arr w8 wr.heap.size (ag 64 (m8 h 0)):=(by rw[m8];exact k9);have h09:=k0.lt;replace k0:=k0.below FA;replace k2:=k2.below FA;replace kb:=az kb FA;obtain⟨g9,kP⟩:=zX wr.heap.size;rw[kP]at k9 h09⊢;clear FA aB kP dk dk2;go_wp2_with fail;go_loopw[68] (fun iv wr=>∃i:Nat,i≤64∧iv=.int .i64 i∧Arr wr g2 (ag 64 0)∧Arr wr g (fM h bs nn lg)∧Arr wr g9 (ag 64 (m8 h i))∧Below w.heap.size w wr) (fun iv _=>64-(intOf iv).toNat)
     case atStart=>exact⟨0,zA28 _,rfl,k2,k0,k9,kb⟩
     case round=>
     clear k2 k0 k9 kb;obtain⟨i,hi,rfl,k2,k0,k9,kb⟩:=hrel;have mA:(0:Int)≤(i:Int):=zOm
     by_cases iS:i<64
     ·have ub:(i:Int)<64:=zOm;obtain⟨q,hq⟩:=zX (i/8);have hq8:q<8:=zOm;have cq:=MI (bs:=bs) (n:=nn) (lg:=lg) ok.out.1 hq8;have cq:=k0.cell cq;have fq:(i:Int)/8=(q:Int):=zOm;have JR:(0:Int)≤(q:Int):=zOm;have wI:(q:Int)<8:=zOm;have fw:IntKind.i64.wrap (q:Int)=(q:Int):=i64_in zOm;obtain⟨r,hr⟩:=zX (i%8);have fr:(i:Int)%8=(r:Int):=zOm;have fr2:Int.tmod (i:Int) 8=(r:Int):=zbK;have JS:(0:Int)≤(r:Int):=zOm;have og:(r:Int)<8:=zOm;obtain⟨s,hs⟩:=zX (56-8*r);have f8:IntKind.i64.wrap (8*(r:Int))=8*(r:Int):=i64_in zOm;have fs:IntKind.i64.wrap (56-8*(r:Int))=(s:Int):=zaY;have fs2:56-8*(r:Int)=(s:Int):=zOm;have xO:(0:Int)≤(s:Int):=zOm;have kQ:(s:Int)<64:=zOm;obtain⟨x,hx⟩:=zX (h.getD q 0);rw[hx]at cq;have hB:Hid (KL h i=x/2^s%256):=zH (by rw[KL,hq,hr,hs,hx])
      have aL:Hid ((ag 64 (m8 h i)).set i (.int .u8 ((x/2^s%256:Nat):Int))=ag 64 (m8 h (i+1))):=zH (by rw[nH (A5 h i) (zA1 _ zDc),m8,hB.out]);have adh:Hid ((ag 64 (m8 h i)).length=64):=zH (aa _ _);have c9:=k9.cell (bX 64 (m8 h i) i iS);have z9:=k9.frozen i;generalize m8 h i/256^i%256=y at c9;exact zdd
     ·have dj:decide ((i:Int)<64)=false:=decide_eq_false zOm;have jM:Hid (i=64):=zH zOm;rw[jM.out]at k9;go_wp2_with(first|(refine ab rfl _ _ rfl _ rfl zDk _ k9 zbx ?_)|(refine aD rfl _ _ _ rfl _ (ag 64 (m8 h 64)) rfl rfl _ k2 zbx za3 (bm _ _) (fun w9 k2 hg aB=>?_)));have qb:=aq kb hg zOm kb.size;exact bodyPost_ret (aj Tryz.results203 _ _ _ rfl zKr _ k2 zbx) rfl ⟨hX.out,qb⟩
   ·have dn:((m:Int)==112)=false:=zab;have jB:z+1≤DU N:=zbH;have c3:=zH (c2.out wr _ k0);have LX:L++[128]++List.replicate z 0++[0]=L++[128]++List.replicate (z+1) 0:=zbI;rw[LX]at c3;clear LX hm Hz;replace L0:=zH L0;have af2:(m:Int)≠112:=zOm;go_wp2_with fail;refine c3.out.mono ?_;rintro e w5 ⟨rfl,k0',hg⟩;replace k2:=k2.kept hg zOm;replace kb:=aq kb hg zOm kb.size;clear c3 hg k0;have FB:=k0'.n;obtain⟨m',QS⟩:=zX ((L++[128]++List.replicate (z+1) 0).length%128);rw[QS]at FB;have ZH:m'=(m+1)%128:=by
     rw[←QS,L0.out,←hN.out];simp;omega
    have nu:m<128:=(by rw[L0.out];exact zA1 _ zDc);exact zdT
end Go.Proofs.YtgfkgolafkdjfaaGreatDoor
