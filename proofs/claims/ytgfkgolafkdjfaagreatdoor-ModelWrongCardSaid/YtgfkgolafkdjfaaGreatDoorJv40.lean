/- ModelWrong: part 40 of its proof: lemmas and contracts, each with its conditions in its own statement; the last part holds the law itself. -/
import Derived.Test.YtgfkgolafkdjfaaGreatDoorJv39

set_option maxHeartbeats 8000000
set_option maxRecDepth 100000
namespace Go.Proofs.YtgfkgolafkdjfaaGreatDoor
open Go.RowKit
theorem Yr:∀x:Nat,x<256→bits .and .i64 (x:Int) 15=((x &&&15:Nat):Int):=by decide+kernel
theorem UM:∀x:Nat,x<256→bits .and .i64 (x:Int) 252=((x &&&252:Nat):Int):=by decide+kernel
def Mz (f:Nat→Nat):List Nat:=(List.range 17).map f
theorem AZ (f:Nat→Nat):(Mz f).length=17:=by simp[Mz]
theorem tO (f:Nat→Nat) {i:Nat} (h:i<17):(Mz f)[i]? =some (f i):=by rw[Mz,List.getElem?_map,List.getElem?_range h];rfl
theorem Gg (f g:Nat→Nat) {i v:Nat} (h:∀j,j<17→g j=if j=i then v else f j):(Mz f).set i v=Mz g:=by
 apply List.ext_getElem?;intro j
 by_cases hj:j<17
 ·rw[List.getElem?_set,tO _ hj,tO _ hj,AZ,h j hj]
  by_cases e:i=j
  ·subst e;rw[if_pos rfl,if_pos hj,if_pos rfl]
  ·rw[if_neg e,if_neg (fun h=>e h.symm)]
 ·rw[zA13 (by rw[zA23,AZ];omega),zA13 (by rw[AZ];omega)]
theorem zF {f g:Nat→Nat} (h:∀j,j<17→f j=g j):Mz f=Mz g:=by
 unfold Mz;exact List.map_congr_left (fun j hj=>h j (List.mem_range.1 hj))
theorem SM:Mz (fun _=>0)=List.replicate 17 0:=rfl
def r1 (K i j:Nat):Nat:=if j<i then K/256^j%256 else 0
def r2 (K i j:Nat):Nat:=if j%4=3∧j<i then K/256^j%256 &&&15 else if j<16 then K/256^j%256 else 0
def r3 (K i j:Nat):Nat:=if j%4=0∧4≤j∧j<i∧j<16 then K/256^j%256 &&&252 else r2 K 19 j
theorem aaF (K:Nat):Mz (r3 K 16)=bF 256 17 (lD K):=by
 apply List.ext_getElem?;intro j
 by_cases hj:j<17
 ·rw[tO _ hj,eG _ _ _ _ hj]
  by_cases LE:j<16
  ·rw[H7 K j LE,r3,r2];have hx:K/256^j%256<256:=zA1 _ zDc;generalize K/256^j%256=x at hx;have afn:x &&&255=x:=by
    have:=Nat.and_two_pow_sub_one_eq_mod x 8;rw[show(2:Nat)^8-1=255 by decide]at this;omega
   have Ac:j=0∨j=1∨j=2∨j=3∨j=4∨j=5∨j=6∨j=7∨j=8∨j=9∨j=10∨j=11∨j=12∨j=13∨j=14∨j=15:=zOm;rcases Ac with rfl|rfl|rfl|rfl|rfl|rfl|rfl|rfl|rfl|rfl|rfl|rfl|rfl|rfl|rfl|rfl<;>simp[Cm,afn]
  ·obtain rfl:j=16:=zOm;rw[zA32 (zA25 (CH K) zDc),Nat.zero_mod];rfl
 ·rw[zA13 (by rw[AZ];omega),zA13 (by rw[bj];omega)]
theorem aew (K:Nat):∃A1 A2 A3:Nat→List Nat,A1 0=List.replicate 17 0∧(∀i,i<16→(A1 i)[i]? =some 0)∧(∀i,i<16→(A1 i).set i (K/256^i%256)=A1 (i+1))∧A1 16=A2 3∧
 (∀i,i%4=3→i<16→(A2 i)[i]? =some (K/256^i%256))∧(∀i,i%4=3→i<16→(A2 i).set i (K/256^i%256 &&&15)=A2 (i+4))∧A2 19=A3 4∧
 (∀i,i%4=0→4≤i→i<16→(A3 i)[i]? =some (K/256^i%256))∧(∀i,i%4=0→4≤i→i<16→(A3 i).set i (K/256^i%256 &&&252)=A3 (i+4))∧A3 16=bF 256 17 (lD K):=by
 refine⟨fun i=>Mz (r1 K i),fun i=>Mz (r2 K i),fun i=>Mz (r3 K i),?_,?_,?_,?_,?_,?_,?_,?_,?_,aaF K⟩
 ·rw[←SM];exact zF (fun j _=>by unfold r1;rw[if_neg zOm])
 ·intro i hi;rw[tO _ zOm,r1,if_neg zOm]
 ·intro i hi;refine Gg _ _ (fun j _=>?_);unfold r1
  by_cases h:j=i
  ·subst h;rw[if_pos zOm,if_pos rfl]
  ·rw[if_neg h]
   by_cases h2:j<i
   ·rw[if_pos h2,if_pos zOm]
   ·exact zfz
 ·refine zF (fun j hj=>?_);unfold r1 r2
  by_cases h:j%4=3∧j<3
  ·omega
  ·rw[if_neg h]
 ·intro i h3 hi;rw[tO _ zOm,r2,if_neg zOm,if_pos hi]
 ·intro i h3 hi;refine Gg _ _ (fun j hj=>?_);unfold r2
  by_cases h:j=i
  ·subst h;rw[if_pos rfl,if_pos ⟨h3,by omega⟩]
  ·rw[if_neg h]
   by_cases h2:j%4=3∧j<i
   ·rw[if_pos h2,if_pos ⟨h2.1,by omega⟩]
   ·exact zfz
 ·exact zF (fun j hj=>by unfold r3;rw[if_neg zOm])
 ·intro i h0 h4 hi;rw[tO _ zOm,r3,if_neg zOm,r2,if_neg zOm,if_pos hi]
 ·intro i h0 h4 hi;refine Gg _ _ (fun j hj=>?_);unfold r3
  by_cases h:j=i
  ·subst h;rw[if_pos rfl,if_pos ⟨h0,h4,by omega,hi⟩]
  ·rw[if_neg h]
   by_cases h2:j%4=0∧4≤j∧j<i∧j<16
   ·rw[if_pos h2,if_pos ⟨h2.1,h2.2.1,by omega,h2.2.2.2⟩]
   ·exact zfz
def cL (bs:List UInt8):List Nat:=(bs.map (fun(x:UInt8)=>x.toNat)++List.replicate (17-bs.length) 0).set bs.length 1
theorem I8 {bs:List UInt8} (h:bs.length≤16):(cL bs).length=17:=by simp[cL];omega
theorem Yw {bs:List UInt8} (h:bs.length≤16):val 256 (cL bs)=wg bs:=by
 have e:cL bs=bs.map (fun(x:UInt8)=>x.toNat)++1::List.replicate (16-bs.length) 0:=by
  rw[cL,show 17-bs.length=(16-bs.length)+1 by omega,List.replicate_succ,List.set_append_right _ _ (by rw[List.length_map];exact zA0 _),List.length_map,Nat.sub_self,List.set_cons_zero]
 rw[e,kl,val,qC,List.length_map,Nat.mul_zero,Nat.add_zero,Nat.mul_one];rfl
theorem PJ {bs:List UInt8}:Le 255 (cL bs):=by
 intro m;rw[zA10];cases h:(cL bs)[m]? with
 |none=>simp
 |some d=>
  rcases List.mem_or_eq_of_mem_set (List.mem_of_getElem? h)with hd|rfl
  ·rcases List.mem_append.1 hd with hd|hd
   ·simp only[List.mem_map]at hd;obtain⟨y,-,rfl⟩:=hd;have:=y.toNat_lt;simp;omega
   ·rw[List.mem_replicate]at hd;simp;omega
  ·simp
def rV (xs ys:List Nat):List Nat:=List.zipWith (· + ·) xs ys
theorem xK {xs ys:List Nat} (hx:xs.length=17) (hy:ys.length=17):(rV xs ys).length=17:=by rw[rV,List.length_zipWith,hx,hy];rfl
theorem Dq {xs ys:List Nat} (hx:xs.length=17) (hy:ys.length=17) {i:Nat} (hi:i<17):(rV xs ys)[i]? =some (xs.getD i 0+ys.getD i 0):=by
 rw[rV,List.getElem?_zipWith,dE zOm,dE zOm]
theorem IQ:∀(xs ys:List Nat),xs.length=ys.length→val 256 (rV xs ys)=val 256 xs+val 256 ys
 | [],[],_=>rfl
 |x::xs,y::ys,h=>by
  have ih:=IQ xs ys zar;unfold rV at*;rw[List.zipWith_cons_cons,val,val,val,ih];omega
theorem Xe {xs ys:List Nat} (hx:xs.length=17) (hy:ys.length=17) (bx:Le 255 xs) (by':Le 255 ys):Le 600 (rV xs ys):=by
 intro m;rw[zA10]
 by_cases h:m<17
 ·rw[Dq hx hy h,Option.getD_some];have:=bx m;have:=by' m
  omega
 ·rw[zA13 (by rw[xK hx hy];omega)];simp
theorem GN {l:List UInt8} {j:Nat} (h:j<l.length) (k:Nat):((l.take j).map (fun(x:UInt8)=>x.toNat)++List.replicate (k+1) 0).set j l[j].toNat=(l.take (j+1)).map (fun(x:UInt8)=>x.toNat)++List.replicate k 0:=by
 rw[List.set_append_right _ _ zab,List.length_map,zA15,Nat.min_eq_left zOm,Nat.sub_self,List.replicate_succ,List.set_cons_zero,List.take_succ_eq_append_getElem h,List.map_append,zA16];rfl
theorem OO (K:Nat) (hK:K<256^32) (d:Option Addr) (cap:Nat) (L:List UInt8) (hL:L.length<2^60) (w:World) (hs:Sl w (.slice d L.length cap) (aJ L)):
 Calls Tryz.prog 72 #[.agg (ay K).toArray,.slice d L.length cap] w fun e w'=>e=.returned (.agg (ag 16 (Aj (lD K) (K/2^128) L)).toArray)∧Below w.heap.size w w':=by
 have aI:=hs.len;rw[ai]at aI;obtain⟨-,NF,ye⟩:=aI;unfold maxLen at ye;obtain⟨A1,A2,A3,a10,a1g,a1s,a1e,a2g,a2s,a2e,a3g,a3s,a3e⟩:=aew K;have hRl:=CH K;obtain⟨R,hR⟩:=zX (lD K);rw[hR]at a3e hRl⊢;obtain⟨X,hX⟩:=zX (Ending.returned (.agg (ag 16 (Aj R (K/2^128) L)).toArray));rw[hX];have hRv:val 256 (bF 256 17 R)=R:=(by rw[ir,zA4 (zA25 hRl zDc)]);have hDl:=bj 256 17 R;have hDb:=qX 17 R;obtain⟨DR,hDR⟩:=zX (bF 256 17 R);rw[hDR]at a3e hRv hDl hDb;have fA:∀k W (bs:List UInt8),16*k<L.length→W<2^130→W%mD=kE R L k→(L.drop (16*k)).take 16=bs→bs.length≤16→∃V,V<2^130∧V%mD=kE R L (k+1)∧
  ∀w,Calls Tryz.prog 116 #[.agg (iu (rV (bF 256 17 W) (cL bs))).toArray,.agg (iu DR).toArray] w fun e w'=>e=.returned (.agg (iu (bF 256 17 V)).toArray)∧Below w.heap.size w w':=by
  intro k W bs _ hW hWk ua fP;have lU:=I8 fP;have hz:=xK (bj 256 17 W) lU;have hzb:=Xe (bj 256 17 W) lU (qX 17 W) PJ;have ue:=Ue (EO hzb hDb);rw[vO]at ue;refine⟨_,qI (zA9 ue zDc),?_,fun w=>Kz _ _ hz hDl hzb hDb w⟩;rw[j7,j7,K0 hz hDl,hRv,IQ _ _ (by rw[bj,lU]),Yw fP,ir,zA4 (zA25 hW zDc),kE,ua,←hWk];have:=Dg (r:=R) (h:=W) (b:=wg bs) rfl;rwa[j7]at this
 have U6:∀k W,¬16*k<L.length→16*k≤L.length+15→W<2^130→W%mD=kE R L k→W%mD=kE R L ((L.length+15)/16):=by
  intro k W h1 h2 _ h3;rw[h3,show(L.length+15)/16=k by omega]
 replace hs:=zH hs;replace hX:=zH hX;replace hRl:=zH hRl;have hDl_:=zH hDl;clear hDl;replace fA:=zH fA;replace U6:=zH U6;replace a10:=zH a10;replace a1g:=zH a1g;replace a1s:=zH a1s;replace a1e:=zH a1e;replace a2g:=zH a2g;replace a2s:=zH a2s;replace a2e:=zH a2e;replace a3g:=zH a3g;replace a3s:=zH a3s;replace a3e:=zH a3e;replace hK:=zH hK;clear hR hDR hRv hDb;go_enter Tryz.func72,Tryz.ntmps72;go_upto_region 1 with fail
 refine be (fun W aB k2 k4 kb=>?_);have k4:Arr W (w.heap.size+1) (ag 16 0):=k4;have lt2:=k2.lt;have lt4:=k4.lt;clear aB;go_upto_region 3 with fail
 refine be (fun w9 ie k5 k6 fO=>?_);obtain⟨k2,k4⟩:=fZ k2 k4 fO;have kb:=az kb fO;generalize W.heap.size=g5 at k5 k6 lt2 lt4⊢;have k5:Arr w9 g5 (iu (A1 0)):=(by rw[a10.out];exact k5);have k6:Arr w9 (g5+1) (iu (bF 256 17 0)):=k6;clear ie fO;go_wp2_with fail;go_loopw[7] (fun iv wr=>∃i:Nat,i≤16∧iv=.int .i64 i∧Arr wr w.heap.size (ay K)∧Arr wr (w.heap.size+1) (ag 16 0)∧Arr wr g5 (iu (A1 i))∧Arr wr (g5+1) (iu (bF 256 17 0))∧Below w.heap.size w wr) (fun iv _=>16-(intOf iv).toNat)
 case atStart=>exact⟨0,by omega,rfl,k2,k4,k5,k6,kb⟩
 case round=>
  clear k2 k4 k5 k6 kb;obtain⟨i,hi,rfl,k2,k4,k5,k6,kb⟩:=hrel
  by_cases bK:i<16
  ·have gx:=bH K i zOm;have ga:=a1g.out i bK;have aL:=a1s.out i bK;obtain⟨x,hx⟩:=zX (K/256^i%256);have vR:x<256:=hx▸zA1 _ zDc;rw[hx]at gx aL;have ga:=eH ga;have bo:=k5.cell ga;have bT:=k5.frozen i;have Ad:=k2.cell gx;replace aL:=zH aL;replace gx:=zH gx;replace ga:=zH ga;replace hx:=zH hx;go_wp2_with fail;refine⟨⟨i+1,by omega,by go_num,k2.other zab _,k4.other zab _,?_,k6.other zac _,kb.setCell zab _⟩,by simp[intOf];omega⟩;have:=k5.set i (.int .i64 (x:Int));exact ze1
  ·have Hn:i=16:=zOm;rw[Hn,a1e.out]at k5;clear a10 a1g a1s a1e;go_wp2_with fail;clear hi bK Hn;go_loopw[8] (fun iv wr=>∃i:Nat,i%4=3∧i≤19∧iv=.int .i64 i∧Arr wr w.heap.size (ay K)∧Arr wr (w.heap.size+1) (ag 16 0)∧Arr wr g5 (iu (A2 i))∧Arr wr (g5+1) (iu (bF 256 17 0))∧Below w.heap.size w wr) (fun iv _=>19-(intOf iv).toNat)
   case atStart=>exact⟨3,by omega,by omega,rfl,k2,k4,k5,k6,kb⟩
   case round=>
    clear k2 k4 k5 k6 kb;obtain⟨i,XQ,hi,rfl,k2,k4,k5,k6,kb⟩:=hrel
    by_cases bK:i<16
    ·have ga:=a2g.out i XQ bK;have aL:=a2s.out i XQ bK;obtain⟨x,hx⟩:=zX (K/256^i%256);have vR:x<256:=hx▸zA1 _ zDc;rw[hx]at ga aL;have mJ:=Yr x vR;obtain⟨y,hy⟩:=zX (x &&&15);rw[hy]at aL mJ;have ga:=eH ga;have bo:=k5.cell ga;have bT:=k5.frozen i;replace aL:=zH aL;replace ga:=zH ga;replace hx:=zH hx;replace hy:=zH hy;have iw1:IntKind.i64.wrap ((i:Int)+4)=(i:Int)+4:=i64_in zOm;go_wp2_with fail;refine⟨⟨i+4,by omega,by omega,by go_num,k2.other zab _,k4.other zab _,?_,k6.other zac _,kb.setCell zab _⟩,by simp[intOf];omega⟩;have:=k5.set i (.int .i64 (y:Int));exact ze1
    ·have ac5:i=19:=zOm;rw[ac5,a2e.out]at k5;clear a2g a2s a2e;go_wp2_with fail;clear hi bK XQ ac5;go_loopw[9] (fun iv wr=>∃i:Nat,i%4=0∧4≤i∧i≤16∧iv=.int .i64 i∧Arr wr w.heap.size (ay K)∧Arr wr (w.heap.size+1) (ag 16 0)∧Arr wr g5 (iu (A3 i))∧Arr wr (g5+1) (iu (bF 256 17 0))∧Below w.heap.size w wr) (fun iv _=>16-(intOf iv).toNat)
     case atStart=>exact⟨4,by omega,by omega,by omega,rfl,k2,k4,k5,k6,kb⟩
     case round=>
      clear k2 k4 k5 k6 kb;obtain⟨i,XQ,mA,hi,rfl,k2,k4,k5,k6,kb⟩:=hrel
      by_cases bK:i<16
      ·have ga:=a3g.out i XQ mA bK;have aL:=a3s.out i XQ mA bK;obtain⟨x,hx⟩:=zX (K/256^i%256);have vR:x<256:=hx▸zA1 _ zDc;rw[hx]at ga aL;have mJ:=UM x vR;obtain⟨y,hy⟩:=zX (x &&&252);rw[hy]at aL mJ;have ga:=eH ga;have bo:=k5.cell ga;have bT:=k5.frozen i;replace aL:=zH aL;replace ga:=zH ga;replace hx:=zH hx;replace hy:=zH hy;have iw1:IntKind.i64.wrap ((i:Int)+4)=(i:Int)+4:=i64_in zOm;go_wp2_with fail;refine⟨⟨i+4,by omega,by omega,by omega,by go_num,k2.other zab _,k4.other zab _,?_,k6.other zac _,kb.setCell zab _⟩,by simp[intOf];omega⟩;have:=k5.set i (.int .i64 (y:Int));exact ze1
      ·have Hn:i=16:=zOm;rw[Hn,a3e.out]at k5;clear a3g a3s a3e;have z0:0<2^130∧0%mD=kE R L 0:=⟨by decide,rfl⟩;replace z0:=zH z0;go_wp2_with fail;clear hi bK XQ mA Hn;go_loopw[10] (fun iv wr=>∃k W:Nat,16*k≤L.length+15∧iv=.int .i64 (16*(k:Int))∧(W<2^130∧W%mD=kE R L k)∧Arr wr w.heap.size (ay K)∧Arr wr (w.heap.size+1) (ag 16 0)∧Arr wr g5 (iu DR)∧Arr wr (g5+1) (iu (bF 256 17 W))∧Below w.heap.size w wr) (fun iv _=>L.length+16-(intOf iv).toNat)
       case atStart=>exact⟨0,0,by omega,rfl,z0.out,k2,k4,k5,k6,kb⟩
       case round=>
        clear k2 k4 k5 k6 kb z0;obtain⟨k,W,hk,rfl,hW,k2,k4,k5,k6,kb⟩:=hrel
        by_cases bK:16*k<L.length
        ·obtain⟨bs,ua⟩:∃bs,(L.drop (16*k)).take 16=bs:=⟨_,rfl⟩;have fP:bs.length=min 16 (L.length-16*k):=(by rw[←ua,zA15,List.length_drop]);obtain⟨V,hV,hVk,c1⟩:=fA.out k W bs bK hW.1 hW.2 ua zOm;have Hk:∀j y,j<min 16 (L.length-16*k)→bs[j]? =some y→L[16*k+j]? =some y:=by
          intro j y hj hy;rw[←ua,List.getElem?_take,if_pos zOm,List.getElem?_drop]at hy;exact hy
         obtain⟨n,hn⟩:=zX (min 16 (L.length-16*k));rw[hn]at fP Hk;have ZL:n≤16:=zOm;have hnL:16*k+n≤L.length:=zOm;have JH:n=16∧16<L.length-16*k∨n=L.length-16*k∧L.length-16*k≤16:=zOm;have hVV:=zH (And.intro hV hVk);clear hV hVk hW ua hn fA;replace c1:=zH c1;replace fP:=zH fP;replace Hk:=zH Hk;have iw0:16*(k:Int)<(L.length:Int):=zOm;have iwd:IntKind.i64.wrap ((L.length:Int)-16*(k:Int))=(L.length:Int)-16*(k:Int):=i64_in zOm;have lt2:=k2.lt;have lt4:=k4.lt;have lt5:=k5.lt;have lt6:=k6.lt;go_upto_region 19 with fail
         refine aH (fun w11 adG k11 Zc=>?_);obtain⟨k2,k4,k5,k6⟩:=kJ k2 k4 k5 k6 Zc;have kb:=az kb Zc;generalize wr.heap.size=gc at k11 lt2 lt4 lt5 lt6⊢;have k11:Arr w11 gc (iu ((bs.take 0).map (fun(x:UInt8)=>x.toNat)++List.replicate (17-0) 0)):=k11;clear adG Zc;rcases JH with⟨JL,JH⟩|⟨JL,JH⟩
         ·have iw5:(16:Int)<(L.length:Int)-16*(k:Int):=zOm;replace JL:=zH JL;go_upto_region 22 with fail
          rw[show Value.int IntKind.i64 16=Value.int IntKind.i64 ((n:Nat):Int) by rw[JL.out];rfl];clear iw5 iwd;go_wp2_with fail;go_loopw[13] (fun jv wr=>∃j:Nat,j≤n∧jv=.int .i64 j∧Arr wr w.heap.size (ay K)∧Arr wr (w.heap.size+1) (ag 16 0)∧Arr wr g5 (iu DR)∧Arr wr (g5+1) (iu (bF 256 17 W))∧Arr wr gc (iu ((bs.take j).map (fun(x:UInt8)=>x.toNat)++List.replicate (17-j) 0))∧Below w.heap.size w wr) (fun jv _=>n-(intOf jv).toNat)
          case atStart=>exact⟨0,by omega,rfl,k2,k4,k5,k6,k11,kb⟩
          case round=>
           clear k2 k4 k5 k6 k11 kb;obtain⟨j,hj,rfl,k2,k4,k5,k6,k11,kb⟩:=hrel
           by_cases hltj:j<n
           ·obtain⟨y,hy⟩:∃y,bs[j]? =some y:=⟨_,zA7 zcL⟩;have hyL:=Hk.out j y hltj hy;obtain⟨b2,o2,GF,-,-,-,np⟩:=hs.out.at zaV
            first|subst GF|(simp only[Option.some.injEq,Addr.mk.injEq,and_true]at GF;obtain⟨rfl,rfl⟩:=GF)
            have kW:=np (16*k+j) (.int .u8 (y.toNat:Int)) (by simp[aJ,hyL]);have Qq:wr.cell? ⟨b2,o2+(16*k+j),none⟩=some (.int .u8 (y.toNat:Int)):=za7;have IX:y.toNat<256:=y.toNat_lt;have aL:((bs.take j).map (fun(x:UInt8)=>x.toNat)++List.replicate (17-j) 0).set j y.toNat=(bs.take (j+1)).map (fun(x:UInt8)=>x.toNat)++List.replicate (17-(j+1)) 0:=by
             exact zd5
            have gc0:((bs.take j).map (fun(x:UInt8)=>x.toNat)++List.replicate (17-j) 0)[j]? =some 0:=by
             exact zeR
            exact zc6
           ·obtain rfl:n=j:=zOm;have nq:((bs.take n).map (fun(x:UInt8)=>x.toNat)++List.replicate (17-n) 0).set n 1=cL bs:=by
             rw[cL,fP.out,zA8 (by rw[fP.out];exact zA0 _)]
            have gc0:((bs.take n).map (fun(x:UInt8)=>x.toNat)++List.replicate (17-n) 0)[n]? =some 0:=by
             exact zeV
            have hCl:=I8 (bs:=bs) (by rw[fP.out];exact ZL);have hCb:=PJ (bs:=bs);have gc0:=eH gc0;have bo:=k11.cell gc0;have bT:=k11.frozen n;replace nq:=zH nq;replace gc0:=zH gc0;replace hCl:=zH hCl;replace hCb:=zH hCb;have iw5:(n:Int)<17:=zOm;go_upto_region 27 with fail
            clear bo bT iw5;have k11:Arr (wr.setCell ⟨gc,n,none⟩ (.int .i64 1)) gc (iu (cL bs)):=by
             exact zft
            have k2:=k2.other (a:=⟨gc,n,none⟩) zab (.int .i64 1);have k4:=k4.other (a:=⟨gc,n,none⟩) zab (.int .i64 1);have k5:=k5.other (a:=⟨gc,n,none⟩) zab (.int .i64 1);have k6:=k6.other (a:=⟨gc,n,none⟩) zab (.int .i64 1);have kb:=kb.setCell (p:=⟨gc,n,none⟩) zab (.int .i64 1);generalize wr.setCell ⟨gc,n,none⟩ (.int .i64 1)=w12 at*;have hDl:=bj 256 17 W;have hDb:=qX 17 W;obtain⟨D,hD⟩:=zX (bF 256 17 W);have c1':=c1.out;rw[hD]at k6 hDl hDb c1';have wJ:=xK hDl hCl.out;have J1:=fun i (hi:i<17)=>Dq hDl hCl.out hi;have lZ:=eO (rV D (cL bs)) D;have dF:(rV D (cL bs)).length=D.length:=(by rw[wJ,hDl]);have dB:=ij dF;rw[hDl]at dB;have wK:(iu (rV D (cL bs))).length=17:=(by rw[mz,wJ]);have hDRl:(iu DR).length=17:=(by rw[mz,hDl_.out]);rw[←lZ]at k6;generalize hCC:cL bs=C at*;clear lZ hD hCC nq gc0 c1;replace hDl:=zH hDl;replace hDb:=zH hDb
            replace c1':=zH c1';replace wJ:=zH wJ;replace J1:=zH J1;replace dF:=zH dF;replace dB:=zH dB;replace wK:=zH wK;replace hDRl:=zH hDRl;go_wp2_with fail;go_loopw[14] (fun iv wr=>∃i:Nat,i≤17∧iv=.int .i64 i∧Arr wr w.heap.size (ay K)∧Arr wr (w.heap.size+1) (ag 16 0)∧Arr wr g5 (iu DR)∧Arr wr (g5+1) (iu (ea i (rV D C) D))∧Arr wr gc (iu C)∧Below w.heap.size w wr) (fun iv _=>17-(intOf iv).toNat)
            case atStart=>exact⟨0,by omega,rfl,k2,k4,k5,k6,k11,kb⟩
            case round=>
             clear k2 k4 k5 k6 k11 kb;obtain⟨i,hi,rfl,k2,k4,k5,k6,k11,kb⟩:=hrel
             by_cases hlti:i<17
             ·obtain⟨x,hx⟩:∃x,D.getD i 0=x:=⟨_,rfl⟩;obtain⟨y,hy⟩:=zX (C.getD i 0);have GE:x≤255:=(by have:=hDb.out i;omega);have tG:y≤255:=(by have:=hCb.out i;omega);have gz:=J1.out i hlti;rw[hx,hy]at gz;have aL:=fE dF.out gz;have gx:(ea i (rV D C) D)[i]? =some x:=by
               rw[eh dF.out zcM,if_neg (Nat.lt_irrefl i),dE zcM,hx]
              have gy:=dE (xs:=C) (i:=i) (by rw[hCl.out];exact hlti);rw[hy]at gy;have gx:=zH (eH gx);have gy:=zH (eH gy);have iw1:IntKind.i64.wrap ((x:Int)+(y:Int))=(x:Int)+(y:Int):=i64_in zOm;have iw7:(i:Int)<17:=zOm;replace aL:=zH aL;clear gz;replace hx:=zH hx;replace hy:=zH hy;go_upto_region 30 with(first|refine aR ?_|refine aU ?_)
              refine cH 9 10 fun aP=>?_;refine dz ?_ 1 511 zaD [0,1,2,3,4,5,6,7,8] (fun w' hB=>by have e0:=k2.below hB;have e1:=k4.below hB;have e2:=k5.below hB;have e3:=k6.below hB;have e4:=k11.below hB;have c1:=(k6.below hB).cell gx.out;have c2:=(k11.below hB).cell gy.out;exact zRd) ?_;obtain⟨k2,k4,k5,k6,k11⟩:=uk k2 k4 k5 k6 k11 aP;have kb:=az kb aP;have bo:=k6.cell gx.out;have bT:=fun j=>k6.frozen j;refine bf 1023 rfl zDk (fun K hK=>?_);go_simp;refine hK (fun _=>True) 9999 _ _ ?_;clear hK K;try simp only[Act.put]
              try simp only[zSa,zSz,zSs]
              refine ap zKr ?_
              first|refine i6 k6 (fun i8 k6 ad ak=>?_)|refine jC k6 (fun i8 k6 ad ak=>?_)
              exact zdu
             ·obtain rfl:i=17:=zOm;rw[dB.out]at k6;have iwk:IntKind.i64.wrap (16*(k:Int)+16)=16*(k:Int)+16:=i64_in zOm;go_wp2_with(first|(refine ab rfl _ _ rfl _ rfl zKr _ k6 (by rw[wK.out];kernel_rfl) ?_)|(refine ab rfl _ _ rfl _ rfl zKr _ k5 (by rw[hDRl.out];kernel_rfl) ?_));refine zQ (c1'.out _) fun jF dc=>?_;obtain⟨k2,k4,k5,k6⟩:=kJ k2 k4 k5 k6 dc;have kb:=az kb dc;clear dc;exact zdw
         ·have iw5:¬(16:Int)<(L.length:Int)-16*(k:Int):=zOm;have hnI:(L.length:Int)-16*(k:Int)=(n:Int):=zOm;replace JL:=zH JL;replace hnI:=zH hnI;go_upto_region 22 with fail
          rw[hnI.out];clear iw5 iwd;go_wp2_with fail;go_loopw[13] (fun jv wr=>∃j:Nat,j≤n∧jv=.int .i64 j∧Arr wr w.heap.size (ay K)∧Arr wr (w.heap.size+1) (ag 16 0)∧Arr wr g5 (iu DR)∧Arr wr (g5+1) (iu (bF 256 17 W))∧Arr wr gc (iu ((bs.take j).map (fun(x:UInt8)=>x.toNat)++List.replicate (17-j) 0))∧Below w.heap.size w wr) (fun jv _=>n-(intOf jv).toNat)
          case atStart=>exact⟨0,by omega,rfl,k2,k4,k5,k6,k11,kb⟩
          case round=>
           clear k2 k4 k5 k6 k11 kb;obtain⟨j,hj,rfl,k2,k4,k5,k6,k11,kb⟩:=hrel
           by_cases hltj:j<n
           ·obtain⟨y,hy⟩:∃y,bs[j]? =some y:=⟨_,zA7 zcL⟩;have hyL:=Hk.out j y hltj hy;obtain⟨b2,o2,GF,-,-,-,np⟩:=hs.out.at zaV
            first|subst GF|(simp only[Option.some.injEq,Addr.mk.injEq,and_true]at GF;obtain⟨rfl,rfl⟩:=GF)
            have kW:=np (16*k+j) (.int .u8 (y.toNat:Int)) (by simp[aJ,hyL]);have Qq:wr.cell? ⟨b2,o2+(16*k+j),none⟩=some (.int .u8 (y.toNat:Int)):=za7;have IX:y.toNat<256:=y.toNat_lt;have aL:((bs.take j).map (fun(x:UInt8)=>x.toNat)++List.replicate (17-j) 0).set j y.toNat=(bs.take (j+1)).map (fun(x:UInt8)=>x.toNat)++List.replicate (17-(j+1)) 0:=by
             exact zd5
            have gc0:((bs.take j).map (fun(x:UInt8)=>x.toNat)++List.replicate (17-j) 0)[j]? =some 0:=by
             exact zeR
            exact zc6
           ·obtain rfl:n=j:=zOm;have nq:((bs.take n).map (fun(x:UInt8)=>x.toNat)++List.replicate (17-n) 0).set n 1=cL bs:=by
             rw[cL,fP.out,zA8 (by rw[fP.out];exact zA0 _)]
            have gc0:((bs.take n).map (fun(x:UInt8)=>x.toNat)++List.replicate (17-n) 0)[n]? =some 0:=by
             exact zeV
            have hCl:=I8 (bs:=bs) (by rw[fP.out];exact ZL);have hCb:=PJ (bs:=bs);have gc0:=eH gc0;have bo:=k11.cell gc0;have bT:=k11.frozen n;replace nq:=zH nq;replace gc0:=zH gc0;replace hCl:=zH hCl;replace hCb:=zH hCb;have iw5:(n:Int)<17:=zOm;go_upto_region 27 with fail
            clear bo bT iw5;have k11:Arr (wr.setCell ⟨gc,n,none⟩ (.int .i64 1)) gc (iu (cL bs)):=by
             exact zft
            have k2:=k2.other (a:=⟨gc,n,none⟩) zab (.int .i64 1);have k4:=k4.other (a:=⟨gc,n,none⟩) zab (.int .i64 1);have k5:=k5.other (a:=⟨gc,n,none⟩) zab (.int .i64 1);have k6:=k6.other (a:=⟨gc,n,none⟩) zab (.int .i64 1);have kb:=kb.setCell (p:=⟨gc,n,none⟩) zab (.int .i64 1);generalize wr.setCell ⟨gc,n,none⟩ (.int .i64 1)=w12 at*;have hDl:=bj 256 17 W;have hDb:=qX 17 W;obtain⟨D,hD⟩:=zX (bF 256 17 W);have c1':=c1.out;rw[hD]at k6 hDl hDb c1';have wJ:=xK hDl hCl.out;have J1:=fun i (hi:i<17)=>Dq hDl hCl.out hi;have lZ:=eO (rV D (cL bs)) D;have dF:(rV D (cL bs)).length=D.length:=(by rw[wJ,hDl]);have dB:=ij dF;rw[hDl]at dB;have wK:(iu (rV D (cL bs))).length=17:=(by rw[mz,wJ]);have hDRl:(iu DR).length=17:=(by rw[mz,hDl_.out]);rw[←lZ]at k6;generalize hCC:cL bs=C at*;clear lZ hD hCC nq gc0 c1;replace hDl:=zH hDl;replace hDb:=zH hDb
            replace c1':=zH c1';replace wJ:=zH wJ;replace J1:=zH J1;replace dF:=zH dF;replace dB:=zH dB;replace wK:=zH wK;replace hDRl:=zH hDRl;go_wp2_with fail;go_loopw[14] (fun iv wr=>∃i:Nat,i≤17∧iv=.int .i64 i∧Arr wr w.heap.size (ay K)∧Arr wr (w.heap.size+1) (ag 16 0)∧Arr wr g5 (iu DR)∧Arr wr (g5+1) (iu (ea i (rV D C) D))∧Arr wr gc (iu C)∧Below w.heap.size w wr) (fun iv _=>17-(intOf iv).toNat)
            case atStart=>exact⟨0,by omega,rfl,k2,k4,k5,k6,k11,kb⟩
            case round=>
             clear k2 k4 k5 k6 k11 kb;obtain⟨i,hi,rfl,k2,k4,k5,k6,k11,kb⟩:=hrel
             by_cases hlti:i<17
             ·obtain⟨x,hx⟩:∃x,D.getD i 0=x:=⟨_,rfl⟩;obtain⟨y,hy⟩:=zX (C.getD i 0);have GE:x≤255:=(by have:=hDb.out i;omega);have tG:y≤255:=(by have:=hCb.out i;omega);have gz:=J1.out i hlti;rw[hx,hy]at gz;have aL:=fE dF.out gz;have gx:(ea i (rV D C) D)[i]? =some x:=by
               rw[eh dF.out zcM,if_neg (Nat.lt_irrefl i),dE zcM,hx]
              have gy:=dE (xs:=C) (i:=i) (by rw[hCl.out];exact hlti);rw[hy]at gy;have gx:=zH (eH gx);have gy:=zH (eH gy);have iw1:IntKind.i64.wrap ((x:Int)+(y:Int))=(x:Int)+(y:Int):=i64_in zOm;have iw7:(i:Int)<17:=zOm;replace aL:=zH aL;clear gz;replace hx:=zH hx;replace hy:=zH hy;go_upto_region 30 with(first|refine aR ?_|refine aU ?_)
              refine cH 9 10 fun b9=>?_;refine dz ?_ 1 511 zaJ [0,1,2,3,4,5,6,7,8] (fun w' hB=>by have e0:=k2.below hB;have e1:=k4.below hB;have e2:=k5.below hB;have e3:=k6.below hB;have e4:=k11.below hB;have c1:=(k6.below hB).cell gx.out;have c2:=(k11.below hB).cell gy.out;exact zRd) ?_;obtain⟨k2,k4,k5,k6,k11⟩:=uk k2 k4 k5 k6 k11 b9;have kb:=az kb b9;have bo:=k6.cell gx.out;have bT:=fun j=>k6.frozen j;refine bf 1023 rfl zDk (fun K hK=>?_);go_simp;refine hK (fun _=>True) 9999 _ _ ?_;clear hK K;try simp only[Act.put]
              try simp only[zSa,zSz,zSs]
              refine ap zKr ?_
              first|refine i6 k6 (fun m9 k6 ad ak=>?_)|refine jC k6 (fun m9 k6 ad ak=>?_)
              exact zdu
             ·obtain rfl:i=17:=zOm;rw[dB.out]at k6;have iwk:IntKind.i64.wrap (16*(k:Int)+16)=16*(k:Int)+16:=i64_in zOm;go_wp2_with(first|(refine ab rfl _ _ rfl _ rfl zKr _ k6 (by rw[wK.out];kernel_rfl) ?_)|(refine ab rfl _ _ rfl _ rfl zKr _ k5 (by rw[hDRl.out];kernel_rfl) ?_));refine zQ (c1'.out _) fun qD ia=>?_;obtain⟨k2,k4,k5,k6⟩:=kJ k2 k4 k5 k6 ia;have kb:=az kb ia;clear ia;exact zdw
        ·have uA:=U6.out k W bK hk hW.1 hW.2;obtain⟨kk,ZA⟩:=zX (kE R L ((L.length+15)/16));obtain⟨S,hS⟩:=zX (K/2^128);have hXX:Ending.returned (.agg (ag 16 (kk+S)).toArray)=X:=by
          rw[GR,←ZA,←hS];exact hX.out
         have c2:=fun w=>KB W hW.1 w;rw[uA,ZA]at c2;have hsd:∀i,K/256^(16+i)%256=S/256^i%256:=fun i=>by
          rw[←hS,Nat.pow_add,←zA22,show(256:Nat)^16=2^128 by decide]
         have mL:=fun i=>sf 256 i kk S zDc;have nq:=fun i=>uL 256 i kk S zDc;have Aa:=uM 256 kk S;have lU:=fun i=>sh 256 i kk S zDc;have dF:(ag 16 (kk+S)).length=(ag 16 0).length:=za3;have dB:=ij dF;rw[aa]at dB;have lZ:=eO (ag 16 (kk+S)) (ag 16 0);have iw0:¬16*(k:Int)<(L.length:Int):=zOm;clear fA U6 hs bK hk hW hX uA ZA hS;obtain⟨N,hN⟩:=zX (kk+S);rw[hN]at hXX mL dB lZ dF;clear hN;replace hXX:=zH hXX;replace c2:=zH c2;replace hsd:=zH hsd;replace mL:=zH mL;replace nq:=zH nq;replace Aa:=zH Aa;replace lU:=zH lU;replace dF:=zH dF;replace dB:=zH dB;replace lZ:=zH lZ;have lt2:=k2.lt;have lt4:=k4.lt;have lt5:=k5.lt;have lt6:=k6.lt;go_wp2_with(first|(refine ab rfl _ _ rfl _ rfl zKr _ k6 zcK ?_));refine zQ (c2.out _) fun uG iz=>?_;obtain⟨k2,k4,k6⟩:=dZ k2 k4 k6 iz;have kb:=az kb iz;clear iz;go_upto_region 33 with(refine aU ?_)
         refine ci k6 (fun rY k6 ad ak=>?_);obtain⟨k2,k4⟩:=rR ad k2 k4;have kb:=ak _ _ zOm kb;clear ad ak;go_upto_region 34 with fail
         have lt2:=k2.lt;have lt4:=k4.lt;have lt6:=k6.lt;refine aH (fun w13 adH k7 Zd=>?_);obtain⟨k2,k4,k6⟩:=dZ k2 k4 k6 Zd;have kb:=az kb Zd;generalize (rY).heap.size=wx at k7 lt2 lt4 lt6⊢;have k7:Arr w13 wx (ea 0 (ag 16 N) (ag 16 0)):=(by rw[lZ.out];exact k7);clear adH Zd;clear c2 lZ;go_wp2_with fail;go_loopw[17,16] (fun iv uv wr=>∃i c:Nat,i≤16∧iv=.int .i64 i∧uv=.int .i64 c∧jH 256 i kk S=c∧Arr wr w.heap.size (ay K)∧Arr wr (w.heap.size+1) (ag 16 0)∧Arr wr (g5+1) (iu (bF 256 17 kk))∧Arr wr wx (ea i (ag 16 N) (ag 16 0))∧Below w.heap.size w wr) (fun iv _ _=>16-(intOf iv).toNat)
         case atStart=>exact⟨0,0,by omega,rfl,rfl,Aa.out,k2,k4,k6,k7,kb⟩
         case round=>
          clear k2 k4 k6 k7 kb;obtain⟨i,c,hi,rfl,rfl,hc,k2,k4,k6,k7,kb⟩:=hrel;have jX:c≤1:=(by have:=lU.out i;omega)
          by_cases bK:i<16
          ·obtain⟨x,hx⟩:∃x,kk/256^i%256=x:=⟨_,rfl⟩;obtain⟨y,hy⟩:=zX (S/256^i%256);have vR:x<256:=hx▸zA1 _ zDc;have IX:y<256:=hy▸zA1 _ zDc;have hd:=mL.out i;have hs:=nq.out i;rw[hx,hy,hc]at hd hs;have g7:(ea i (ag 16 N) (ag 16 0))[i]? =some (.int .u8 0):=by
            rw[eh dF.out (by rw[aa];exact bK),if_neg (Nat.lt_irrefl i),bX 16 0 i bK,Nat.zero_div];rfl
           have gN:=bX 16 N i bK;rw[hd]at gN;have aL:=fE dF.out gN;have gx:=eG 256 17 kk i zOm;rw[hx]at gx;have gx:=eH gx;have gy:=bH K (16+i) zOm;rw[hsd.out,hy]at gy;replace g7:=zH g7;replace gN:=zH gN;replace aL:=zH aL;replace hd:=zH hd;replace hs:=zH hs;replace hc:=zH hc;replace gx:=zH gx;replace gy:=zH gy;replace hx:=zH hx;replace hy:=zH hy;have iw1:IntKind.i64.wrap ((c:Int)+(x:Int))=(c:Int)+(x:Int):=i64_in zOm;have iw2:IntKind.i64.wrap ((c:Int)+(x:Int)+(y:Int))=(c:Int)+(x:Int)+(y:Int):=i64_in zOm;have iw3:(i:Int)<17:=zOm;have iw4:IntKind.i64.wrap (16+(i:Int))=16+(i:Int):=i64_in zOm;have iw5:(0:Int)≤16+(i:Int):=zOm;have iw6:16+(i:Int)<32:=zOm;have iw7:(16+(i:Int)).toNat=16+i:=zOm;go_upto_region 38 with(first|refine aR ?_|refine aU ?_)
           refine cH 9999 12 fun hU=>?_;refine dz ?_ 0 4095 zaF [0,1,2,3,4,5,6,7,8,9,10,11] (fun w' hB=>by have e0:=k2.below hB;have e1:=k4.below hB;have e2:=k6.below hB;have e3:=k7.below hB;have c1:=(k6.below hB).cell gx.out;have c2:=(k2.below hB).cell gy.out;exact zRd) ?_;refine ap zKr ?_;obtain⟨k2,k4,k6,k7⟩:=kJ k2 k4 k6 k7 hU;have kb:=az kb hU;clear hU;clear iw1 iw2 iw3 iw4 iw5 iw6 iw7;have bo:=k7.cell g7.out;have bT:=k7.frozen i;have LH:=nC ((c:Int)+(x:Int)+(y:Int));have e9:((c:Int)+x+y)%256=(((x+y+c)%256:Nat):Int):=zOm;replace e9:=zH e9;go_wp2_with fail;refine⟨⟨i+1,(x+y+c)/256,by omega,by go_num,by rw[show((c:Int)+x+y)/256=(((x+y+c)/256:Nat):Int) by omega],hs.out,k2.other zab _,k4.other zab _,k6.other zab _,?_,kb.setCell zab _⟩,by simp[intOf];omega⟩;have:=k7.set i (.int .u8 (((c:Int)+x+y)%256));rw[e9.out,aL.out]at this
           rw[e9.out];exact this
          ·obtain rfl:i=16:=zOm;rw[dB.out]at k7;go_wp2_with(first|refine aR ?_|refine aU ?_);exact bodyPost_ret (aj Tryz.results72 _ _ _ rfl zKr _ zaE zLn) rfl ⟨hXX.out,ah kb zOm _⟩
end Go.Proofs.YtgfkgolafkdjfaaGreatDoor
