/- ModelWrong: part 43 of its proof: lemmas and contracts, each with its conditions in its own statement; the last part holds the law itself. -/
import Derived.Test.YtgfkgolafkdjfaaGreatDoorJv42

set_option maxHeartbeats 4000000
set_option maxRecDepth 100000
namespace Go.Proofs.YtgfkgolafkdjfaaGreatDoor
open Go.RowKit
def Gy (t:List Nat) (m v:Nat):List Nat:=t.set m (t.getD m 0+v)
def mZ (xs ys:List Nat) (i j:Nat) (t:List Nat):List Nat:=(List.range j).foldl (fun t k=>Gy t (i+k) (xs.getD i 0*ys.getD k 0)) t
def kf (xs ys:List Nat) (i:Nat):List Nat:=(List.range i).foldl (fun t i=>mZ xs ys i 32 t) (List.replicate 64 0)
theorem T9 (t:List Nat) (m v:Nat):(Gy t m v).length=t.length:=by simp[Gy]
theorem o5 (xs ys:List Nat) (i j:Nat) (t:List Nat):mZ xs ys i (j+1) t=Gy (mZ xs ys i j t) (i+j) (xs.getD i 0*ys.getD j 0):=by
 unfold mZ;rw[List.range_succ,List.foldl_append];rfl
theorem o7 (xs ys:List Nat) (i:Nat) (t:List Nat):mZ xs ys i 0 t=t:=rfl
theorem pe (xs ys:List Nat) (i:Nat):kf xs ys (i+1)=mZ xs ys i 32 (kf xs ys i):=by
 unfold kf;exact zfC
theorem qV (xs ys:List Nat) (i:Nat) (t:List Nat):∀j,(mZ xs ys i j t).length=t.length
 |0=>by rw[o7]
 |j+1=>by rw[o5,T9,qV xs ys i t j]
theorem rb (xs ys:List Nat):∀i,(kf xs ys i).length=64
 |0=>by unfold kf;simp
 |i+1=>by rw[pe,qV,rb xs ys i]
theorem W4 {b:Nat} {t:List Nat} {m:Nat} (v:Nat) (h:m<t.length):val b (Gy t m v)=val b t+b^m*v:=by
 have:=rC b t m _ (t.getD m 0+v) (dE h);rw[Nat.mul_add]at this;unfold Gy;omega
theorem ET {xs ys:List Nat} (hy:ys.length=32) {i:Nat} (hi:i<32) {t:List Nat} (ht:t.length=64):∀j,j≤32→val 256 (mZ xs ys i j t)=val 256 t+xs.getD i 0*256^i*val 256 (ys.take j)
 |0,_=>by simp[o7,val]
 |j+1,h=>by
  rw[o5,W4 _ (by rw[qV,ht];omega),ET hy hi ht j zOm,jg zOm,Nat.mul_add,Nat.add_assoc];congr 2;rw[Nat.pow_add];simp only[Nat.mul_comm,Nat.mul_left_comm,zA26]
theorem EV {xs ys:List Nat} (hx:xs.length=32) (hy:ys.length=32):∀i,i≤32→val 256 (kf xs ys i)=val 256 (xs.take i)*val 256 ys
 |0,_=>by
  rw[List.take_zero,val,Nat.zero_mul];unfold kf;rw[List.range_zero,List.foldl_nil,qC]
 |i+1,h=>by
  rw[pe,ET hy zOm (rb _ _ _) 32 zOm,EV hx hy i zOm,zA8 (by omega:ys.length≤32),jg zOm,Nat.add_mul];congr 2;rw[Nat.mul_comm]
theorem Le.upd {B C v:Nat} {t:List Nat} (h:Le B t) (hv:v≤C) (m:Nat):Le (B+C) (Gy t m v):=by
 intro k;have h1:=h k;have h2:=h m;unfold Gy;simp only[zA10]at h1 h2⊢;rw[List.getElem?_set];split
 ·split
  ·simp;omega
  ·simp
 ·omega
theorem Rz {x y:Nat} (hx:x≤255) (hy:y≤255):x*y≤65025:=Nat.mul_le_mul hx hy
theorem Le.inner {B:Nat} {xs ys t:List Nat} (hx:Le 255 xs) (hy:Le 255 ys) (h:Le B t) (i:Nat):∀j:Nat,Le (B+j*65025) (mZ xs ys i j t)
 |0=>by rw[o7];exact h.mono zOm
 |j+1=>by
  rw[o5];exact((Le.inner hx hy h i j).upd (Rz (hx i) (hy j)) (i+j)).mono zOm
theorem Le.outer {xs ys:List Nat} (hx:Le 255 xs) (hy:Le 255 ys):∀i:Nat,Le (i*2080800) (kf xs ys i)
 |0=>by
  intro m;unfold kf;rw[List.range_zero,List.foldl_nil,zA10,List.getElem?_replicate];split<;>simp
 |i+1=>by
  rw[pe];exact(Le.inner hx hy (Le.outer hx hy i) i 32).mono zOm
theorem OQ (a b:Nat) (ha:a<256^32) (hb:b<256^32) (w:World) (kG:Arr w 7 (el (gS 32 qN))):
 CB 100 #[.agg (ay a).toArray,.agg (ay b).toArray] w (.agg (ay (a*b%qN)).toArray):=by
 have hG1:=kG.lt;obtain⟨xs,Rk⟩:=zX (bF 256 32 a);obtain⟨ys,GI⟩:=zX (bF 256 32 b);have lx:xs.length=32:=(by rw[←Rk,bj]);have ly:ys.length=32:=(by rw[←GI,bj]);have bx:Le 255 xs:=Rk▸qX 32 a;have by':Le 255 ys:=GI▸qX 32 b
 have ho:=Le.outer bx by'
 have Ax:=fun i j=>Le.inner bx by' (ho i) i j
 obtain⟨T,hT⟩:=zX (kf xs ys 32);have hTl:T.length=64:=(by rw[←hT,rb]);have hTb:=ho 32;rw[hT]at hTb;have hTv:=EV lx ly 32 zOm;rw[hT,zA8 (by omega:xs.length≤32),←Rk,←GI,ir,ir,zA4 ha,zA4 hb]at hTv;obtain⟨P,hP⟩:=zX (a*b);rw[hP]at hTv;have hP64:P<256^64:=(by rw[←hP,show(256:Nat)^64=256^32*256^32 by decide];exact Nat.mul_lt_mul'' ha hb);have hTd:∀k,k<64→(val 256 (T.take k)/256^k+T.getD k 0)%256=P/256^k%256∧val 256 (T.take (k+1))/256^(k+1)=(val 256 (T.take k)/256^k+T.getD k 0)/256:=by
  intro k hk;have h1:=jg (b:=256) (ys:=T) (j:=k) zOm;have h2:=tU 256 T (k+1) zOm;have hp:0<256^k:=Nat.pow_pos zDc;have h3:val 256 (T.take (k+1))/256^k=val 256 (T.take k)/256^k+T.getD k 0:=(by rw[h1,zA30 _ _ hp]);constructor
  ·rw[←hTv,h2,zA24,zA26,zA30 _ _ hp,zA27,h3]
  ·rw[zA24,←zA22,h3]
 have gX:ay a=(bF 256 32 a).map fun(x:Nat)=>Value.int .u8 (x:Int):=rfl;have gY:ay b=(bF 256 32 b).map fun(x:Nat)=>Value.int .u8 (x:Int):=rfl;rw[Rk]at gX;rw[GI]at gY;have hgx:∀i,i<32→(ay a)[i]? =some (.int .u8 ((xs.getD i 0:Nat):Int)):=(by intro i hi;rw[gX,List.getElem?_map,dE zOm];rfl);have hgy:∀i,i<32→(ay b)[i]? =some (.int .u8 ((ys.getD i 0:Nat):Int)):=(by intro i hi;rw[gY,List.getElem?_map,dE zOm];rfl);have lZ:=eO (ag 64 P) (ag 64 0);have ZK:=GS (k:=64) hP64;have c1:=fun g w h kG=>An P hP64 g w h kG;rw[hP];obtain⟨R,hR⟩:=zX (P%qN);rw[hR]at c1⊢;have hT':∀n,n=32→kf xs ys n=T:=(by rintro n rfl;exact hT);clear Rk GI ha hb hP hR hT hTv hP64 gX gY ho;replace lx:=zH lx;replace ly:=zH ly;replace bx:=zH bx;replace by':=zH by'
 replace Ax:=zH Ax;replace hTl:=zH hTl;replace hTb:=zH hTb;replace hTd:=zH hTd;replace hgx:=zH hgx;replace hgy:=zH hgy;replace lZ:=zH lZ;replace ZK:=zH ZK;replace c1:=zH c1;replace hT':=zH hT';go_enter Tryz.func100,Tryz.ntmps100;go_upto_region 1 with fail
 refine bZ (fun W aB k1 k2 k4 kb=>?_);have k4:Arr W (w.heap.size+1+1) (ay 0):=k4;have lt1:=k1.lt;have lt2:=k2.lt;have lt4:=k4.lt;have kG:Arr W _ (el (gS 32 qN)):=kG.below kb;have ltG:=kG.lt;clear aB;go_upto_region 2 with fail
 refine aH (fun w9 ie k5 fO=>?_);obtain⟨k1,k2,k4,kG⟩:=kJ k1 k2 k4 kG fO;have kb:=az kb fO;generalize W.heap.size=g at k5 lt1 lt2 lt4 ltG⊢;have k5:Arr w9 g (iu (kf xs ys 0)):=k5;clear ie fO;go_wp2_with fail;go_loopw[6] (fun iv wr=>∃i:Nat,i≤32∧iv=.int .i64 i∧Arr wr w.heap.size (ay a)∧Arr wr (w.heap.size+1) (ay b)∧Arr wr (w.heap.size+1+1) (ay 0)∧Arr wr g (iu (kf xs ys i))∧Arr wr 7 (el (gS 32 qN))∧Below w.heap.size w wr) (fun iv _=>32-(intOf iv).toNat)
 case atStart=>exact⟨0,by omega,rfl,k1,k2,k4,k5,kG,kb⟩
 case round=>
  clear k1 k2 k4 k5 kG kb;obtain⟨i,hi,rfl,k1,k2,k4,k5,kG,kb⟩:=hrel
  by_cases bK:i<32
  ·rw[←o7 xs ys i (kf xs ys i)]at k5;have tl:=rb xs ys i;obtain⟨t0,zu⟩:=zX (kf xs ys i);have Ax:=Ax.out i;rw[zu]at k5 tl Ax;have fR:=pe xs ys i;rw[zu]at fR;obtain⟨x,UA⟩:=zX (xs.getD i 0);have gx:=hgx.out i bK;rw[UA]at gx;have GE:x≤255:=(by have:=bx.out i;omega);replace gx:=zH gx;replace UA:=zH UA;replace fR:=zH fR;replace zu:=zH zu;replace tl:=zH tl;replace Ax:=zH Ax;have iw7:(i:Int)<32:=zOm;go_wp2_with fail;go_loopw[7] (fun kv wr=>∃j:Nat,j≤32∧kv=.int .i64 j∧Arr wr w.heap.size (ay a)∧Arr wr (w.heap.size+1) (ay b)∧Arr wr (w.heap.size+1+1) (ay 0)∧Arr wr g (iu (mZ xs ys i j t0))∧Arr wr 7 (el (gS 32 qN))∧Below w.heap.size w wr) (fun kv _=>32-(intOf kv).toNat)
   case atStart=>exact⟨0,by omega,rfl,k1,k2,k4,k5,kG,kb⟩
   case round=>
    clear k1 k2 k4 k5 kG kb;obtain⟨j,hj,rfl,k1,k2,k4,k5,kG,kb⟩:=hrel
    by_cases hltj:j<32
    ·obtain⟨y,Hy⟩:∃y,ys.getD j 0=y:=⟨_,rfl⟩;have gy:=hgy.out j hltj;have tG:y≤255:=(by have:=by'.out j;omega);have ep:=o5 xs ys i j t0;have Qo:=Ax.out j;have tl':=qV xs ys i t0 j;rw[tl.out]at tl';obtain⟨t,ht⟩:=zX (mZ xs ys i j t0);rw[ht]at k5 ep Qo tl';rw[Hy]at gy ep;rw[UA.out]at ep;obtain⟨z,hz⟩:=zX (t.getD (i+j) 0);have gz:=eH (dE (xs:=t) (i:=i+j) (by rw[tl'];omega));have hbz:z≤130000000:=(by have:=Qo (i+j);omega);rw[hz]at gz;have qk:=Rz GE tG;obtain⟨p,hp⟩:=zX (x*y);rw[hp]at qk;have JU:t.set (i+j) (z+p)=mZ xs ys i (j+1) t0:=(by rw[ep];unfold Gy;rw[hz,hp]);have QX:(x:Int)*(y:Int)=(p:Int):=zcI;have iwx:IntKind.i64.wrap (x:Int)=(x:Int):=i64_in zOm;have iwy:IntKind.i64.wrap (y:Int)=(y:Int):=i64_in zOm;have iw1:IntKind.i64.wrap (p:Int)=(p:Int):=i64_in zOm;have iw2:IntKind.i64.wrap ((z:Int)+(p:Int))=(z:Int)+(p:Int):=i64_in zOm
     have iw3:IntKind.i64.wrap ((i:Int)+(j:Int))=(i:Int)+(j:Int):=i64_in zOm;have iw4:((i:Int)+(j:Int)).toNat=i+j:=zOm;have iw5:(0:Int)≤(i:Int)+(j:Int):=zOm;have iw6:(i:Int)+(j:Int)<64:=zOm;have iw8:(j:Int)<32:=zOm;replace hp:=zH hp;replace QX:=zH QX;replace hz:=zH hz;replace JU:=zH JU;replace gz:=zH gz;replace gy:=zH gy;replace Hy:=zH Hy;replace ht:=zH ht;clear ep Qo tl';go_upto_region 8 with(first|refine aR ?_|refine aU ?_)
     refine cH 19 20 fun aP=>?_;refine dz ?_ 1 524287 zaD [0,1,2,3,4,5,6,7,8,9,10,11,12,13,14,15,16,17,18] (fun w' hB=>by have e0:=k1.below hB;have e1:=k2.below hB;have e2:=k4.below hB;have e3:=k5.below hB;have e4:=kG.below hB;have c1:=(k1.below hB).cell gx.out;have c2:=(k2.below hB).cell gy.out;have c3:=(k5.below hB).cell gz.out;have c4:=QX.out;exact zRd) ?_;obtain⟨k1,k2,k4,k5,kG⟩:=uk k1 k2 k4 k5 kG aP;have kb:=az kb aP;have bo:=k5.cell gz.out;have bT:=fun j=>k5.frozen j;refine bf 1048575 rfl zDk (fun K hK=>?_);go_simp;refine hK (fun _=>True) 9999 _ _ ?_;clear hK K;try simp only[Act.put]
     try simp only[zSa,zSz,zSs]
     refine ap zKr ?_
     first|refine i6 k5 (fun i8 k5 ad ak=>?_)|refine jC k5 (fun i8 k5 ad ak=>?_)
     obtain⟨k1,k2,k4,kG⟩:=MQ ad k1 k2 k4 kG;have kb:=ak _ _ zOm kb;clear ad ak;clear bo bT;have e9:(z:Int)+(p:Int)=((z+p:Nat):Int):=(Int.natCast_add z p).symm;rw[e9,iD,JU.out]at k5;clear iw1 iw2 iw3 iw4 iw5 iw6 iwx iwy e9;go_wp2_with fail;exact⟨⟨j+1,by omega,by go_num,k1,k2,k4,k5,kG,kb⟩,by simp[intOf];omega⟩
    ·obtain rfl:j=32:=zOm;rw[←fR.out]at k5;go_wp2_with fail;exact⟨⟨i+1,by omega,by go_num,k1,k2,k4,k5,kG,kb⟩,by simp[intOf];omega⟩
  ·have Zt:i=32:=zOm;rw[hT'.out i Zt]at k5;subst Zt;have lt5:=k5.lt;have ltG:=kG.lt;have lt4:=k4.lt;clear hT' Ax bx by' lx ly hgx hgy
   go_upto_region 10 with fail
   refine aH (fun w9 ie k8 fO=>?_);obtain⟨k4,k5,kG⟩:=dZ k4 k5 kG fO;have kb:=az kb fO;generalize wr.heap.size=h at k8 lt5 lt4 ltG⊢;have k8:Arr w9 h (ea 0 (ag 64 P) (ag 64 0)):=(by rw[lZ.out];exact k8);clear ie fO k1 k2;go_wp2_with fail;go_loopw[10,9] (fun kv cv wr=>∃k c:Nat,k≤64∧kv=.int .i64 k∧cv=.int .i64 c∧val 256 (T.take k)/256^k=c∧c≤67000000∧Arr wr (w.heap.size+1+1) (ay 0)∧Arr wr g (iu T)∧Arr wr h (ea k (ag 64 P) (ag 64 0))∧Arr wr 7 (el (gS 32 qN))∧Below w.heap.size w wr) (fun kv _ _=>64-(intOf kv).toNat)
   case atStart=>exact⟨0,0,by omega,rfl,rfl,by simp[val],by omega,k4,k5,k8,kG,kb⟩
   case round=>
    clear k4 k5 k8 kG kb;obtain⟨k,c,hk,rfl,rfl,hc,qQ,k4,k5,k8,kG,kb⟩:=hrel
    by_cases bK:k<64
    ·obtain⟨x,hx⟩:∃x,T.getD k 0=x:=⟨_,rfl⟩;have GE:x≤66585600:=(by have:=hTb.out k;omega);obtain⟨hd,hs⟩:=hTd.out k bK;rw[hc,hx]at hd hs;have gx:=eH (dE (xs:=T) (i:=k) (by rw[hTl.out];exact bK));rw[hx]at gx;have dF:(ag 64 P).length=(ag 64 0).length:=za3;have g8:(ea k (ag 64 P) (ag 64 0))[k]? =some (.int .u8 0):=by
      exact zfA
     have gP:=bX 64 P k zOm;rw[←hd]at gP;have aL:=fE dF gP;have bo:=k8.cell g8;have bT:=k8.frozen k;have ahm:=k5.cell gx;have mJ:=nC ((c:Int)+(x:Int));have iw1:IntKind.i64.wrap ((c:Int)+(x:Int))=(c:Int)+(x:Int):=i64_in zOm;have e9:((c:Int)+x)%256=(((c+x)%256:Nat):Int):=zOm;replace e9:=zH e9;replace gx:=zH gx;replace g8:=zH g8;replace gP:=zH gP;replace aL:=zH aL;replace hd:=zH hd;replace hs:=zH hs;replace hc:=zH hc;replace hx:=zH hx;go_wp2_with fail;refine⟨⟨k+1,(c+x)/256,by omega,by go_num,by rw[show((c:Int)+x)/256=(((c+x)/256:Nat):Int) by omega],hs.out,by omega,k4.other zab _,k5.other zab _,?_,kG.other zab _,kb.setCell zab _⟩,by simp[intOf];omega⟩;have:=k8.set k (.int .u8 (((c:Int)+x)%256));exact zfi
    ·obtain rfl:k=64:=zOm;rw[ZK.out]at k8;go_wp2_with fail;refine zQ (c1.out _ _ k8 kG) fun jF dc=>?_;have k4:=k4.below dc;have kb:=az kb dc;clear dc;go_wp2_with(refine aU ?_);exact bodyPost_ret (aj Tryz.results100 _ _ _ rfl zKr _ zaE zLn) rfl ⟨rfl,ah kb zOm _⟩
theorem Rx (d:Option Addr) (cap:Nat) (ls:List (List UInt8)) (hf:ls.flatten.length≤2^40) (w:World) (hs:Sls w (.slice d ls.length cap) ls):
 Calls Tryz.prog 156 #[.slice d ls.length cap] w fun e w'=>∃v,e=.returned v∧Sl w' v (aJ ls.flatten)∧Below w.heap.size w w':=by
 obtain⟨i,hi,jN,jA,jB⟩:=info_parts ig;have aI:=hs.len;obtain⟨-,NF,ye⟩:=aI;unfold maxLen at ye;have Az:∀j,j<ls.length→(ls.take (j+1)).flatten.length≤2^40:=fun j _=>by
  have h2:ls.flatten=(ls.take (j+1)).flatten++(ls.drop (j+1)).flatten:=(by rw[←List.flatten_append,List.take_append_drop]);rw[h2,zA5]at hf;omega
 replace hs:=zH hs;replace Az:=zH Az;clear hf;go_enter Tryz.func156,Tryz.ntmps156;go_wp2_with fail;go_loopw[3,4] (fun v jv wr=>∃j:Nat,j≤ls.length∧jv=.int .i64 j∧Below w.heap.size w wr∧wr.ownsRow w.heap.size 5 1 v (ls.take j).flatten.length (aJ (ls.take j).flatten)) (fun _ jv _=>ls.length-(intOf jv).toNat)
 case atStart=>exact⟨0,zA28 _,rfl,zA6 _ _,World.ownsRow_nil _ _ _ _⟩
 case round=>
  obtain⟨j,hj,rfl,kb,cf⟩:=hrel
  by_cases bK:j<ls.length
  ·have hb2:=kb.size;obtain⟨b,o,x,c,rfl,cZ,dI⟩:=(hs.out.below kb).at bK;have e1:=kS bK;have e2:=Az.out j bK;rw[e1,zA5]at e2;obtain⟨m,hm⟩:=zX (ls[j]);obtain⟨T,hT⟩:=zX ((ls.take j).flatten);rw[hm]at cZ dI e1 e2;rw[hT]at cf e1 e2;have dI:=zH dI;have cf:=zH cf;have e1:=zH e1;clear hT;replace hm:=zH hm;go_wp2_with(at_builtin;(refine Lb rfl _ _ 24 rfl w.heap.size 5 Tryz.underlying24 hi jN jA jB rfl _ _ _ rfl cf.out _ (aJ m) rfl dI.out (dr _) ?c7 ?c8 ?c9 ?_))
   case c7=>rw[ai];unfold maxLen;omega
   case c8=>rw[ai];omega
   case c9=>exact hb2
   intro v' w' B9 hg;have kb3:Below w.heap.size w w':=f9 kb cf.out hb2 hg;rw[←bE,ai,←zA5,←e1.out]at B9;replace B9:=zH B9;clear cf dI hg;go_wp2_with fail;exact⟨⟨j+1,by omega,by go_num,kb3,B9.out⟩,by simp[intOf];omega⟩
  ·obtain rfl:j=ls.length:=zOm;rw[List.take_length]at cf;have dI:=zH (Sl.of_own cf);replace cf:=zH cf;go_wp2_with fail;go_ret;exact⟨_,rfl,dI.out,kb⟩
structure Gl (w:World):Prop where
 a:Arr w 0 (ws ju)
 b:Arr w 5 (wd nE)
 o:Arr w 7 (el (gS 32 qN))
 r:Arr w 6 (el (dQ iN))
 x:Arr w 1 (el (dQ MY))
 y:Arr w 2 (el (dQ MZ))
 d:Arr w 4 (el (dQ dN))
theorem Gl.below {w w':World} (h:Gl w) (hb:Below w.heap.size w w'):Gl w':=⟨h.a.below hb,h.b.below hb,h.o.below hb,h.r.below hb,h.x.below hb,h.y.below hb,h.d.below hb⟩
theorem WZ {a b:List UInt8} (h:aJ a=aJ b):a=b:=by
 refine(List.map_inj_right (fun x y h=>?_)).1 h;simp only[Value.int.injEq,true_and]at h;exact UInt8.toNat_inj.1 zOm
theorem M2 (X:Nat):(ag 64 X).drop 32=ag 32 (X/256^32):=by
 apply List.ext_getElem?;intro j;rw[List.getElem?_drop]
 by_cases hj:j<32
 ·rw[bX _ _ _ zOm,bX _ _ _ hj,zA22,Nat.pow_add]
 ·rw[zA13 za4,zA13 za4]
theorem C1 (K:Nat) (w:World) (g:Gl w):
 Calls Tryz.prog 59 #[.agg (ay K).toArray] w fun e w'=>∃v,e=.returned (.tuple #[.agg (ay (pE K)).toArray,v])∧OB w.heap.size w' v (tn K)∧Below w.heap.size w w':=by
 obtain⟨N,hN⟩:=zX (Ti K);have cS:Hid (∀(w:World) g,Sl w (.slice (some ⟨g,0,none⟩) 32 32) (aJ (nb 32 K))→Arr w 5 (wd nE)→CB 101 #[.slice (some ⟨g,0,none⟩) 32 32] w (.agg (ag 64 N).toArray)):=zH (fun w g h1 h2=>by
  have q:=Iq (some ⟨g,0,none⟩) 32 (nb 32 K) zck w zbX h2;rw[aC,show tm (nb 32 K)=N from hN]at q;exact q)
 have cC:=zH (fun w=>CO (N%256^32) (zA1 _ zDc) w);rw[show dD (N%256^32)=pE K by rw[pE,hN]]at cC;rw[show tn K=nb 32 (N/256^32) by rw[tn,hN]];obtain⟨C,hC⟩:=zX (pE K);rw[hC]at cC⊢;have hKe:=zH (D4 N);obtain⟨A,hA⟩:=zX (N%256^32);rw[hA]at cC hKe;have hDe:=zH (M2 N);obtain⟨B,hB⟩:=zX (N/256^32);rw[hB]at hDe⊢;replace g:=zH g;clear hN hC hA hB;go_enter Tryz.func59,Tryz.ntmps59;go_upto_region 1 with fail
 refine be (fun w1 aB k1 k2 kb=>?_);have h1:Sl w1 (.slice (some ⟨w.heap.size,0,none⟩) 32 32) (aJ (nb 32 K)):=Sl.ofArrN (by rw[←fB];exact k1) (aC _ _) zDc;have k2:Arr w1 (w.heap.size+1) (ay 0):=k2;clear aB k1;go_wp2_with fail;refine zQ (cS.out _ _ h1 (g.out.below kb).b) fun w2 hb=>?_;replace k2:=k2.below hb;replace kb:=az kb hb;clear hb h1 cS;go_upto_region 2 with(refine aD rfl _ _ _ rfl _ (ag 64 N) rfl rfl _ (Arr.new _ _ _) zbx zbR (bm _ _) (fun w3 k4 hg aB=>?_))
 have hb:=a9 hg;have l2:=k2.lt;replace k2:=k2.below hb;replace kb:=az kb hb;obtain⟨g4,mT⟩:=zX w2.heap.size;rw[mT]at k4 l2⊢;clear hb hg aB mT;go_upto_region 3 with fail
 refine aH (fun w4 aB k5 hb=>?_);replace k5:Arr w4 w3.heap.size (ag 32 0):=k5;have l4:=k4.lt;replace k2:=k2.below hb;replace k4:=k4.below hb;replace kb:=az kb hb;obtain⟨g5,jJ⟩:=zX w3.heap.size;rw[jJ]at k5 l4⊢;clear aB hb jJ;have hS:Below w4.heap.size w4 w4.drew:=(zA6 _ _).drew;have h64:∀w',Arr w' g4 (ag 64 N)→Sl w' (.slice (some ⟨g4,0,none⟩) (nb 64 N).length 64) (aJ (nb 64 N)):=fun w' h=>by rw[aC];rw[eB]at h;exact Sl.ofArrN h (aC 64 N) zDc
 have s9:Sl w4.drew (.slice (some ⟨g4,0,none⟩) 32 64) (ag 32 A):=by
  have:=(h64 _ (k4.below hS)).head (m:=32) zck;rw[←hKe.out,eB,aJ,←List.map_take];exact this
 refine eC (fun w'=>Below w4.heap.size w4 w') 2 3 rfl zKr ?_;refine dz ?_ 1 3 zcr [0,1] (fun _ _=>zRd) ?_;refine bf 7 rfl zDk (fun K hK=>?_);refine gf rfl _ _ 24 24 rfl 5 Tryz.underlying24 zKr g5 0 32 32 rfl _ (k5.below hS) zb8 _ rfl _ s9 (bm _ _) ?_;rw[List.take_zero,List.nil_append,zA8 (by rw[aa];exact zA0 _),aa,List.drop_eq_nil_of_le zb8,zA31];have hg:=mW w4.drew g5 (ag 32 A).toArray;replace k5:=(k5.below hS).setRow (ag 32 A);replace k2:=(k2.below hS).kept hg zOm;replace k4:=(k4.below hS).kept hg zOm;replace kb:=aq (az kb hS) hg zOm (az kb hS).size;clear hS s9 hKe;generalize w4.drew.setRow g5 (ag 32 A).toArray=w5 at*;refine hK (fun _=>True) 9999 _ _ ?_;clear hK K;try simp only[Act.put]
 try simp only[zSa,zSz,zSs]
 refine ap zKr ?_;clear hg;have h4:=zH (fun w' (hb:Below w5.heap.size w5 w')=>(h64 _ (k4.below hb)).tail (m:=32) zck);rw[show(nb 64 N).drop 32=nb 32 B by
  have:=hDe.out;rw[eB,eB,aJ,←List.map_drop]at this;exact WZ this]at h4
 rw[aC]at h4;clear h64 k4 hDe;rw[←dJ]at k5;have hw5:=k5.lt;go_upto_region 4 with fail
 refine cH 4 6 fun aP=>?_;refine eZ ?_ 4 5 zaD [0,2] (fun w' hB=>by have y5:=k5.below hB;exact zRd) ?_;refine eg 1 7 aP cC.out fun i8 bn=>?_;refine aY 3 15 rfl zDk (fun K hK=>?_);refine kH rfl ?_;refine tS (W:=w5) rfl _ _ rfl rfl rfl (OB.nil _ _) (h4.out _ bn) bn zck (fun v w6 o3 nj=>?_);refine hK _ _ _ nj (fun _ h=>h) ?_;rw[List.nil_append]at o3;obtain⟨gv,cv,rfl,hgv,-⟩:=o3.rng zck;rw[aC]at o3⊢;replace k2:=k2.below nj;replace kb:=az kb nj;clear bn nj k5 h4 cC;refine bf 31 rfl zDk (fun K hK=>?_);refine gg rfl _ _ _ rfl (w.heap.size+1) (ay C) rfl rfl _ k2 zam (by rw[aZ,aZ]) (jO _) (fun w7 k2 hg aB=>?_);replace o3:OB _ w7 _ _:=fH o3 hg zcp;replace kb:=aq kb hg zOm kb.size;refine hK (fun _=>True) 9999 _ _ ?_;clear hK K;try simp only[Act.put]
 try simp only[zSa,zSz,zSs]
 refine eZ ?_ 0 63 zaC [5] (fun _ _=>zRd) ?_;refine ap zKr ?_;go_wp2_with fail;exact bodyPost_ret (aT Tryz.results59 _ _ _ _ rfl Tryz.underlying27 rfl (ay C) k2 zam _ rfl) rfl ⟨_,rfl,o3.mono zOm,kb⟩
theorem th (K:Nat) (w:World) (g:Gl w):
 CB 33 #[.agg (ay K).toArray] w (.agg (ay (ev K)).toArray):=by
 obtain⟨WB,hWB,cB⟩:=My;have cP:=zH (fun w g=>C1 K w g);have cM:=zH (fun w kD=>EG Bk hWB (pE K) w kD);have cW:Hid (∀(V:Rq),V.is (iC bP (pE K) 256)→∀w,CB 60 #[.agg (rq V).toArray] w (.agg (ay (ev K)).toArray)):=zH (fun V h w=>xu h w);replace cB:=zH cB;obtain⟨T,hT⟩:=zX (iC bP (pE K) 256);rw[hT]at cM cW;obtain⟨C,hC⟩:=zX (pE K);rw[hC]at cP cM;obtain⟨R,hR⟩:=zX (ev K);rw[hR]at cW⊢;replace g:=zH g;clear hT hC hR hWB;go_enter Tryz.func33,Tryz.ntmps33;go_upto_region 1 with fail
 refine be (fun w1 aB k1 k2 kb=>?_);have k2:Arr w1 (w.heap.size+1) (ay 0):=k2;clear aB;go_wp2_with(refine aR ?_);refine(cP.out _ (g.out.below kb)).mono ?_;rintro e w2 ⟨v,rfl,-,hb⟩;replace k2:=k2.below hb;replace kb:=az kb hb;clear hb cP k1;go_upto_region 2 with(first|refine aR ?_|refine aU ?_)
 have jp:=k2.lt;refine aK (fun jF k3 aA=>?_);have k2:=k2.below aA;have kb:=az kb aA;clear aA;generalize (w2).heap.size=sm at k3 jp⊢;have g3:=zH (g.out.below kb);go_upto_region 2 with fail
 refine cH 4 5 fun b9=>?_;refine eZ ?_ 4 2 zaJ [1] (fun w' hB=>by have y3:=k3.below hB;exact zRd) ?_;refine eg 0 3 b9 (cB.out _ (g3.out.below b9).x (g3.out.below b9).y) fun m9 di=>?_;refine aY 2 7 rfl zDk (fun K hK=>?_);go_simp;refine(cM.out _ (g3.out.below di).d).mono ?_;rintro e qD ⟨V,rfl,hV,ia⟩;have dV:=aW di (zA0 _) ia;refine hK (fun w'=>Below (jF).heap.size (jF) w') _ _ dV (fun _ h=>h) ?_;clear hK K di;try simp only[Act.put,zSa,zSz,zSs]
 refine eg 3 15 dV (cW.out V hV) fun uG iB=>?_;have k2:=k2.below iB;have kb:=az kb iB;refine kO 31 ?_;refine ap zKr ?_
 first|refine aV k2 (fun rY k2 ad ak=>?_)|refine eu k2 (fun rY k2 ad ak=>?_)
 have kb:=ak _ _ zOm kb;clear ad ak;go_wp2_with fail;exact bodyPost_ret (aj Tryz.results33 _ _ _ rfl zKr _ k2 zam) rfl ⟨rfl,kb⟩
theorem EK (d:Option Addr) (n c:Nat) (ls:List (List UInt8)) (hn:ls.length=n) (hf:ls.flatten.length≤1000000) (w:World) (hs:Sls w (.slice d n c) ls) (g:Gl w):
 CB 98 #[.slice d n c] w (.agg (ay (tm ls.flatten%qN)).toArray):=by
 subst hn;have cJ:=zH (fun w h=>Rx d c ls (zA14 hf zDc) w h);have cS:=zH (fun(w:World) a c h1 h2=>Iq a c ls.flatten zOm w h1 h2);obtain⟨N,hN⟩:=zX (tm ls.flatten);have hN64:N<256^64:=(by rw[←hN];exact MG _);have hv:val 256 (((nb 64 N).take 64).map (·.toNat))=N:=by
  rw[zA8 (by rw[aC];exact zA0 _)];have e:(nb 64 N).map (·.toNat)=bF 256 64 N:=by
   rw[nb,List.map_map];refine(List.map_congr_left (fun x hx=>?_)).trans (List.map_id _);simp only[bF,List.mem_map]at hx;obtain⟨i,-,rfl⟩:=hx;simp
  rw[e,ir,zA4 hN64]
 rw[hN]at cS⊢;have cR:Hid (∀(w:World) g,Sl w (.slice (some ⟨g,0,none⟩) 64 64) (aJ (nb 64 N))→Arr w 7 (el (gS 32 qN))→CB 157 #[.slice (some ⟨g,0,none⟩) 64 64] w (.agg (ay (N%qN)).toArray)):=zH (fun w g h1 h2=>by
  have q:=xp (some ⟨g,0,none⟩) 64 64 (nb 64 N) w h1 h2;rwa[hv]at q)
 obtain⟨M,hM⟩:=zX (N%qN);rw[hM]at cR⊢;replace g:=zH g;replace hs:=zH hs;obtain⟨L,hL⟩:=zX ls.flatten;rw[hL]at cJ cS;obtain⟨m,hm⟩:=zX ls.length;rw[hm]at cJ hs⊢;clear hN hN64 hv hM hf hL hm;go_enter Tryz.func98,Tryz.ntmps98;go_upto_region 1 with fail
 refine aH (fun w1 aB k2 kb=>?_);have k2:Arr w1 w.heap.size (ay 0):=k2;clear aB;go_wp2_with fail;refine(cJ.out _ (hs.out.below kb)).mono ?_;rintro e w2 ⟨v,rfl,hv,hb⟩;replace k2:=k2.below hb;replace kb:=az kb hb;obtain⟨av,cv,rfl,lP⟩:=id hv;clear hb cJ;go_wp2_with fail;rw[ai]at hv⊢;refine zQ (cS.out _ _ _ hv (g.out.below kb).b) fun w3 hb=>?_;replace k2:=k2.below hb;replace kb:=az kb hb;clear hb hv lP cS;go_upto_region 2 with(refine aD rfl _ _ _ rfl _ (ag 64 N) rfl rfl _ (Arr.new _ _ _) zbx zbR (bm _ _) (fun w4 k3 hg aB=>?_))
 have hb:=a9 hg;replace k2:=k2.below hb;replace kb:=az kb hb;obtain⟨g3,kZ⟩:=zX w3.heap.size;rw[kZ]at k3⊢;clear hb hg aB kZ;rw[eB]at k3;have h3:=zH (Sl.ofArrN k3 (aC 64 N) zDc);go_wp2_with fail;refine zQ (cR.out _ _ h3.out (g.out.below kb).o) fun w5 hb=>?_;replace k2:=k2.below hb;replace kb:=az kb hb;clear hb h3 k3 cR;go_wp2_with(refine aU ?_);exact bodyPost_ret (aj Tryz.results98 _ _ _ rfl zKr _ zaE zLn) rfl ⟨rfl,ah kb (zA0 _) _⟩
end Go.Proofs.YtgfkgolafkdjfaaGreatDoor
