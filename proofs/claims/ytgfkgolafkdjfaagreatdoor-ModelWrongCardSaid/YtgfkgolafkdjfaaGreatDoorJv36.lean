/- ModelWrong: part 36 of its proof: lemmas and contracts, each with its conditions in its own statement; the last part holds the law itself. -/
import Derived.Test.YtgfkgolafkdjfaaGreatDoorJv35

set_option maxHeartbeats 4000000
set_option maxRecDepth 100000
namespace Go.Proofs.YtgfkgolafkdjfaaGreatDoor
open Go.RowKit
def xT (a b:Nat):Nat:=(a ^^^b)%18446744073709551616
def GM (a b:Nat):Nat:=(a &&&b)%18446744073709551616
def orb (a b:Nat):Nat:=(a |||b)%18446744073709551616
def un (a b:Nat):Nat:=(a+b)%18446744073709551616
def ntb (a:Nat):Nat:=(18446744073709551615 ^^^a)%18446744073709551616
def srb (a d:Nat):Nat:=a/d
theorem Yp (a b:Nat):bits .xor .u64 (a:Int) (b:Int)=((xT a b:Nat):Int):=by
 show IntKind.u64.wrap ((BitVec.ofInt 64 (a:Int) ^^^BitVec.ofInt 64 (b:Int)).toNat:Int)=_
 rw[BitVec.toNat_xor,BitVec.ofInt_natCast,BitVec.ofInt_natCast,BitVec.toNat_ofNat,BitVec.toNat_ofNat,i5,←Nat.xor_mod_two_pow,show(2:Nat)^64=18446744073709551616 from rfl,Nat.mod_mod,xT]
theorem Xh (a b:Nat):bits .and .u64 (a:Int) (b:Int)=((GM a b:Nat):Int):=by
 show IntKind.u64.wrap ((BitVec.ofInt 64 (a:Int) &&&BitVec.ofInt 64 (b:Int)).toNat:Int)=_
 rw[BitVec.toNat_and,BitVec.ofInt_natCast,BitVec.ofInt_natCast,BitVec.toNat_ofNat,BitVec.toNat_ofNat,i5,←Nat.and_mod_two_pow,show(2:Nat)^64=18446744073709551616 from rfl,Nat.mod_mod,GM]
theorem aet (a b:Nat):bits .or .u64 (a:Int) (b:Int)=((orb a b:Nat):Int):=by
 show IntKind.u64.wrap ((BitVec.ofInt 64 (a:Int) |||BitVec.ofInt 64 (b:Int)).toNat:Int)=_
 rw[BitVec.toNat_or,BitVec.ofInt_natCast,BitVec.ofInt_natCast,BitVec.toNat_ofNat,BitVec.toNat_ofNat,i5,←Nat.or_mod_two_pow,show(2:Nat)^64=18446744073709551616 from rfl,Nat.mod_mod,orb]
theorem aep (x:Nat):bits .xor .u64 (if IntKind.u64.signed=true then -1 else IntKind.u64.max) (x:Int)=((ntb x:Nat):Int):=by
 show bits .xor .u64 ((18446744073709551615:Nat):Int) (x:Int)=_
 rw[Yp,xT,ntb]
theorem ab8 (a b:Nat):IntKind.u64.wrap ((a:Int)+(b:Int))=((un a b:Nat):Int):=by rw[show(a:Int)+(b:Int)=((a+b:Nat):Int) by simp,i5,un]
theorem Px (a b:Nat):un a b=(a+b)%18446744073709551616:=rfl
def R2b:Prop:=(∀a b:Nat,bits .xor .u64 (a:Int) (b:Int)=((xT a b:Nat):Int))∧(∀a b:Nat,bits .and .u64 (a:Int) (b:Int)=((GM a b:Nat):Int))∧(∀a b:Nat,bits .or .u64 (a:Int) (b:Int)=((orb a b:Nat):Int))∧
 (∀x:Nat,bits .xor .u64 (if IntKind.u64.signed=true then -1 else IntKind.u64.max) (x:Int)=((ntb x:Nat):Int))∧(∀a b:Nat,IntKind.u64.wrap ((a:Int)+(b:Int))=((un a b:Nat):Int))
theorem r2b:R2b:=⟨Yp,Xh,aet,aep,ab8⟩
theorem oJ {a b:Nat} (ha:a<18446744073709551616) (hb:b<18446744073709551616):xT a b=a ^^^b:=zA4 (zA29 (n:=64) ha hb)
theorem Bj {a b:Nat} (ha:a<18446744073709551616):GM a b=a &&&b:=zA4 (zA9 Nat.and_le_left ha)
theorem aau {a:Nat} (ha:a<18446744073709551616):ntb a=18446744073709551615 ^^^a:=zA4 (zA29 (n:=64) zDc ha)
theorem Tt {a:Nat} (h:a<18446744073709551616) (d:Nat):srb a d<18446744073709551616:=zA9 (zA21 _ _) h
theorem WN {x:Nat} (h:x<18446744073709551616):xT (xT (rL x 63) (rL x 56)) (srb x 128)=OY x:=by
 have h1:=iY h 63;have h2:=iY h 56;rw[oJ h1 h2,oJ (zA29 (n:=64) h1 h2) (Tt h _)];rfl
theorem WP {x:Nat} (h:x<18446744073709551616):xT (xT (rL x 45) (rL x 3)) (srb x 64)=O0 x:=by
 have h1:=iY h 45;have h2:=iY h 3;rw[oJ h1 h2,oJ (zA29 (n:=64) h1 h2) (Tt h _)];rfl
theorem WJ {x:Nat} (h:x<18446744073709551616):xT (xT (rL x 50) (rL x 46)) (rL x 23)=DT x:=by
 have h1:=iY h 50;have h2:=iY h 46;rw[oJ h1 h2,oJ (zA29 (n:=64) h1 h2) (iY h _)];rfl
theorem WF {x:Nat} (h:x<18446744073709551616):xT (xT (rL x 36) (rL x 30)) (rL x 25)=Ix x:=by
 have h1:=iY h 36;have h2:=iY h 30;rw[oJ h1 h2,oJ (zA29 (n:=64) h1 h2) (iY h _)];rfl
theorem Wa {x0 x1 x2 x3 x4 x5 x6 x7 k w:Nat} (h0:x0<18446744073709551616) (h1:x1<18446744073709551616) (h4:x4<18446744073709551616):
 [un (un (un (un (un x7 (DT x4)) (xT (GM x4 x5) (GM (ntb x4) x6))) k) w) (un (Ix x0) (xT (xT (GM x0 x1) (GM x0 x2)) (GM x1 x2))),x0,x1,x2,
  un x3 (un (un (un (un x7 (DT x4)) (xT (GM x4 x5) (GM (ntb x4) x6))) k) w),x4,x5,x6]=Ko x0 x1 x2 x3 x4 x5 x6 x7 k w:=by
 have l1:∀ {a b:Nat},a<18446744073709551616→(a &&&b)<18446744073709551616:=fun h=>zA9 Nat.and_le_left h;have l2:(18446744073709551615 ^^^x4)<18446744073709551616:=zA29 (n:=64) zDc h4;rw[Bj h4,aau h4,Bj l2,Bj h0,Bj h0,Bj h1,oJ (l1 h4) (l1 l2),oJ (l1 h0) (l1 h0),oJ (zA29 (n:=64) (l1 h0) (l1 h0)) (l1 h1)];simp only[Px,Ko]
theorem Wu (q l7 p l16:Nat):un (un (un l16 p) l7) q=(q+l7+p+l16)%18446744073709551616:=by simp only[Px];omega
theorem mF (x n r:Nat) {N:Int} (hN:N=(n:Int)) (hx:x<18446744073709551616) (h0:0<n) (hn:n<64) (hr:rL x (64-n)=r) (w:World):
 CB 158 #[.int .u64 (x:Int),.int .u64 N] w (.int .u64 (r:Int)):=by
 obtain⟨m,hm⟩:=zX (64-n);have e1:(64:Int)-N=(m:Int):=zOm;have e2:IntKind.u64.wrap (m:Int)=(m:Int):=zak;have b1:(0:Int)≤N∧N<64∧(0:Int)≤(m:Int)∧(m:Int)<64:=zOm;have h2:bits .or .u64 ((x:Int)/2^n) (IntKind.u64.wrap ((x:Int)*2^m))=(r:Int):=by
  rw[iR,show((x:Int)/2^n)=((x/2^n:Nat):Int) by simp,show((x:Int)*2^m%18446744073709551616)=((x*2^m%18446744073709551616:Nat):Int) by simp,mt (zA9 (zA21 _ _) hx) (zA1 _ zDc),←hr,rL,hm,show 64-m=n by omega,Nat.or_comm]
 clear hr hm;subst hN;go_enter Tryz.func158,Tryz.ntmps158;exact zcX
theorem S8 (L:List UInt8):C0 128 16 L=rB L:=by
 simp[C0,rB,KM,DU]
theorem UL (x s:Nat):bits .and .u64 ((x:Int)/2^s) 255%256=((x/2^s%256:Nat):Int):=by
 rw[show(x:Int)/2^s=((x/2^s:Nat):Int) by simp,show(255:Int)=((255:Nat):Int)from rfl,Xh,GM,show 255=2^8-1 from rfl,Nat.and_two_pow_sub_one_eq_mod];omega
structure Kzb (w wr:World) (gr gh gm:Nat) (h:List Nat) (C:List Value):Prop where
 r:Arr wr gr (ag 64 0)
 h:Arr wr gh (wd h)
 m:Arr wr gm C
 k:Arr wr 5 (wd nE)
 b:Below w.heap.size w wr
theorem Kzb.below {w wr w':World} {gr gh gm:Nat} {h:List Nat} {C:List Value} (z:Kzb w wr gr gh gm h C) (hb:Below wr.heap.size wr w'):Kzb w w' gr gh gm h C:=⟨z.r.below hb,z.h.below hb,z.m.below hb,z.k.below hb,az z.b hb⟩
theorem Kzb.seth {w wr w':World} {gr gh gm:Nat} {h h':List Nat} {C:List Value} (z:Kzb w wr gr gh gm h C) (hg:wr.grownBy w' (some gh)) (k:Arr w' gh (wd h')) (h1:5<w.heap.size∧w.heap.size≤gr∧gr<gh∧gh<gm):Kzb w w' gr gh gm h' C:=
 ⟨z.r.kept hg zOm,k,z.m.kept hg zOm,z.k.kept hg zOm,aq z.b hg zOm z.b.size⟩
theorem Kzb.kept {w wr w':World} {gr gh gm g:Nat} {h:List Nat} {C:List Value} (z:Kzb w wr gr gh gm h C) (hg:wr.grownBy w' (some g)) (h1:5<w.heap.size∧w.heap.size≤gr∧gr<gh∧gh<gm∧gm<g):Kzb w w' gr gh gm h C:=
 ⟨z.r.kept hg zOm,z.h.kept hg zOm,z.m.kept hg zOm,z.k.kept hg zOm,aq z.b hg zOm z.b.size⟩
theorem Iq (a:Option Addr) (cap:Nat) (L:List UInt8) (hl:L.length≤1099511627776) (w:World) (hs:Sl w (.slice a L.length cap) (aJ L)) (kG:Arr w 5 (wd nE)):
 Calls Tryz.prog 101 #[.slice a L.length cap] w fun e w'=>e=.returned (.agg (ag 64 (tm L)).toArray)∧Below w.heap.size w w':=by
 have lG:=kG.lt;have hp:=zH (fun w hs=>Io 128 16 (Or.inr ⟨rfl,rfl⟩) a cap L hl w hs);rw[S8]at hp;have nu:=Tr L;have QU:(rB L).length≤1099511628400:=(by simp[rB,KM,DU,cg];omega);have hX:Ending.returned (.agg (ag 64 (m8 (ry (rB L) ((rB L).length/128)) 64)).toArray)=Ending.returned (.agg (ag 64 (tm L)).toArray):=rfl;obtain⟨X,hXX⟩:=zX (Ending.returned (.agg (ag 64 (tm L)).toArray));rw[hXX]at hX⊢;have hM0:0<(rB L).length:=(by simp[rB,cg]);obtain⟨M,hM⟩:=zX (rB L);rw[hM]at hp nu QU hX hM0;obtain⟨N,hN⟩:=zX M.length;rw[hN]at nu QU hX hM0;obtain⟨nb,ZM⟩:=zX (N/128);rw[ZM]at hX;have hNb:Hid (N=128*nb):=zH zOm;replace hX:=zH hX;replace hs:=zH hs;clear hM hXX nu ZM;replace hN:=zH hN;go_enter Tryz.func101,Tryz.ntmps101;go_upto_region 1 with fail
 refine aH (fun W aB kr kb=>?_);replace kr:Arr W w.heap.size (ag 64 0):=kr;clear aB;go_upto_region 2 with(first|(refine bi rfl _ _ rfl (wd C8).toArray zKr ?_)|(refine aD rfl _ _ _ rfl _ (wd C8) rfl rfl _ (Arr.new _ _ _) zKr zKr (vP _) (fun w1 kh hg aB=>?_)))
 have hb:=aq (ae W _) hg (zA0 _) zac;have lr:=kr.lt;replace kr:=kr.below hb;replace kb:=az kb hb;obtain⟨gh,Zp⟩:=zX W.heap.size;obtain⟨gr,Eh⟩:=zX w.heap.size;rw[Zp]at kh lr;rw[Eh]at kr lr;rw[Zp];rw[Eh];replace Eh:=zH Eh;have lh:=kh.lt;clear hb hg aB Zp;go_wp2_with fail;refine(hp.out _ (hs.out.below kb)).mono ?_;rintro e w2 ⟨v,rfl,ob,hb⟩;obtain⟨gm,c,rfl,hgm,jX,pH,-⟩:=ob.rng (by rw[hN.out];exact hM0);obtain⟨Cc,km,-,hCt⟩:=AS ob;have hC:Hid (∀j,j<N→Cc[j]? =some (.int .u8 ((M.getD j 0).toNat:Int))):=zH (fun j hj=>by
  have h1:=eY M j zcD;rw[←hCt,List.getElem?_take,if_pos zcD]at h1;rw[h1,zA10,zA7 zcD];rfl)
 have z:Kzb w w2 gr gh gm (ry M 0) Cc:=⟨kr.below hb,kh.below hb,km,(kG.below kb).below hb,az kb hb⟩;have hgs:5<w.heap.size∧w.heap.size≤gr∧gr<gh∧gh<gm:=(by have:=Eh.out;omega);rw[hN.out]at jX⊢;clear hp hs kr kh km kb hb ob hCt lr lh lG kG hgm;go_wp2_with fail;go_loopw[5] (fun fv wr=>∃i:Nat,i≤nb∧fv=.int .i64 ((128*i:Nat):Int)∧Kzb w wr gr gh gm (ry M i) Cc) (fun fv _=>N-(intOf fv).toNat)
 case atStart=>exact⟨0,by omega,rfl,z⟩
 case round=>
 clear z;obtain⟨i,hi,rfl,z⟩:=hrel;obtain⟨f,hf⟩:=zX (128*i);have ok:=rz M i;rw[hf]
 by_cases iS:i<nb
 ·have hfN:f+128≤N:=(by have:=hNb.out;omega);have hfI:(f:Int)<(N:Int):=zOm;have kQ:ry M (i+1)=DG (ry M i) ((M.drop f).take 128):=(by rw[ry,hf]);have ua:Hid (∀j,j<128→((M.drop f).take 128).getD j 0=M.getD (f+j) 0):=zH (fun j hj=>by rw[zA10,zA10,List.getElem?_take,if_pos hj,List.getElem?_drop]);obtain⟨h,hh⟩:=zX (ry M i);obtain⟨bs,hb⟩:=zX ((M.drop f).take 128);rw[hh]at z kQ ok;rw[hb]at kQ ua;replace kQ:=zH kQ;replace ok:=zH ok;clear hh hb;replace hf:=zH hf;go_upto_region 7 with fail
  refine aH (fun w6 aB kw hb=>?_);replace kw:Arr w6 wr.heap.size (wd (il bs (8*0))):=kw;have AN:=z.m.lt;replace z:=z.below hb;obtain⟨gw,vy⟩:=zX wr.heap.size;rw[vy]at kw AN⊢;have FE:5<w.heap.size∧w.heap.size≤gr∧gr<gh∧gh<gm∧gm<gw:=zOm;clear hb aB vy;go_wp2_with fail;go_loopw[7] (fun qv wr=>∃q:Nat,q≤16∧qv=.int .i64 q∧Arr wr gw (wd (il bs (8*q)))∧Kzb w wr gr gh gm h Cc) (fun qv _=>16-(intOf qv).toNat)
  case atStart=>exact⟨0,by omega,rfl,kw,z⟩
  case round=>
  clear kw z;obtain⟨q,hq,rfl,kw,z⟩:=hrel;have JR:(0:Int)≤(q:Int):=zOm
  by_cases hqn:q<16
  ·have wI:(q:Int)<16∧(q:Int)<80:=zOm;go_wp2_with fail;go_loopw[8] (fun pv wr=>∃p:Nat,p≤8∧pv=.int .i64 p∧Arr wr gw (wd (il bs (8*q+p)))∧Kzb w wr gr gh gm h Cc) (fun pv _=>8-(intOf pv).toNat)
   case atStart=>exact⟨0,by omega,rfl,kw,z⟩
   case round=>
   clear kw z;obtain⟨p,hp,rfl,kw,z⟩:=hrel;have ZP:(0:Int)≤(p:Int):=zOm
   by_cases hpn:p<8
   ·have Dt:(p:Int)<8:=zOm;have ok8:=tj bs (8*q+p);have cw:=i9 (l:=il bs (8*q+p)) (j:=q) (by rw[ok8.1];omega);have l0:(bs.getD (8*q+p) 0).toNat<256:=UInt8.toNat_lt _;have bI:(wd (il bs (8*q+p))).set q (.int .u64 ((((il bs (8*q+p)).getD q 0*256%18446744073709551616) |||(bs.getD (8*q+p) 0).toNat:Nat):Int))=wd (il bs (8*q+(p+1))):=by
     rw[zL,←Nat.add_assoc,il,show(8*q+p)/8=q by omega]
    have hlw:=zH (show(wd (il bs (8*q+p))).length=80 by rw[bV,ok8.1]);obtain⟨e,he⟩:=zX (f+8*q);obtain⟨k,hk⟩:=zX (e+p);have c0:Hid (Cc[k]? =some (.int .u8 ((bs.getD (8*q+p) 0).toNat:Int))):=zH (by rw[ua.out _ zOm,show k=f+(8*q+p) by omega];exact hC.out _ zOm);have fo:=mt (a:=(il bs (8*q+p)).getD q 0*256%18446744073709551616) (b:=(bs.getD (8*q+p) 0).toNat) (zA1 _ zDc) (zA25 l0 zDc);generalize (bs.getD (8*q+p) 0).toNat=b at*;generalize (il bs (8*q+p)).getD q 0=y at*;rw[show((y*256%18446744073709551616:Nat):Int)=IntKind.u64.wrap ((y:Int)*256) by rw[iR];omega]at fo;have fx:IntKind.u64.wrap (b:Int)=(b:Int):=CL zOm;have fk:(f:Int)+8*(q:Int)=(e:Int)∧(e:Int)+(p:Int)=(k:Int):=zOm;have k1:(0:Int)≤(k:Int)∧(k:Int)<(N:Int):=zOm;have m1:IntKind.i64.wrap (8*(q:Int))=8*(q:Int)∧IntKind.i64.wrap (e:Int)=(e:Int)∧IntKind.i64.wrap (k:Int)=(k:Int):=⟨i64_in zOm,i64_in zOm,i64_in zOm⟩
    generalize (y*256%18446744073709551616) |||b=r3 at fo bI;generalize il bs (8*q+p)=X at kw bI hlw cw;replace bI:=zH bI;replace cw:=zH cw;clear he hk l0 ok8;go_upto_region 13 with fail
    refine cH 17 18 fun aP=>?_;refine eZ ?_ 1 131071 zaD [0,1,2,3,4,5,6,7,8,9,10,11,12,13,14,15,16] (fun w' hB=>by have f0:=(z.m.below hB).cell c0.out;have f1:=(kw.below hB).cell cw.out;exact zRd) ?_;refine bf 262143 rfl zDk (fun K hK=>?_);replace kw:=kw.below aP;replace z:=z.below aP;clear aP;refine br rfl _ _ _ rfl gw q (.int .u64 (r3:Int)) rfl rfl _ kw zKr (by rw[hlw.out];omega) rfl (fun w5 kw hg aB=>?_);rw[bI.out]at kw;replace z:=z.kept hg FE;refine hK (fun _=>True) 9999 _ _ ?_;clear hK K;try simp only[Act.put]
    try simp only[zSa,zSz,zSs]
    refine ap zKr ?_;go_wp2_with fail;exact⟨⟨p+1,by omega,by go_num,kw,z⟩,by simp[intOf];omega⟩
   have XX:Hid (p=8):=zH zOm;have dj:decide ((p:Int)<8)=false:=decide_eq_false zOm;rw[XX.out]at kw;obtain⟨pc,L6⟩:∃pc:Int,(p:Int)=pc:=⟨_,rfl⟩;rw[L6]at dj⊢;clear L6 hpn hp ZP XX;exact zfk
  have hqe:Hid (q=16):=zH zOm;have dj:decide ((q:Int)<16)=false:=decide_eq_false zOm;rw[hqe.out]at kw;replace kw:Arr wr gw (wd (jV bs (16-16))):=kw;obtain⟨qc,hqc⟩:∃qc:Int,(q:Int)=qc:=⟨_,rfl⟩;rw[hqc]at dj⊢;clear hqc hqn hq hqe JR;go_wp2_with fail;clear dj;go_loopw[9] (fun tv wr=>∃t:Nat,16≤t∧t≤80∧tv=.int .i64 t∧Arr wr gw (wd (jV bs (t-16)))∧Kzb w wr gr gh gm h Cc) (fun tv _=>80-(intOf tv).toNat)
  case atStart=>exact⟨16,by omega,by omega,rfl,kw,z⟩
  case round=>
  clear kw z;obtain⟨t,zu,ht,rfl,kw,z⟩:=hrel;have mA:(0:Int)≤(t:Int):=zOm
  by_cases htn:t<80
  ·have ub:(t:Int)<80:=zOm;have okw:=oE bs (t-16);have bI:(wd (jV bs (t-16))).set t (.int .u64 ((Iv (jV bs (t-16)) t:Nat):Int))=wd (jV bs (t+1-16)):=by
    exact zfI
   obtain⟨l,hl⟩:=zX (jV bs (t-16));rw[hl]at kw okw bI;clear hl;obtain⟨t15,e15⟩:=zX (t-15);obtain⟨t2,e2⟩:=zX (t-2);obtain⟨t7,e7⟩:=zX (t-7);obtain⟨t16,e16⟩:=zX (t-16);have c15:=zH (i9 (l:=l) (j:=t15) zcE);have c2:=zH (i9 (l:=l) (j:=t2) zcE);have c7:=zH (i9 (l:=l) (j:=t7) zcE);have c16:=zH (i9 (l:=l) (j:=t16) zcE);have dI:Hid ((wd l).length=80):=zH (by rw[bV,okw.1]);have l15:=okw.2.get t15;have l2:=okw.2.get t2;rw[Iv,e15,e2,e7,e16]at bI;clear okw;generalize l.getD t15 0=x at*;generalize l.getD t2 0=y at*;generalize l.getD t7 0=x7 at*;generalize l.getD t16 0=x16 at*;have m15:(t:Int)-15=(t15:Int)∧(t:Int)-2=(t2:Int)∧(t:Int)-7=(t7:Int)∧(t:Int)-16=(t16:Int):=zOm;obtain⟨m15,m2,m7,m16⟩:=m15
   have v15:IntKind.i64.wrap (t15:Int)=(t15:Int)∧IntKind.i64.wrap (t2:Int)=(t2:Int)∧IntKind.i64.wrap (t7:Int)=(t7:Int)∧IntKind.i64.wrap (t16:Int)=(t16:Int):=⟨i64_in zOm,i64_in zOm,i64_in zOm,i64_in zOm⟩;have b15:(0:Int)≤(t15:Int)∧(0:Int)≤(t2:Int)∧(0:Int)≤(t7:Int)∧(0:Int)≤(t16:Int)∧(t15:Int)<80∧(t2:Int)<80∧(t7:Int)<80∧(t16:Int)<80:=zOm;have f1:=kw.cell c15.out;have f2:=kw.cell c2.out;clear e15 e2 e7 e16;obtain⟨p1,e1⟩:=zX (rL x 63);have p1c:=zH (fun w=>mF x 1 p1 rfl l15 zDc zDc e1 w);obtain⟨p2,e2⟩:=zX (rL x 56);have p2c:=zH (fun w=>mF x 8 p2 rfl l15 zDc zDc e2 w);obtain⟨p3,e3⟩:=zX (x/128);have pd:(x:Int)/128=(p3:Int):=zOm;have pf:xT (xT p1 p2) p3=OY x:=(by rw[←e1,←e2,←e3];exact WN l15);obtain⟨pz,ez⟩:=zX (OY x);rw[ez]at pf bI;clear e1 e2 e3 ez;obtain⟨q1,e1⟩:=zX (rL y 45);have q1c:=zH (fun w=>mF y 19 q1 rfl l2 zDc zDc e1 w);obtain⟨q2,e2⟩:=zX (rL y 3)
   have q2c:=zH (fun w=>mF y 61 q2 rfl l2 zDc zDc e2 w);obtain⟨q3,e3⟩:=zX (y/64);have qd:(y:Int)/64=(q3:Int):=zOm;have qf:xT (xT q1 q2) q3=O0 y:=(by rw[←e1,←e2,←e3];exact WP l2);obtain⟨qz,ez⟩:=zX (O0 y);rw[ez]at qf bI;clear e1 e2 e3 ez;rw[←Wu]at bI;replace bI:=zH bI;obtain⟨rx,-,-,-,rs⟩:=r2b;go_upto_region 19 with fail
   clear f1 f2 c15 c2;refine cH 29 30 fun bn=>?_;refine eZ ?_ 13 53202111 za0 [0,1,2,3,4,5,7,10,11,14,15,16,17,19,21,24,25] (fun w' hB=>by have f1:=(kw.below hB).cell c7.out;have f2:=(kw.below hB).cell c16.out;exact zRd) ?_;refine eg 6 53202175 bn p1c.out fun jF bB=>?_;refine eg 8 53202431 bB p2c.out fun pJ b9=>?_;refine eZ ?_ 7 53477375 zaJ [9,12,13,18] (fun _ _=>zRd) ?_;refine eg 20 54525951 b9 q1c.out fun m9 di=>?_;refine eg 22 58720255 di q2c.out fun qD dV=>?_;refine eZ ?_ 1 536870911 zaL [23,26,27,28] (fun _ _=>zRd) ?_;refine bf 1073741823 rfl zDk (fun K hK=>?_);replace kw:=kw.below dV;replace z:=z.below dV;clear dV;refine br rfl _ _ _ rfl gw t (.int .u64 ((un (un (un x16 pz) x7) qz:Nat):Int)) rfl rfl _ kw zKr (by rw[dI.out];exact htn) rfl (fun w5 kw hg aB=>?_);rw[bI.out]at kw;replace z:=z.kept hg FE;refine hK (fun _=>True) 9999 _ _ ?_;clear hK K
   try simp only[Act.put]
   try simp only[zSa,zSz,zSs]
   exact zeP
  have dj:decide ((t:Int)<80)=false:=decide_eq_false zOm;have FL:Hid (t=80):=zH zOm;rw[FL.out]at kw;replace kw:Arr wr gw (wd (rQ bs)):=kw;have okl:=zH (oE bs 64);replace okl:Hid ((rQ bs).length=80∧W64 (rQ bs)):=okl;have ye:DG h bs=pL h (qq h (rQ bs) 80) 8:=rfl;rw[ye]at kQ;clear ye;obtain⟨Lw,hL⟩:=zX (rQ bs);rw[hL]at kw okl kQ;obtain⟨tc,Rc⟩:∃tc:Int,(t:Int)=tc:=⟨_,rfl⟩;rw[Rc]at dj⊢;clear Rc hL FL htn ht zu mA ua;have zh:=z.h;go_upto_region 21 with(first|(refine ab rfl _ _ rfl _ rfl zDk _ zh (by rw[bV,ok.out.1];kernel_rfl) ?_)|(refine aD rfl _ _ _ rfl _ (wd h) rfl rfl _ (Arr.new _ _ _) (by rw[bV,ok.out.1];kernel_rfl) (by rw[bV,ok.out.1];rfl) (vP _) (fun w3 kv hg aB=>?_)))
  clear dj;have hb:=aq (ae wr _) hg (zA0 _) zac;have lgv:=kw.lt;replace kw:=kw.below hb;replace z:=z.below hb;obtain⟨gv,hgv⟩:=zX wr.heap.size;rw[hgv]at kv lgv⊢;have Zq:5<w.heap.size∧w.heap.size≤gr∧gr<gh∧gh<gm∧gm<gv:=zOm;clear zh hb hg aB hgv;go_wp2_with fail;go_loopw[13] (fun tv wr=>∃t:Nat,t≤80∧tv=.int .i64 t∧Arr wr gw (wd Lw)∧Arr wr gv (wd (qq h Lw t))∧Kzb w wr gr gh gm h Cc) (fun tv _=>80-(intOf tv).toNat)
  case atStart=>exact⟨0,by omega,rfl,kw,kv,z⟩
  case round=>
  clear kw kv z;obtain⟨t,ht,rfl,kw,kv,z⟩:=hrel;have mA:(0:Int)≤(t:Int):=zOm
  by_cases htn:t<80
  ·have ub:(t:Int)<80:=zOm;have okv:=xn (wl:=Lw) ok.out t;have bI:wd (V8 (qq h Lw t) (nE.getD t 0) (Lw.getD t 0))=wd (qq h Lw (t+1)):=rfl;obtain⟨v,hv⟩:=zX (qq h Lw t);rw[hv]at kv okv bI;clear hv;obtain⟨x0,x1,x2,x3,x4,x5,x6,x7,rfl⟩:=PY okv.1;have x0l:x0<18446744073709551616:=okv.2.get 0;have x1l:x1<18446744073709551616:=okv.2.get 1;have x4l:x4<18446744073709551616:=okv.2.get 4;have ep:wd (Ko x0 x1 x2 x3 x4 x5 x6 x7 (nE.getD t 0) (Lw.getD t 0))=wd (qq h Lw (t+1)):=bI;have cww:=zH (i9 (l:=Lw) (j:=t) (by rw[okl.out.1];exact htn));have ckk:=zH (i9 (l:=nE) (j:=t) (by rw[ip.1];exact htn));clear okv bI;generalize nE.getD t 0=kk at*;generalize Lw.getD t 0=ww at*;rw[←Wa x0l x1l x4l]at ep;obtain⟨p1,e1⟩:=zX (rL x4 50);have p1c:=zH (fun w=>mF x4 14 p1 rfl x4l zDc zDc e1 w);obtain⟨p2,e2⟩:=zX (rL x4 46);have p2c:=zH (fun w=>mF x4 18 p2 rfl x4l zDc zDc e2 w);obtain⟨p3,e3⟩:=zX (rL x4 23)
   have p3c:=zH (fun w=>mF x4 41 p3 rfl x4l zDc zDc e3 w);have pf:xT (xT p1 p2) p3=DT x4:=(by rw[←e1,←e2,←e3];exact WJ x4l);obtain⟨pz,ez⟩:=zX (DT x4);rw[ez]at pf ep;clear e1 e2 e3 ez;obtain⟨q1,e1⟩:=zX (rL x0 36);have q1c:=zH (fun w=>mF x0 28 q1 rfl x0l zDc zDc e1 w);obtain⟨q2,e2⟩:=zX (rL x0 30);have q2c:=zH (fun w=>mF x0 34 q2 rfl x0l zDc zDc e2 w);obtain⟨q3,e3⟩:=zX (rL x0 25);have q3c:=zH (fun w=>mF x0 39 q3 rfl x0l zDc zDc e3 w);have qf:xT (xT q1 q2) q3=Ix x0:=(by rw[←e1,←e2,←e3];exact WF x0l);obtain⟨qz,ez⟩:=zX (Ix x0);rw[ez]at qf ep;clear e1 e2 e3 ez;obtain⟨T,fT⟩:=zX (un (un (un (un x7 pz) (xT (GM x4 x5) (GM (ntb x4) x6))) kk) ww);obtain⟨U,fU⟩:=zX (un qz (xT (xT (GM x0 x1) (GM x0 x2)) (GM x1 x2)));rw[fT,fU]at ep;replace ep:=zH ep
   have d0:Hid (∀w',Arr w' gv (wd [x0,x1,x2,x3,x4,x5,x6,x7])→w'.cell? ⟨gv,0,none⟩=some (.int .u64 (x0:Int))∧w'.cell? ⟨gv,1,none⟩=some (.int .u64 (x1:Int))∧w'.cell? ⟨gv,2,none⟩=some (.int .u64 (x2:Int))∧w'.cell? ⟨gv,3,none⟩=some (.int .u64 (x3:Int))∧w'.cell? ⟨gv,4,none⟩=some (.int .u64 (x4:Int))∧w'.cell? ⟨gv,5,none⟩=some (.int .u64 (x5:Int))∧w'.cell? ⟨gv,6,none⟩=some (.int .u64 (x6:Int))∧w'.cell? ⟨gv,7,none⟩=some (.int .u64 (x7:Int))):=
    zH (fun w' k=>⟨k.cell (j:=0) rfl,k.cell (j:=1) rfl,k.cell (j:=2) rfl,k.cell (j:=3) rfl,k.cell (j:=4) rfl,k.cell (j:=5) rfl,k.cell (j:=6) rfl,k.cell (j:=7) rfl⟩)
   obtain⟨rx,ra,-,rn,rs⟩:=r2b;obtain⟨f0,-,-,-,f4,-,-,-⟩:=d0.out _ kv;clear x0l x1l x4l;go_upto_region 26 with fail
   clear f0 f4;refine cH 9999 31 fun iB=>?_;refine dz ?_ 10 501217431 zbb [0,1,2,4,7,11,12,13,14,15,16,17,18,19,20,22,23,24,26,27,28] (fun w' hB=>by obtain⟨-,-,-,-,-,f5,f6,f7⟩:=d0.out w' (kv.below hB);have fk:=(z.k.below hB).cell ckk.out;have fw:=(kw.below hB).cell cww.out;exact zRd) ?_;refine eg 3 501217439 iB p1c.out fun rY kV=>?_;refine eg 5 501217471 kV p2c.out fun xF hU=>?_;refine dz ?_ 7 501217535 zaF [6] (fun _ _=>zRd) ?_;refine eg 8 501217791 hU p3c.out fun kN eT=>?_;refine dz ?_ 0 2147483647 (by exact eT) [9,10,21,25,29,30] (fun _ _=>zRd) ?_;refine ap zKr ?_;replace kw:=kw.below eT;replace kv:=kv.below eT;replace z:=z.below eT;clear eT fT pf p1c p2c p3c rn;go_upto_region 27 with fail
   refine cH 9999 25 fun gZ=>?_;refine dz ?_ 7 8388389 zaG [0,2,5,8,9,10,11,12,13,14,15,16,17,18,19,20,21,22] (fun w' hB=>by obtain⟨-,f1,f2,-,-,-,-,-⟩:=d0.out w' (kv.below hB);exact zRd) ?_;refine eg 1 8388391 gZ q1c.out fun tq kT=>?_;refine eg 3 8388399 kT q2c.out fun rD iU=>?_;refine dz ?_ 4 8388415 zaN [4] (fun _ _=>zRd) ?_;refine eg 6 8388479 iU q3c.out fun rE iV=>?_;refine dz ?_ 0 33554431 (by exact iV) [7,23,24] (fun _ _=>zRd) ?_;refine ap zKr ?_;replace kw:=kw.below iV;replace kv:=kv.below iV;replace z:=z.below iV;clear iV fU qf q1c q2c q3c rx ra;obtain⟨-,f1,f2,f3,-,f5,f6,-⟩:=d0.out _ kv;go_wp2_with(first|(refine bi rfl _ _ rfl (wd [un T U,x0,x1,x2,un x3 T,x4,x5,x6]).toArray zKr ?_)|(refine aD rfl _ _ _ rfl _ (wd [un T U,x0,x1,x2,un x3 T,x4,x5,x6]) rfl rfl _ kv zKr zKr (vP _) (fun w8 kv hg aB=>?_)));rw[ep.out]at kv;replace kw:=kw.kept hg zOm
   exact ze9
  have dj:decide ((t:Int)<80)=false:=decide_eq_false zOm;have FL:Hid (t=80):=zH zOm;rw[FL.out]at kv;have okv:=zH (xn (wl:=Lw) ok.out 80);obtain⟨v,hv⟩:=zX (qq h Lw 80);rw[hv]at kv okv kQ;obtain⟨tc,Rc⟩:∃tc:Int,(t:Int)=tc:=⟨_,rfl⟩;rw[Rc]at dj⊢;clear Rc hv FL htn ht mA kw okl;go_wp2_with fail;clear dj;go_loopw[18] (fun jv wr=>∃j:Nat,j≤8∧jv=.int .i64 j∧Arr wr gv (wd v)∧Kzb w wr gr gh gm (pL h v j) Cc) (fun jv _=>8-(intOf jv).toNat)
  case atStart=>exact⟨0,by omega,rfl,kv,z⟩
  case round=>
  clear kv z;obtain⟨j,hj,rfl,kv,z⟩:=hrel;have mA:(0:Int)≤(j:Int):=zOm
  by_cases hjn:j<8
  ·have ub:(j:Int)<8:=zOm;have okj:=vW (v:=v) ok.out j;have cx:=i9 (l:=pL h v j) (j:=j) (by rw[okj.1];exact hjn);rw[Bc j j (zA0 _)]at cx;have cy:=zH (i9 (l:=v) (j:=j) (by rw[okv.out.1];exact hjn));have ep:Hid ((pL h v j).set j (un (h.getD j 0) (v.getD j 0))=pL h v (j+1)):=zH rfl;have dI:Hid ((wd (pL h v j)).length=8):=zH (by rw[bV,okj.1]);replace cx:=zH cx;generalize pL h v j=l at z cx ep dI;generalize h.getD j 0=x at*;generalize v.getD j 0=y at*;obtain⟨-,-,-,-,rs⟩:=r2b;clear okj;go_upto_region 32 with fail
   refine cH 9 10 fun iA=>?_;refine eZ ?_ 1 511 (by exact iA) [0,1,2,3,4,5,6,7,8] (fun w' hB=>by have f1:=(z.h.below hB).cell cx.out;have f2:=(kv.below hB).cell cy.out;exact zRd) ?_;refine bf 1023 rfl zDk (fun K hK=>?_);replace kv:=kv.below iA;replace z:=z.below iA;clear iA;refine br rfl _ _ _ rfl gh j (.int .u64 ((un x y:Nat):Int)) rfl rfl _ z.h zKr (by rw[dI.out];exact hjn) rfl (fun w5 k5 hg aB=>?_);rw[zL,ep.out]at k5;replace kv:=kv.kept hg zOm;replace z:=z.seth hg k5 hgs;clear k5;refine hK (fun _=>True) 9999 _ _ ?_;clear hK K;try simp only[Act.put]
   try simp only[zSa,zSz,zSs]
   exact zeX
  exact zdt
 ·have jM:Hid (i=nb):=zH zOm;have dj:decide ((f:Int)<(N:Int))=false:=decide_eq_false (by have:=jM.out;have:=hNb.out;omega);rw[jM.out]at z ok;obtain⟨fc,hfc⟩:∃fc:Int,(f:Int)=fc:=⟨_,rfl⟩;rw[hfc]at dj⊢;obtain⟨h,hh⟩:=zX (ry M nb);rw[hh]at z ok hX;replace ok:=zH ok;clear hfc hh hf iS hi jM;go_upto_region 34 with fail
  clear dj;refine aH (fun w8 aB k9 hb=>?_);replace k9:Arr w8 wr.heap.size (ag 64 (m8 h 0)):=(by rw[m8];exact k9);have l9:=z.m.lt;replace z:=z.below hb;obtain⟨g9,kP⟩:=zX wr.heap.size;rw[kP]at k9 l9⊢;have FE:5<w.heap.size∧w.heap.size≤gr∧gr<gh∧gh<gm∧gm<g9:=zOm;clear hb aB kP;go_wp2_with fail;go_loopw[20] (fun iv wr=>∃i:Nat,i≤64∧iv=.int .i64 i∧Arr wr g9 (ag 64 (m8 h i))∧Kzb w wr gr gh gm h Cc) (fun iv _=>64-(intOf iv).toNat)
  case atStart=>exact⟨0,zA28 _,rfl,k9,z⟩
  case round=>
  clear k9 z;obtain⟨i,hi,rfl,k9,z⟩:=hrel;have mA:(0:Int)≤(i:Int):=zOm
  by_cases iS:i<64
  ·have ub:(i:Int)<64:=zOm;obtain⟨q,hq⟩:=zX (i/8);have cq:=z.h.cell (i9 (l:=h) (j:=q) (by rw[ok.out.1];omega));have fq:(i:Int)/8=(q:Int):=zOm;have JR:(0:Int)≤(q:Int):=zOm;have wI:(q:Int)<8:=zOm;have fw:IntKind.i64.wrap (q:Int)=(q:Int):=i64_in zOm;obtain⟨r,hr⟩:=zX (i%8);have fr2:Int.tmod (i:Int) 8=(r:Int):=zbK;have og:(0:Int)≤(r:Int)∧(r:Int)<8:=zOm;obtain⟨s,hs⟩:=zX (56-8*r);have fs2:56-8*(r:Int)=(s:Int):=zOm;have xO:(0:Int)≤(s:Int)∧(s:Int)<64:=zOm;obtain⟨x,hx⟩:=zX (h.getD q 0);rw[hx]at cq;have hB:Hid (KL h i=x/2^s%256):=zH (by rw[KL,hq,hr,hs,hx]);have aL:Hid ((ag 64 (m8 h i)).set i (.int .u8 ((x/2^s%256:Nat):Int))=ag 64 (m8 h (i+1))):=zH (by rw[nH (A5 h i) (zA1 _ zDc),m8,hB.out]);replace hq:=zH hq;replace hr:=zH hr;replace hs:=zH hs;have c9:=k9.cell (bX 64 (m8 h i) i iS);have z9:=k9.frozen i;generalize m8 h i/256^i%256=y at c9;clear hx hB;go_wp2_with fail;rw[UL x s]
   exact zdV
  have dj:decide ((i:Int)<64)=false:=decide_eq_false zOm;have jM:Hid (i=64):=zH zOm;rw[jM.out]at k9;have zr:=z.r;go_wp2_with(first|(refine ab rfl _ _ rfl _ rfl zDk _ k9 zbx ?_)|(refine aD rfl _ _ _ rfl _ (ag 64 (m8 h 64)) rfl rfl _ zr zbx za3 (bm _ _) (fun w9 k2 hg aB=>?_)));exact bodyPost_ret (aj Tryz.results101 _ _ _ rfl zKr _ k2 zbx) rfl ⟨hX.out,aq z.b hg zOm z.b.size⟩
def xS (a b:Nat):Nat:=(a ^^^b)%4294967296
def GL (a b:Nat):Nat:=(a &&&b)%4294967296
def ora (a b:Nat):Nat:=(a |||b)%4294967296
def um (a b:Nat):Nat:=(a+b)%4294967296
def nta (a:Nat):Nat:=(4294967295 ^^^a)%4294967296
def sra (a d:Nat):Nat:=a/d
theorem Yo (a b:Nat):bits .xor .u32 (a:Int) (b:Int)=((xS a b:Nat):Int):=by
 show IntKind.u32.wrap ((BitVec.ofInt 32 (a:Int) ^^^BitVec.ofInt 32 (b:Int)).toNat:Int)=_
 rw[BitVec.toNat_xor,BitVec.ofInt_natCast,BitVec.ofInt_natCast,BitVec.toNat_ofNat,BitVec.toNat_ofNat,dW,←Nat.xor_mod_two_pow,show(2:Nat)^32=4294967296 from rfl,Nat.mod_mod,xS]
theorem Xg (a b:Nat):bits .and .u32 (a:Int) (b:Int)=((GL a b:Nat):Int):=by
 show IntKind.u32.wrap ((BitVec.ofInt 32 (a:Int) &&&BitVec.ofInt 32 (b:Int)).toNat:Int)=_
 rw[BitVec.toNat_and,BitVec.ofInt_natCast,BitVec.ofInt_natCast,BitVec.toNat_ofNat,BitVec.toNat_ofNat,dW,←Nat.and_mod_two_pow,show(2:Nat)^32=4294967296 from rfl,Nat.mod_mod,GL]
theorem aes (a b:Nat):bits .or .u32 (a:Int) (b:Int)=((ora a b:Nat):Int):=by
 show IntKind.u32.wrap ((BitVec.ofInt 32 (a:Int) |||BitVec.ofInt 32 (b:Int)).toNat:Int)=_
 rw[BitVec.toNat_or,BitVec.ofInt_natCast,BitVec.ofInt_natCast,BitVec.toNat_ofNat,BitVec.toNat_ofNat,dW,←Nat.or_mod_two_pow,show(2:Nat)^32=4294967296 from rfl,Nat.mod_mod,ora]
theorem aeo (x:Nat):bits .xor .u32 (if IntKind.u32.signed=true then -1 else IntKind.u32.max) (x:Int)=((nta x:Nat):Int):=by
 show bits .xor .u32 ((4294967295:Nat):Int) (x:Int)=_
 rw[Yo,xS,nta]
theorem ab7 (a b:Nat):IntKind.u32.wrap ((a:Int)+(b:Int))=((um a b:Nat):Int):=by rw[show(a:Int)+(b:Int)=((a+b:Nat):Int) by simp,dW,um]
theorem Pw (a b:Nat):um a b=(a+b)%4294967296:=rfl
def R2a:Prop:=(∀a b:Nat,bits .xor .u32 (a:Int) (b:Int)=((xS a b:Nat):Int))∧(∀a b:Nat,bits .and .u32 (a:Int) (b:Int)=((GL a b:Nat):Int))∧(∀a b:Nat,bits .or .u32 (a:Int) (b:Int)=((ora a b:Nat):Int))∧
 (∀x:Nat,bits .xor .u32 (if IntKind.u32.signed=true then -1 else IntKind.u32.max) (x:Int)=((nta x:Nat):Int))∧(∀a b:Nat,IntKind.u32.wrap ((a:Int)+(b:Int))=((um a b:Nat):Int))
theorem r2a:R2a:=⟨Yo,Xg,aes,aeo,ab7⟩
theorem oI {a b:Nat} (ha:a<4294967296) (hb:b<4294967296):xS a b=a ^^^b:=zA4 (zA29 (n:=32) ha hb)
theorem Bi {a b:Nat} (ha:a<4294967296):GL a b=a &&&b:=zA4 (zA9 Nat.and_le_left ha)
theorem aas {a:Nat} (ha:a<4294967296):nta a=4294967295 ^^^a:=zA4 (zA29 (n:=32) zDc ha)
theorem Ts {a:Nat} (h:a<4294967296) (d:Nat):sra a d<4294967296:=zA9 (zA21 _ _) h
theorem WM {x:Nat} (h:x<4294967296):xS (xS (rl x 25) (rl x 14)) (sra x 8)=OX x:=by
 have h1:=iQ h 25;have h2:=iQ h 14;rw[oI h1 h2,oI (zA29 (n:=32) h1 h2) (Ts h _)];rfl
theorem WO {x:Nat} (h:x<4294967296):xS (xS (rl x 15) (rl x 13)) (sra x 1024)=OZ x:=by
 have h1:=iQ h 15;have h2:=iQ h 13;rw[oI h1 h2,oI (zA29 (n:=32) h1 h2) (Ts h _)];rfl
theorem WH {x:Nat} (h:x<4294967296):xS (xS (rl x 26) (rl x 21)) (rl x 7)=DS x:=by
 have h1:=iQ h 26;have h2:=iQ h 21;rw[oI h1 h2,oI (zA29 (n:=32) h1 h2) (iQ h _)];rfl
theorem WD {x:Nat} (h:x<4294967296):xS (xS (rl x 30) (rl x 19)) (rl x 10)=Iw x:=by
 have h1:=iQ h 30;have h2:=iQ h 19;rw[oI h1 h2,oI (zA29 (n:=32) h1 h2) (iQ h _)];rfl
theorem V9 {x0 x1 x2 x3 x4 x5 x6 x7 k w:Nat} (h0:x0<4294967296) (h1:x1<4294967296) (h4:x4<4294967296):
 [um (um (um (um (um x7 (DS x4)) (xS (GL x4 x5) (GL (nta x4) x6))) k) w) (um (Iw x0) (xS (xS (GL x0 x1) (GL x0 x2)) (GL x1 x2))),x0,x1,x2,
  um x3 (um (um (um (um x7 (DS x4)) (xS (GL x4 x5) (GL (nta x4) x6))) k) w),x4,x5,x6]=Kn x0 x1 x2 x3 x4 x5 x6 x7 k w:=by
 have l1:∀ {a b:Nat},a<4294967296→(a &&&b)<4294967296:=fun h=>zA9 Nat.and_le_left h;have l2:(4294967295 ^^^x4)<4294967296:=zA29 (n:=32) zDc h4;rw[Bi h4,aas h4,Bi l2,Bi h0,Bi h0,Bi h1,oI (l1 h4) (l1 l2),oI (l1 h0) (l1 h0),oI (zA29 (n:=32) (l1 h0) (l1 h0)) (l1 h1)];simp only[Pw,Kn]
theorem Wt (q l7 p l16:Nat):um (um (um l16 p) l7) q=(q+l7+p+l16)%4294967296:=by simp only[Pw];omega
theorem mE (x n r:Nat) {N:Int} (hN:N=(n:Int)) (hx:x<4294967296) (h0:0<n) (hn:n<32) (hr:rl x (32-n)=r) (w:World):
 CB 43 #[.int .u32 (x:Int),.int .u64 N] w (.int .u32 (r:Int)):=by
 obtain⟨m,hm⟩:=zX (32-n);have e1:(32:Int)-N=(m:Int):=zOm;have e2:IntKind.u64.wrap (m:Int)=(m:Int):=zak;have b1:(0:Int)≤N∧N<32∧(0:Int)≤(m:Int)∧(m:Int)<32:=zOm;have h2:bits .or .u32 ((x:Int)/2^n) ((x:Int)*2^m%4294967296)=(r:Int):=by
  rw[show((x:Int)/2^n)=((x/2^n:Nat):Int) by simp,show((x:Int)*2^m%4294967296)=((x*2^m%4294967296:Nat):Int) by simp,fp (zA9 (zA21 _ _) hx) (zA1 _ zDc),←hr,rl,hm,show 32-m=n by omega,Nat.or_comm]
 clear hr hm;subst hN;go_enter Tryz.func43,Tryz.ntmps43;exact zcX
end Go.Proofs.YtgfkgolafkdjfaaGreatDoor
