/- ModelWrong: part 39 of its proof: lemmas and contracts, each with its conditions in its own statement; the last part holds the law itself. -/
import Derived.Test.YtgfkgolafkdjfaaGreatDoorJv38

set_option maxHeartbeats 4000000
set_option maxRecDepth 100000
namespace Go.Proofs.YtgfkgolafkdjfaaGreatDoor
open Go.RowKit
theorem MT (W i:Nat):((W%256^i+5)/256^i+W/256^i%256)%256=(W+5)/256^i%256∧(W%256^(i+1)+5)/256^(i+1)=((W%256^i+5)/256^i+W/256^i%256)/256:=by
 have hp:0<256^i:=Nat.pow_pos zDc;have hm:=Nat.mod_add_div W (256^i);have h1:(W+5)/256^i=(W%256^i+5)/256^i+W/256^i:=by
  conv=>lhs;rw[←hm]
  rw[Nat.add_right_comm,zA30 _ _ hp]
 constructor
 ·rw[h1];omega
 ·rw[dv,zA24,←zA22,Nat.add_right_comm,zA30 _ _ hp]
theorem PW {N:Nat}:(bF 256 17 N)[16]? =some (N/256^16%256):=eG _ _ _ _ zDc
theorem Nb {N:Nat} (h1:2^130≤N) (h2:N<2^131):(bF 256 17 N).set 16 (N/256^16%256-4)=bF 256 17 (N-2^130):=by
 apply List.ext_getElem?;intro j
 by_cases hj:j<17
 ·rw[List.getElem?_set,bj,eG _ _ _ _ hj,eG _ _ _ _ hj];split
  ·rename_i h0;subst h0;rw[if_pos zDc,show N/256^16%256-4=(N-2^130)/256^16%256 by omega]
  ·rename_i h0;have e:(2:Nat)^130=256^j*(256*(256^(15-j)*4)):=by
    have:(256:Nat)^j*(256*(256^(15-j)*4))=256^16*4:=by
     rw[←zA26 256,←Nat.pow_succ',←zA26,←Nat.pow_add,show j+(15-j+1)=16 by omega]
    rw[this]
   obtain⟨M,rfl⟩:∃M,N=M+2^130:=⟨N-2^130,by omega⟩;rw[Nat.add_sub_cancel,e,zA30 _ _ (Nat.pow_pos zDc),zA27]
 ·rw[zA13 (by rw[zA23,bj];omega),zA13 (by rw[bj];omega)]
theorem dK (k n:Nat):(iu (bF 256 k n)).length=k:=by rw[mz,bj]
theorem KB (W:Nat) (hW:W<2^130) (w:World):
 CB 117 #[.agg (iu (bF 256 17 W)).toArray] w (.agg (iu (bF 256 17 (W%mD))).toArray):=by
 have hv:val 256 (bF 256 17 W)=W:=(by rw[ir,zA4 (zA25 hW zDc)]);have c1:=fun w=>xg (bF 256 17 W) (bj _ _ _) ((qX 17 W).mono zDc) (by rw[hv];exact zA25 hW zDc) w;rw[hv,Bx hW,Bx hW]at c1;have ep:=fun i=>MT W i;have u0:(W%256^0+5)/256^0=5:=(by rw[Nat.pow_zero,Nat.mod_one]);have hub:∀i,(W%256^i+5)/256^i≤5:=fun i=>by
  have hp:0<256^i:=Nat.pow_pos zDc;have h1:=zA1 W hp;have:(W%256^i+5)/256^i<6:=by
   rw[Nat.div_lt_iff_lt_mul hp];omega
  omega
 obtain⟨N,hN⟩:=zX (W+5);rw[hN]at ep;have hp:=AT;have g16:=PW (N:=N);have Hq:¬W<mD→(bF 256 17 N).set 16 (N/256^16%256-4)=bF 256 17 (W%mD):=by
  intro h;rw[Nb zOm zOm,Nat.mod_eq_sub_mod zOm,zA4 zOm,show N-2^130=W-mD by omega]
 have JK:W<mD→W%mD=W:=zA4;have wI:W<mD→N/256^16%256<4:=(by intro h;omega);have Uv:¬W<mD→4≤N/256^16%256:=(by intro h;omega);have XZ:N/256^16%256<256:=zA1 _ zDc;obtain⟨q,hq⟩:=zX (N/256^16%256);rw[hq]at g16 Hq wI Uv XZ;obtain⟨m,hm⟩:=zX (W%mD);rw[hm]at Hq JK⊢;have lZ:=eO (bF 256 17 N) (bF 256 17 W);have dF:(bF 256 17 N).length=(bF 256 17 W).length:=(by rw[bj,bj]);have dB:=ij dF;rw[bj]at dB;clear hv hN hW hq hm hp;generalize mD=P at*;replace c1:=zH c1;replace ep:=zH ep;replace u0:=zH u0;replace hub:=zH hub;replace g16:=zH g16;replace Hq:=zH Hq;replace JK:=zH JK;replace wI:=zH wI;replace Uv:=zH Uv;replace lZ:=zH lZ;replace dF:=zH dF;replace dB:=zH dB;go_enter Tryz.func117,Tryz.ntmps117;go_upto_region 1 with fail
 refine be (fun W1 aB k1 k2 kb=>?_);have k2:Arr W1 (w.heap.size+1) (iu (List.replicate 17 0)):=k2;clear aB;go_wp2_with(refine aR ?_);refine zQ (c1.out _) fun mU dG=>?_;obtain⟨k1,k2⟩:=fZ k1 k2 dG;have kb:=az kb dG;clear dG;go_upto_region 2 with(refine aU ?_)
 refine ci k1 (fun i8 k1 ad ak=>?_);have k2:=ad _ _ zOm k2;have kb:=ak _ _ zOm kb;clear ad ak;go_upto_region 3 with(first|refine aR ?_|refine aU ?_)
 obtain⟨nZ,jp⟩:=IP k1 k2;refine aK (fun jF k3 aA=>?_);obtain⟨k1,k2⟩:=fZ k1 k2 aA;have kb:=az kb aA;clear aA;generalize (i8).heap.size=sm at k3 nZ jp⊢;have k3:Arr jF sm (iu (ea 0 (bF 256 17 N) (bF 256 17 W))):=zcJ;have ltk1:=k1.lt;have ltk2:=k2.lt;go_wp2_with fail;go_loopw[5,4] (fun iv uv wr=>∃i u:Nat,i≤17∧iv=.int .i64 i∧uv=.int .i64 u∧(W%256^i+5)/256^i=u∧Arr wr w.heap.size (iu (bF 256 17 W))∧Arr wr (w.heap.size+1) (iu (List.replicate 17 0))∧Arr wr sm (iu (ea i (bF 256 17 N) (bF 256 17 W)))∧Below w.heap.size w wr) (fun iv _ _=>17-(intOf iv).toNat)
 case atStart=>exact⟨0,5,by omega,rfl,rfl,u0.out,k1,k2,k3,kb⟩
 case round=>
  clear k1 k2 k3 kb;obtain⟨i,u,hi,rfl,rfl,hu,k1,k2,k3,kb⟩:=hrel;have hul:u≤5:=(by have:=hub.out i;omega)
  by_cases bK:i<17
  ·obtain⟨x,hx⟩:∃x,W/256^i%256=x:=⟨_,rfl⟩;have vR:x<256:=hx▸zA1 _ zDc;obtain⟨hd,hs⟩:=ep.out i;rw[hu,hx]at hd hs;have g3:(ea i (bF 256 17 N) (bF 256 17 W))[i]? =some x:=by
    rw[eh dF.out (by rw[bj];exact bK),if_neg (Nat.lt_irrefl i),eG _ _ _ _ bK,hx]
   have gN:=eG 256 17 N i bK;rw[←hd]at gN;have aL:=fE dF.out gN;have g3:=eH g3;have bo:=k3.cell g3;have bT:=k3.frozen i;have mJ:=nC ((u:Int)+(x:Int));have iw1:IntKind.i64.wrap ((u:Int)+(x:Int))=(u:Int)+(x:Int):=i64_in zOm;have e9:((u:Int)+x)%256=(((u+x)%256:Nat):Int):=zOm;replace e9:=zH e9;replace g3:=zH g3;replace gN:=zH gN;replace aL:=zH aL;replace hd:=zH hd;replace hs:=zH hs;replace hu:=zH hu;replace hx:=zH hx;go_wp2_with fail;refine⟨⟨i+1,(u+x)/256,by omega,by go_num,by rw[show((u:Int)+x)/256=(((u+x)/256:Nat):Int) by omega],hs.out,k1.other zab _,k2.other zab _,?_,kb.setCell zab _⟩,by simp[intOf];omega⟩;have:=k3.set i (.int .i64 (((u:Int)+x)%256));rw[e9.out,iD,aL.out]at this;rw[e9.out];exact this
  ·obtain rfl:i=17:=zOm;rw[dB.out]at k3;have g16:=eH g16.out;have bo:=k3.cell g16;have bT:=k3.frozen 16;replace g16:=zH g16;replace hu:=zH hu
   by_cases hlp:W<P
   ·have iq:(q:Int)<4:=(by have:=wI.out hlp;omega);have NH:=JK.out hlp;subst NH;go_wp2_with(first|(refine ab rfl _ _ rfl _ rfl zKr _ k1 zcK ?_)|(refine aQ rfl _ _ _ rfl _ _ rfl rfl _ k2 zcK (by rw[dK];rfl) (tE _) ?_));exact zeZ
   ·have iq:¬(q:Int)<4:=(by have:=Uv.out hlp;omega);have iq2:(4:Int)≤(q:Int):=zOm;have iw1:IntKind.i64.wrap ((q:Int)-4)=(q:Int)-4:=i64_in zOm;have DL:=Hq.out hlp;replace DL:=zH DL;go_upto_region 12 with fail
    have k3:Arr (wr.setCell ⟨sm,16,none⟩ (.int .i64 ((q:Int)-4))) sm (iu (bF 256 17 m)):=by
     have:=k3.set 16 (.int .i64 ((q-4:Nat):Int));rw[iD,DL.out,show((q-4:Nat):Int)=(q:Int)-4 by omega]at this;exact this
    have k2:=k2.other (a:=⟨sm,16,none⟩) zab (.int .i64 ((q:Int)-4));have kb:=kb.setCell (p:=⟨sm,16,none⟩) zab (.int .i64 ((q:Int)-4));generalize wr.setCell ⟨sm,16,none⟩ (.int .i64 ((q:Int)-4))=w3 at*;clear bo bT;go_wp2_with(first|(refine ab rfl _ _ rfl _ rfl zKr _ k3 zcK ?_)|(refine aQ rfl _ _ _ rfl _ _ rfl rfl _ k2 zcK (by rw[dK];rfl) (tE _) ?_));exact zeZ
end Go.Proofs.YtgfkgolafkdjfaaGreatDoor
