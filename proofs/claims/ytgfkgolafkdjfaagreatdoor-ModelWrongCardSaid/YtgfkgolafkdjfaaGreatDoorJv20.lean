/- ModelWrong: part 20 of its proof: lemmas and contracts, each with its conditions in its own statement; the last part holds the law itself. -/
import Derived.Test.YtgfkgolafkdjfaaGreatDoorJv19
import Derived.Laws.MakeOwn

set_option maxHeartbeats 4000000
set_option maxRecDepth 100000
namespace Go.Proofs.YtgfkgolafkdjfaaGreatDoor
open Go.RowKit
def Gq (n:Nat):Nat:=(119-n%64)%64
def O1 (L:List UInt8):List UInt8:=L++[128]++List.replicate (Gq L.length) 0
def rA (L:List UInt8):List UInt8:=O1 L++jG (8*L.length:Int)
theorem Tq (L:List UInt8):(rA L).length%64=0:=by
 simp[rA,O1,Gq,cg];omega
def KJ (h:List Nat) (i:Nat):Nat:=h.getD (i/4) 0/2^(24-8*(i%4))%256
def m6 (h:List Nat):Nat→Nat
 |0=>0
 |i+1=>m6 h i+256^i*KJ h i
theorem A4 (h:List Nat):∀i,m6 h i<256^i
 |0=>by rw[m6];decide
 |i+1=>by
  have h1:=A4 h i;have h2:KJ h i<256:=zA1 _ zDc;have h3:256^i*KJ h i≤256^i*255:=Nat.mul_le_mul_left _ zOm;rw[m6,zA24];omega
def iT (L:List UInt8):Nat:=m6 (rr (rA L) ((rA L).length/64)) 32
theorem MF (L:List UInt8):iT L<256^32:=A4 _ _
theorem oG (d:Option Addr) (cap:Nat) (ls:List (List UInt8)) (w:World) (hs:Sls w (.slice d ls.length cap) ls):
 Calls Tryz.prog 144 #[.slice d ls.length cap] w fun e w'=>e=.returned (.agg (ag 32 (iT ls.flatten)).toArray)∧Below w.heap.size w w':=by
 have aI:=hs.len;obtain⟨-,NF,ye⟩:=aI;unfold maxLen at ye;obtain⟨X,hX⟩:=zX (Ending.returned (.agg (ag 32 (iT ls.flatten)).toArray));rw[hX];replace hX:=zH hX;replace hs:=zH hs;go_enter Tryz.func144,Tryz.ntmps144;go_upto_region 1 with fail
 refine aH (fun W aB k2 kb=>?_);replace k2:Arr W w.heap.size (ag 32 0):=k2;clear aB;go_wp2_with fail;refine(I6 _).mono ?_;rintro e w1 ⟨g,rfl,hg,k0,hb⟩;have k0:=SSta.start k0;have lt2:=k2.lt;replace k2:=k2.below hb;replace kb:=az kb hb;obtain⟨g2,j9⟩:=zX w.heap.size;rw[j9]at k2 lt2⊢;have h2g:g2<g:=zOm;have rK:w.heap.size≤g2:=zOm;clear hb hg lt2 j9;have ib:(ls.length:Int)≤9223372036854775807:=zOm;go_wp2_with fail;go_loopw[14] (fun iv wr=>∃i:Nat,i≤ls.length∧iv=.int .i64 i∧Arr wr g2 (ag 32 0)∧SSta wr g ((ls.take i).flatten.length%18446744073709551616) (ls.take i).flatten∧Below w.heap.size w wr) (fun iv _=>ls.length-(intOf iv).toNat)
 case atStart=>exact⟨0,zA28 _,rfl,k2,k0,kb⟩
 case round=>
  clear k2 k0 kb;obtain⟨i,hi,rfl,k2,k0,kb⟩:=hrel
  by_cases bK:i<ls.length
  ·obtain⟨b,o,x,c,rfl,kW,dI⟩:=hs.out.at bK;have bo:wr.cell? ⟨b,o+i,none⟩=some (.slice x ls[i].length c):=za7;have fR:=kS bK;obtain⟨l,hl⟩:=zX (ls[i]);rw[hl]at fR bo dI;obtain⟨pre,Az⟩:=zX ((ls.take i).flatten);rw[Az]at k0 fR;have dF:=dI.len;rw[ai]at dF;obtain⟨-,adf,Qs⟩:=dF;unfold maxLen at Qs;clear Az hl kW;replace fR:=zH fR;replace dI:=zH dI;have ilt:(i:Int)<(ls.length:Int):=zOm;obtain⟨lg,NG⟩:=zX (pre.length%18446744073709551616);rw[NG]at k0;have lgl:lg<18446744073709551616:=zOm;have JJ:Hid ((pre++l).length%18446744073709551616=(lg+l.length)%18446744073709551616):=zH zbF;clear NG;go_wp2_with fail;clear bo;go_loopw[20] (fun jv wr=>∃j:Nat,j≤l.length∧jv=.int .i64 j∧Arr wr g2 (ag 32 0)∧SSta wr g lg (pre++l.take j)∧Below w.heap.size w wr) (fun jv _=>l.length-(intOf jv).toNat)
   case atStart=>exact⟨0,zA28 _,rfl,k2,by rw[List.take_zero,zA31];exact k0,kb⟩
   case round=>
    clear k2 k0 kb;obtain⟨j,hj,rfl,k2,k0,kb⟩:=hrel
    by_cases hltj:j<l.length
    ·obtain⟨b2,o2,rfl,-,-,-,np⟩:=dI.out.at zaV;have bo:=np j _ (eY l j hltj);have Ad:wr.cell? ⟨b2,o2+j,none⟩=some (.int .u8 (l[j].toNat:Int)):=za8;have Re:pre++l.take (j+1)=pre++l.take j++[l[j]]:=za9;have IX:l[j].toNat<256:=l[j].toNat_lt;have c3:=zH (xx g lg (pre++l.take j) l[j] wr k0);exact zdr
    ·obtain rfl:j=l.length:=zOm;rw[zA8 (zA0 _),←fR.out]at k0;obtain⟨lg2,pI⟩:=zX ((lg+l.length)%18446744073709551616);have fl:IntKind.u64.wrap ((lg:Int)+(l.length:Int))=(lg2:Int):=zbG;have Ho:Hid (((ls.take (i+1)).flatten).length%18446744073709551616=lg2):=zH (by rw[fR.out,JJ.out,pI]);have ll0:(0:Int)≤(l.length:Int):=zOm;have ll1:(l.length:Int)≤9223372036854775807:=zOm;have fu:IntKind.u64.wrap (l.length:Int)=(l.length:Int):=zbG;obtain⟨rI,oZ⟩:=k0.l;clear pI;go_wp2_with fail;replace k2:=k2.other (a:=⟨g,137,none⟩) zab (.int .u64 (lg2:Int));exact zew
  ·obtain rfl:i=ls.length:=zOm;rw[zA8 (zA0 _)]at k0;obtain⟨L,hL⟩:=zX ls.flatten;have hX2:=hX.out;rw[hL]at hX2 k0;replace hX:=zH hX2;obtain⟨N,hN⟩:=zX L.length;obtain⟨lg,NG⟩:=zX (N%18446744073709551616);rw[hN,NG]at k0;have c1:Hid (Calls Tryz.prog 184 #[.pointer (some ⟨g,0,none⟩),.int .u8 128] wr fun e w'=>e=.returned (.tuple #[])∧SSta w' g lg (L++[128])∧wr.grownBy w' (some g)):=zH (xx g lg L 128 wr k0);have c2:Hid (∀wr M,SSta wr g lg M→Calls Tryz.prog 184 #[.pointer (some ⟨g,0,none⟩),.int .u8 0] wr fun e w'=>e=.returned (.tuple #[])∧SSta w' g lg (M++[0])∧wr.grownBy w' (some g)):=zH (fun wr M k=>xx g lg M 0 wr k);replace hN:=zH hN;have JJ:=zH NG;clear hL hX2 hs NG;go_wp2_with fail;refine c1.out.mono ?_;rintro e w4 ⟨rfl,k0',hg⟩;replace k2:=k2.kept hg zOm;replace kb:=aq kb hg zOm kb.size;replace k0:SSta w4 g lg (L++[128]++List.replicate 0 0):=(by rw[List.replicate_zero,zA31];exact k0')
   clear c1 hg k0';go_wp2_with fail;go_loopw[44] (fun _ wr=>∃z:Nat,z≤Gq N∧Arr wr g2 (ag 32 0)∧SSta wr g lg (L++[128]++List.replicate z 0)∧Below w.heap.size w wr) (fun _ wr=>((56+64-(intOf ((wr.cell? ⟨g,136,none⟩).getD undef)).toNat)%64))
   case atStart=>exact⟨0,zA28 _,k2,k0,kb⟩
   case round=>
   clear k2 k0 kb;obtain⟨z,hz,k2,k0,kb⟩:=hrel;have rI:=k0.n;obtain⟨m,hm⟩:=zX ((L++[128]++List.replicate z 0).length%64);rw[hm]at rI;have L0:m=(N+1+z)%64:=by
    rw[←hm,←hN.out];simp;omega
   have Hz:Gq N=(119-N%64)%64:=rfl
   by_cases ZJ:m=56
   ·have dn:((m:Int) != 56)=false:=(by rw[ZJ];rfl);have hze:Hid (z=Gq N):=zH zbH;rw[hze.out]at k0;have hXe:Hid (L++[128]++List.replicate (Gq N) 0=O1 L):=zH (by rw[←hN.out];rfl);clear hm L0 Hz hz hze ZJ;rw[hXe.out]at k0;clear c2;obtain⟨P,hP⟩:=zX (O1 L);rw[hP]at k0;replace hP:=zH hP;clear hXe;have hn8:Hid (IntKind.u64.wrap ((lg:Int)*8)=IntKind.u64.wrap (8*L.length:Int)):=zH (by rw[fC,fC,←JJ.out,←hN.out];omega);obtain⟨E,hE⟩:=zX (jG (8*L.length:Int));have DJ:Hid (∀k,k<8→∃c:UInt8,E.take (k+1)=E.take k++[c]∧IntKind.u64.wrap ((lg:Int)*8)/2^(8*(7-k))%256=(c.toNat:Int)):=zH (fun k hk=>by rw[hn8.out,←hE];exact I5 _ k hk);have hEl:Hid (E.length=8):=zH (by rw[←hE,cg]);replace hE:=zH hE;clear hn8;go_wp2_with fail;clear dn rI
    go_loopw[8] (fun kv wr=>∃k:Nat,k≤8∧kv=.int .i64 (7-(k:Int))∧Arr wr g2 (ag 32 0)∧SSta wr g lg (P++E.take k)∧Below w.heap.size w wr) (fun kv _=>(intOf kv+1).toNat)
    case atStart=>exact⟨0,zA28 _,rfl,k2,by rw[List.take_zero,zA31];exact k0,kb⟩
    case round=>
    clear k2 k0 kb;obtain⟨k,hk,rfl,k2,k0,kb⟩:=hrel
    by_cases JH:k<8
    ·obtain⟨c,jX,pH⟩:=DJ.out k JH;have c3:=zH (xx g lg (P++E.take k) c wr k0);exact zc2
    ·have Zz:Hid (k=8):=zH zOm;have hM:Hid (P++E.take 8=rA L):=zH zbJ;rw[Zz.out,hM.out]at k0;have dk:decide ((0:Int)≤7-(k:Int))=false:=decide_eq_false zOm;have dk2:¬(0:Int)≤7-(k:Int):=zOm;obtain⟨kc,NE⟩:=zX (7-(k:Int));rw[NE]at dk dk2⊢;clear NE hk JH DJ hM hEl;obtain⟨h,hh⟩:=zX (rr (rA L) ((rA L).length/64));have ok:=ru (rA L) ((rA L).length/64);obtain⟨bs,-,-,k0⟩:=k0;rw[hh]at k0 ok;have hX2:=hX.out;rw[iT,hh]at hX2;replace hX:=zH hX2;obtain⟨nn,JL⟩:=zX ((rA L).length%64);rw[JL]at k0;replace ok:=zH ok;clear JL hh hX2;go_upto_region 20 with fail
     refine aH (fun w8 aB k9 FA=>?_);replace k9:Arr w8 wr.heap.size (ag 32 (m6 h 0)):=(by rw[m6];exact k9);have h09:=k0.lt;replace k0:=k0.below FA;replace k2:=k2.below FA;replace kb:=az kb FA;obtain⟨g9,kP⟩:=zX wr.heap.size;rw[kP]at k9 h09⊢;clear FA aB kP dk dk2;go_wp2_with fail;go_loopw[63] (fun iv wr=>∃i:Nat,i≤32∧iv=.int .i64 i∧Arr wr g2 (ag 32 0)∧Arr wr g (fL h bs nn lg)∧Arr wr g9 (ag 32 (m6 h i))∧Below w.heap.size w wr) (fun iv _=>32-(intOf iv).toNat)
     case atStart=>exact⟨0,zA28 _,rfl,k2,k0,k9,kb⟩
     case round=>
     clear k2 k0 k9 kb;obtain⟨i,hi,rfl,k2,k0,k9,kb⟩:=hrel;have mA:(0:Int)≤(i:Int):=zOm
     by_cases iS:i<32
     ·have ub:(i:Int)<32:=zOm;obtain⟨q,hq⟩:=zX (i/4);have hq8:q<8:=zOm;have cq:=MH (bs:=bs) (n:=nn) (lg:=lg) ok.out.1 hq8;have cq:=k0.cell cq;have fq:(i:Int)/4=(q:Int):=zOm;have JR:(0:Int)≤(q:Int):=zOm;have wI:(q:Int)<8:=zOm;have fw:IntKind.i64.wrap (q:Int)=(q:Int):=i64_in zOm;obtain⟨r,hr⟩:=zX (i%4);have fr:(i:Int)%4=(r:Int):=zOm;have fr2:Int.tmod (i:Int) 4=(r:Int):=zbK;have JS:(0:Int)≤(r:Int):=zOm;have og:(r:Int)<4:=zOm;obtain⟨s,hs⟩:=zX (24-8*r);have f8:IntKind.i64.wrap (8*(r:Int))=8*(r:Int):=i64_in zOm;have fs:IntKind.i64.wrap (24-8*(r:Int))=(s:Int):=zaY;have fs2:24-8*(r:Int)=(s:Int):=zOm;have xO:(0:Int)≤(s:Int):=zOm;have kQ:(s:Int)<32:=zOm;obtain⟨x,hx⟩:=zX (h.getD q 0);rw[hx]at cq;have hB:Hid (KJ h i=x/2^s%256):=zH (by rw[KJ,hq,hr,hs,hx])
      have aL:Hid ((ag 32 (m6 h i)).set i (.int .u8 ((x/2^s%256:Nat):Int))=ag 32 (m6 h (i+1))):=zH (by rw[nH (A4 h i) (zA1 _ zDc),m6,hB.out]);have adh:Hid ((ag 32 (m6 h i)).length=32):=zH (aa _ _);have c9:=k9.cell (bX 32 (m6 h i) i iS);have z9:=k9.frozen i;generalize m6 h i/256^i%256=y at c9;exact zdd
     ·have dj:decide ((i:Int)<32)=false:=decide_eq_false zOm;have jM:Hid (i=32):=zH zOm;rw[jM.out]at k9;go_wp2_with(first|(refine ab rfl _ _ rfl _ rfl zDk _ k9 zbx ?_)|(refine aD rfl _ _ _ rfl _ (ag 32 (m6 h 32)) rfl rfl _ k2 zbx za3 (bm _ _) (fun w9 k2 hg aB=>?_)));have qb:=aq kb hg zOm kb.size;exact bodyPost_ret (aj Tryz.results144 _ _ _ rfl zKr _ k2 zbx) rfl ⟨hX.out,qb⟩
   ·have dn:((m:Int)==56)=false:=zab;have jB:z+1≤Gq N:=zbH;have c3:=zH (c2.out wr _ k0);have LX:L++[128]++List.replicate z 0++[0]=L++[128]++List.replicate (z+1) 0:=zbI;rw[LX]at c3;clear LX hm Hz;replace L0:=zH L0;have af2:(m:Int)≠56:=zOm;go_wp2_with fail;refine c3.out.mono ?_;rintro e w5 ⟨rfl,k0',hg⟩;replace k2:=k2.kept hg zOm;replace kb:=aq kb hg zOm kb.size;clear c3 hg k0;have FB:=k0'.n;obtain⟨m',QS⟩:=zX ((L++[128]++List.replicate (z+1) 0).length%64);rw[QS]at FB;have ZH:m'=(m+1)%64:=by
     rw[←QS,L0.out,←hN.out];simp;omega
    have nu:m<64:=(by rw[L0.out];exact zA1 _ zDc);exact zdT
def J2 (k c n i:Nat):Nat:=DD k ((c+i/64)%4294967296) n (i%64)
theorem Cf (k c n i:Nat):J2 k c n i<256:=Fb _ _ _ _
def MJ (k c n:Nat) (bs:List UInt8):Nat→List UInt8
 |0=>List.replicate bs.length 0
 |i+1=>(MJ k c n bs i).set i (UInt8.ofNat ((bs.getD i 0).toNat ^^^J2 k c n i))
def ID (k c n:Nat) (bs:List UInt8):List UInt8:=MJ k c n bs bs.length
theorem xC (k c n:Nat) (bs:List UInt8):∀i,(MJ k c n bs i).length=bs.length
 |0=>by simp[MJ]
 |i+1=>by rw[MJ,zA23,xC k c n bs i]
theorem MK (k c n:Nat) (bs:List UInt8):∀i j,j<i→i≤bs.length→(MJ k c n bs i)[j]? =some (UInt8.ofNat ((bs.getD j 0).toNat ^^^J2 k c n j))
 |0,j,h,_=>absurd h zOm
 |i+1,j,h,hi=>by
  rw[MJ,List.getElem?_set]
  by_cases e:i=j
  ·subst e;rw[if_pos rfl,if_pos (by rw[xC];omega)]
  ·rw[if_neg e,MK k c n bs i j zOm zOm]
theorem nG (k c n:Nat) (bs:List UInt8):(ID k c n bs).length=bs.length:=xC k c n bs _
theorem Gw (k c n:Nat) {bs:List UInt8} {j:Nat} (h:j<bs.length):(ID k c n bs)[j]? =some (UInt8.ofNat ((bs.getD j 0).toNat ^^^J2 k c n j)):=MK k c n bs _ j h (zA0 _)
theorem xJ {x y:Nat} (hx:x<256) (hy:y<256):x ^^^y<256:=zA29 (n:=8) hx hy
theorem EP (k c n:Nat) (bs:List UInt8):ID k c n (ID k c n bs)=bs:=by
 apply List.ext_getElem?;intro j
 by_cases h:j<bs.length
 ·rw[Gw k c n (by rw[nG];exact h),zA7 h];have e:(ID k c n bs).getD j 0=UInt8.ofNat ((bs.getD j 0).toNat ^^^J2 k c n j):=by
   rw[zA10,Gw k c n h];rfl
  have e2:bs.getD j 0=bs[j]:=(by rw[zA10,zA7 h];rfl);have hx:=(bs[j]).toNat_lt;rw[e,e2,UInt8.toNat_ofNat',zA4 (xJ hx (Cf _ _ _ _)),Nat.xor_assoc,Nat.xor_self,Nat.xor_zero];simp
 ·rw[zA13 (by rw[nG,nG];omega),zA13 zOm]
theorem r8 (k c n:Nat):∀m j,j<m→fV k c n m/256^j%256=DD k c n j
 |0,j,h=>absurd h zOm
 |m+1,j,h=>by
  rw[fV]
  by_cases e:j=m
  ·subst e;rw[zA30 _ _ (Nat.pow_pos zDc),zA32 (Fc k c n j),Nat.zero_add,zA4 (Fb k c n j)]
  ·have e2:256^m=256^j*(256*256^(m-j-1)):=(by rw[←zA26,←zA24,←Nat.pow_add,show j+1+(m-j-1)=m by omega]);rw[e2,zA26,zA30 _ _ (Nat.pow_pos zDc),zA26,zA27];exact r8 k c n m j zOm
theorem mN (n:Nat) (hn:n≤100000) (w:World):(Instr.makeSlice 24 (.int .i64 (n:Int)) (.int .i64 (n:Int))).run Tryz.prog w=.ok (.slice (some ⟨w.heap.size,0,none⟩) n n) (w.alloc (.cells (aJ (List.replicate n 0)).toArray 5)):=by
 obtain⟨i,hi,jN,jA,jB⟩:=info_parts ig;have h:=run_makeSlice (P:=Tryz.prog) w 24 5 i _ Tryz.underlying24 hi jN .i64 .i64 (n:Int) (n:Int) zOm zOm (by rw[jA];omega) (by rw[jB];omega) zOm;rw[jA,Int.toNat_natCast,Nat.mul_one]at h;have e:madeCells (Value.int .u8 0).cells n=(aJ (List.replicate n 0)).toArray:=by
  apply Array.ext
  ·rw[size_madeCells];simp[aJ]
  ·intro j h1 h2;simp[madeCells,aJ,Value.cells,Nat.mod_one]
 rw[e]at h;exact h
theorem rG {a b:Nat} (ha:a<256) (hb:b<256):bits .xor .u8 (a:Int) (b:Int)=((a ^^^b:Nat):Int):=by
 have h8:∀ {a:Nat},a<256→(BitVec.ofInt 8 (a:Int)).toNat=a:=fun h=>by
  rw[BitVec.ofInt_natCast,BitVec.toNat_ofNat];exact zA4 h
 show IntKind.u8.wrap ((BitVec.ofInt 8 (a:Int) ^^^BitVec.ofInt 8 (b:Int)).toNat:Int)=_
 rw[BitVec.toNat_xor,h8 ha,h8 hb,i7,zA4 (xJ ha hb)]
theorem T7 {k c n i x y:Nat} {bs:List UInt8} (hx:(bs.getD i 0).toNat=x) (hk:J2 k c n i=y) (lx:x<256) (ly:y<256):
 (aJ (MJ k c n bs i)).set i (.int .u8 ((x ^^^y:Nat):Int))=aJ (MJ k c n bs (i+1)):=by
 have e:((x ^^^y:Nat):Int)=(((UInt8.ofNat (x ^^^y)).toNat:Nat):Int):=(by rw[UInt8.toNat_ofNat',zA4 (xJ lx ly)]);rw[e,MJ,hx,hk];exact zfy
theorem M9 (k n c:Nat) (a:Option Addr) (cap:Nat) (bs:List UInt8) (hc:c<4294967296) (hl:bs.length≤100000) (w:World) (h:Sl w (.slice a bs.length cap) (aJ bs)):
 Calls Tryz.prog 176 #[.agg (ag 32 k).toArray,.int .i64 (c:Int),.agg (ag 12 n).toArray,.slice a bs.length cap] w fun e w'=>
  ∃g,e=.returned (.slice (some ⟨g,0,none⟩) bs.length bs.length)∧w.heap.size≤g∧Arr w' g (aJ (ID k c n bs))∧Below w.heap.size w w':=by
 have ud:=mN bs.length hl;have uc:=eV hc;have hs:=zH h;have kQ:=zH h;clear h;go_enter Tryz.func176,Tryz.ntmps176;go_upto_region 1 with fail
 refine be (fun W aB k4 k6 kb=>?_);have k4:Arr W w.heap.size (ag 32 k):=k4;have k6:Arr W (w.heap.size+1) (ag 12 n):=k6;have hs:=zH (hs.out.below kb);clear aB;go_upto_region 2 with fail
 refine aH (fun w2 aB k9 hb=>?_);replace k9:Arr w2 W.heap.size (aJ (MJ k c n bs 0)):=k9;have h49:=k4.lt;have h69:=k6.lt;replace k4:=k4.below hb;replace k6:=k6.below hb;replace hs:=zH (hs.out.below hb);replace kb:=az kb hb;obtain⟨g9,kP⟩:=zX W.heap.size;rw[kP]at k9 h49 h69⊢;clear hb aB kP ud;go_upto_region 3 with fail
 refine aH (fun w3 aB k10 hb=>?_);replace k10:Arr w3 w2.heap.size (ag 64 0):=k10;have afu:=k9.lt;obtain⟨k4,k6,k9⟩:=dZ k4 k6 k9 hb;replace kb:=az kb hb;obtain⟨g10,qT⟩:=zX w2.heap.size;rw[qT]at k10 afu⊢;clear hb aB qT;obtain⟨g4,mT⟩:=zX w.heap.size;rw[mT]at k4 k6 h49 h69⊢;replace mT:=zH mT;have xO:=hs;go_wp2_with fail;go_loopw[21,11] (fun iv cv wr=>∃i X:Nat,i≤bs.length∧iv=.int .i64 i∧cv=.int .u32 (((c+(i+63)/64)%4294967296:Nat):Int)∧Arr wr g4 (ag 32 k)∧Arr wr (g4+1) (ag 12 n)∧Arr wr g9 (aJ (MJ k c n bs i))∧Arr wr g10 (ag 64 X)∧(i%64≠0→X=fV k ((c+i/64)%4294967296) n 64)∧Below w.heap.size w wr) (fun iv _ _=>bs.length-(intOf iv).toNat)
 case atStart=>exact⟨0,0,zA28 _,rfl,by rw[show(c+(0+63)/64)%4294967296=c by omega],k4,k6,k9,k10,fun h=>absurd rfl h,kb⟩
 case round=>
 clear k4 k6 k9 k10 kb;obtain⟨i,X,hi,rfl,rfl,k4,k6,k9,k10,hX,kb⟩:=hrel;replace hX:=zH hX;have mA:(0:Int)≤(i:Int):=zOm
 by_cases iS:i<bs.length
 ·have ub:(i:Int)<(bs.length:Int):=zOm;have hsr:=zH (kQ.out.below kb);obtain⟨b,o,rfl,-,-,-,lU⟩:=hsr.out.at zaV;have dP:=lU i _ (eY bs i iS);clear lU;obtain⟨x,hx⟩:=zX ((bs[i]).toNat);have lx:x<256:=zaW;rw[hx]at dP;have Rj:Hid ((bs.getD i 0).toNat=x):=zH (by rw[←hx,zA10,zA7 iS];rfl);clear hx;obtain⟨d,hd⟩:=zX ((c+(i+63)/64)%4294967296);have ld:d<4294967296:=zOm;rw[hd];obtain⟨m,hm⟩:=zX (i%64);have lm:m<64:=zOm;have ft:Int.tmod (i:Int) 64=(m:Int):=zbK;have fm:IntKind.i64.wrap (m:Int)=(m:Int):=i64_in zOm;have lZ:(0:Int)≤(m:Int):=zOm;have Vg:(m:Int)<64:=zOm;have dd:IntKind.i64.wrap (d:Int)=(d:Int):=i64_in zOm;obtain⟨ks,Aw⟩:=zX (J2 k c n i)
  by_cases hm64:m=0
  ·subst hm64;have ft0:Int.tmod (i:Int) 64=0:=ft;have fm0:IntKind.i64.wrap 0=0:=zDc;obtain⟨d2,xM⟩:=zX ((c+(i+1+63)/64)%4294967296);have fd:IntKind.u32.wrap ((d:Int)+1)=(d2:Int):=by
    rw[show((d:Int)+1)=((d+1:Nat):Int) by omega,dW];omega
   have hdi:Hid (d=(c+i/64)%4294967296):=zH zOm;have hXn:Hid (i+1≤i+1∧((i+1)%64≠0→fV k d n 64=fV k ((c+(i+1)/64)%4294967296) n 64)):=zH ⟨zA0 _,fun _=>by rw[hdi.out];congr 3;omega⟩;have sH:Hid (fV k d n 64/256^0%256=ks):=zH (by rw[r8 k d n 64 0 zDc,←Aw,J2,hm,hdi.out]);replace xM:=zH xM;clear ft fm hd hm hX;go_wp2_with(first|(refine ab rfl _ _ rfl _ rfl zDk _ k4 zbx ?_)|(refine ab rfl _ _ rfl _ rfl zDk _ k6 zbx ?_));refine zQ (Bm k n d ld _) fun w5 hb=>?_;obtain⟨k4,k6,k9,k10⟩:=kJ k4 k6 k9 k10 hb;replace kb:=az kb hb;clear hb;go_upto_region 9 with(refine aD rfl _ _ _ rfl _ (ag 64 (fV k d n 64)) rfl rfl _ k10 zbx za3 (bm _ _) (fun w6 k10 hg aB=>?_))
   replace k4:=k4.kept hg zOm;replace k6:=k6.kept hg zOm;replace k9:=k9.kept hg zOm;replace kb:=aq kb hg zbL kb.size;clear hg aB;have rI:w6.cell? ⟨g10,0,none⟩=some (.int .u8 (ks:Int)):=by
    have q:=k10.cell (bX 64 (fV k d n 64) 0 zDc);rw[sH.out]at q;exact q
   have lk:Hid (ks<256):=zH zbM;have fx:=rG lx lk.out;have aL:=zH (T7 (bs:=bs) Rj.out Aw lx lk.out);have aI:=zH (show(aJ (MJ k c n bs i)).length=bs.length by rw[ai,xC]);clear Aw;go_wp2_with(refine bM rfl _ _ _ rfl g9 i (.int .u8 ((x ^^^ks:Nat):Int)) rfl rfl _ k9 zKr (by rw[aI.out];exact iS) rfl (fun w7 k9 hg aB=>?_));rw[aL.out]at k9;have q4:=k4.kept hg zOm;have q6:=k6.kept hg zOm;have q10:=k10.kept hg zOm;have qb:=aq kb hg zbL kb.size;go_wp2_with fail;exact⟨⟨i+1,fV k d n 64,by omega,by go_num,by rw[xM.out],q4,q6,k9,q10,hXn.out.2,qb⟩,by simp[intOf];omega⟩
  ·have dm:((m:Int)==0)=false:=zab;have sH:Hid (X/256^m%256=ks):=zH zbN;have hdn:Hid ((c+(i+1+63)/64)%4294967296=d):=zH zOm;have hXn:Hid ((i+1)%64≠0→X=fV k ((c+(i+1)/64)%4294967296) n 64):=zH (fun h=>by rw[hX.out zOm];congr 3;omega);have rI:wr.cell? ⟨g10,m,none⟩=some (.int .u8 (ks:Int)):=by
    have q:=k10.cell (bX 64 X m lm);rw[sH.out]at q;exact q
   clear hd hm hX;have lk:Hid (ks<256):=zH zbM;have fx:=rG lx lk.out;have aL:=zH (T7 (bs:=bs) Rj.out Aw lx lk.out);have aI:=zH (show(aJ (MJ k c n bs i)).length=bs.length by rw[ai,xC]);clear Aw;go_wp2_with(refine bM rfl _ _ _ rfl g9 i (.int .u8 ((x ^^^ks:Nat):Int)) rfl rfl _ k9 zKr (by rw[aI.out];exact iS) rfl (fun w7 k9 hg aB=>?_));rw[aL.out]at k9;have q4:=k4.kept hg zOm;have q6:=k6.kept hg zOm;have q10:=k10.kept hg zOm;have qb:=aq kb hg zbL kb.size;go_wp2_with fail;exact⟨⟨i+1,X,by omega,by go_num,by rw[hdn.out],q4,q6,k9,q10,hXn.out,qb⟩,by simp[intOf];omega⟩
 ·have dj:decide ((i:Int)<(bs.length:Int))=false:=decide_eq_false zOm;have jM:Hid (i=bs.length):=zH zOm;rw[jM.out]at k9;go_wp2_with fail;go_ret;exact⟨g9,rfl,by rw[mT.out];omega,k9,kb⟩
def mR (n:Nat):Nat:=(16-n%16)%16
theorem D0 (n:Nat) (hn:n≤1000000) (w:World):Calls Tryz.prog 213 #[.int .i64 (n:Int)] w fun e w'=>
 ∃g,e=.returned (.slice (some ⟨g,0,none⟩) (mR n) (mR n))∧w.heap.size≤g∧Arr w' g (aJ (List.replicate (mR n) 0))∧Below w.heap.size w w':=by
 obtain⟨p,hp⟩:=zX (n%16);obtain⟨q,hq⟩:=zX (16-p);obtain⟨m,hm⟩:=zX (mR n);have L0:q%16=m:=(by rw[←hm,mR,hp,hq]);have m1:Int.tmod (n:Int) 16=(p:Int):=zbA;have n1:IntKind.i64.wrap (p:Int)=(p:Int):=i64_in zOm;have e1:(16:Int)-(p:Int)=(q:Int):=zOm;have n2:IntKind.i64.wrap (q:Int)=(q:Int):=i64_in zOm;have m2:Int.tmod (q:Int) 16=(m:Int):=zbA;have n3:IntKind.i64.wrap (m:Int)=(m:Int):=i64_in zOm;have ud:=mN m zOm;rw[hm];replace hp:=zH hp;replace hq:=zH hq;replace L0:=zH L0;clear hm;go_enter Tryz.func213,Tryz.ntmps213;go_wp2_with fail;go_ret;exact⟨w.heap.size,rfl,zA0 _,Arr.new _ _ _,ae _ _⟩
theorem Bf (n:Nat) (hn:n≤9223372036854775807) (w:World):Calls Tryz.prog 214 #[.int .i64 (n:Int)] w fun e w'=>
 ∃g,e=.returned (.slice (some ⟨g,0,none⟩) 8 8)∧w.heap.size≤g∧Arr w' g (ag 8 n)∧Below w.heap.size w w':=by
 have ud:=mN 8 zDc;replace ud:∀w,(Instr.makeSlice 24 (.int .i64 8) (.int .i64 8)).run Tryz.prog w=.ok (.slice (some ⟨w.heap.size,0,none⟩) 8 8) (w.alloc (.cells (aJ (List.replicate 8 0)).toArray 5)):=ud;go_enter Tryz.func214,Tryz.ntmps214;go_upto_region 2 with fail
 refine aH (fun w2 aB k3 kb=>?_);replace k3:Arr w2 w.heap.size (ag 8 (n%256^0)):=by
  rw[Nat.pow_zero,Nat.mod_one];exact k3
 obtain⟨g,hg⟩:=zX w.heap.size;rw[hg]at k3⊢;replace hg:=zH hg;clear aB ud;go_wp2_with fail;go_loopw[8] (fun iv wr=>∃i:Nat,i≤8∧iv=.int .i64 i∧Arr wr g (ag 8 (n%256^i))∧Below w.heap.size w wr) (fun iv _=>8-(intOf iv).toNat)
 case atStart=>exact⟨0,by omega,rfl,k3,kb⟩
 case round=>
 clear k3 kb;obtain⟨i,hi,rfl,k3,kb⟩:=hrel;have mA:(0:Int)≤(i:Int):=zOm
 by_cases iS:i<8
 ·have ub:(i:Int)<8:=zOm;have hi8:i=0∨i=1∨i=2∨i=3∨i=4∨i=5∨i=6∨i=7:=zOm;obtain⟨b,hb⟩:=zX (n/256^i%256);have lb:b<256:=(by rw[←hb];exact zA1 _ zDc);have aL:Hid ((ag 8 (n%256^i)).set i (.int .u8 (b:Int))=ag 8 (n%256^(i+1))):=zH (by
   rw[nH (zA1 _ (Nat.pow_pos zDc)) lb,←hb,zA24,Nat.mod_mul])
  rcases hi8 with he|he|he|he|he|he|he|he
  ·have fe:8*(i:Int)=0:=zOm;have fb:IntKind.u8.wrap (n:Int)=(b:Int):=by
    rw[show(n:Int)=((n/1:Nat):Int) by omega,i7,←hb,he]
   exact zcW
  ·have fe:8*(i:Int)=8:=zOm;have fb:IntKind.u8.wrap ((n:Int)/256)=(b:Int):=by
    rw[show((n:Int)/256)=((n/256:Nat):Int) by omega,i7,←hb,he]
   exact zcW
  ·have fe:8*(i:Int)=16:=zOm;have fb:IntKind.u8.wrap ((n:Int)/65536)=(b:Int):=by
    rw[show((n:Int)/65536)=((n/65536:Nat):Int) by omega,i7,←hb,he]
   exact zcW
  ·have fe:8*(i:Int)=24:=zOm;have fb:IntKind.u8.wrap ((n:Int)/16777216)=(b:Int):=by
    rw[show((n:Int)/16777216)=((n/16777216:Nat):Int) by omega,i7,←hb,he]
   exact zcW
  ·have fe:8*(i:Int)=32:=zOm;have fb:IntKind.u8.wrap ((n:Int)/4294967296)=(b:Int):=by
    rw[show((n:Int)/4294967296)=((n/4294967296:Nat):Int) by omega,i7,←hb,he]
   exact zcW
  ·have fe:8*(i:Int)=40:=zOm;have fb:IntKind.u8.wrap ((n:Int)/1099511627776)=(b:Int):=by
    rw[show((n:Int)/1099511627776)=((n/1099511627776:Nat):Int) by omega,i7,←hb,he]
   exact zcW
  ·have fe:8*(i:Int)=48:=zOm;have fb:IntKind.u8.wrap ((n:Int)/281474976710656)=(b:Int):=by
    rw[show((n:Int)/281474976710656)=((n/281474976710656:Nat):Int) by omega,i7,←hb,he]
   exact zcW
  ·have fe:8*(i:Int)=56:=zOm;have fb:IntKind.u8.wrap ((n:Int)/72057594037927936)=(b:Int):=by
    rw[show((n:Int)/72057594037927936)=((n/72057594037927936:Nat):Int) by omega,i7,←hb,he]
   exact zcW
 ·have dj:decide ((i:Int)<8)=false:=decide_eq_false zOm;have jM:Hid (i=8):=zH zOm;rw[jM.out]at k3;go_wp2_with fail;go_ret;refine⟨g,rfl,by rw[hg.out];exact zA0 _,?_,kb⟩;have e:ag 8 (n%256^8)=ag 8 n:=(by rw[zA4 zOm]);rw[e]at k3;exact k3
theorem Sj {w:World} {B:Nat} {e:TypeId} {g n cap j:Nat} {xs:List Value} {u:Value} (h:w.ownsRow B e 1 (.slice (some ⟨g,0,none⟩) n cap) n xs):
 (w.setCell ⟨g,j,none⟩ u).ownsRow B e 1 (.slice (some ⟨g,0,none⟩) n cap) n (xs.set j u):=by
 obtain⟨h1,h2⟩:=h;refine⟨by simpa using h1,?_⟩;rcases h2 with⟨h3,-⟩|⟨g',cap',cur,h3,h4,h5,h6,h7,h8,h9⟩
 ·cases h3
 ·simp only[Value.slice.injEq,Option.some.injEq,Addr.mk.injEq]at h3;obtain⟨⟨rfl,-,-⟩,-,rfl⟩:=h3;refine .inr ⟨g,cap,_,rfl,h4,heap_setCell_same w g j cur e u h5,h6,h7,by simpa using h8,?_⟩;rw[Array.toList_setIfInBounds,List.take_set,h9]
theorem AS {w:World} {B:Nat} {e:TypeId} {g n cap:Nat} {xs:List Value} (h:w.ownsRow B e 1 (.slice (some ⟨g,0,none⟩) n cap) n xs):∃C,Arr w g C∧n≤C.length∧C.take n=xs:=by
 rcases h.2 with⟨h3,-⟩|⟨g',cap',cur,h3,h4,h5,h6,h7,h8,h9⟩
 ·cases h3
 ·simp only[Value.slice.injEq,Option.some.injEq,Addr.mk.injEq]at h3;obtain⟨⟨rfl,-,-⟩,-,rfl⟩:=h3;refine⟨cur.toList,⟨e,by simpa using h5⟩,?_,by simpa using h9⟩;simp;omega
theorem Sh {w:World} {B:Nat} {e:TypeId} {g n cap j:Nat} {xs:List Value} {u:Value} (h:w.ownsRow B e 1 (.slice (some ⟨g,0,none⟩) n cap) n xs) (hj:xs[j]? =some u):w.cell? ⟨g,j,none⟩=some u:=by
 obtain⟨C,h1,h2,h3⟩:=AS h;refine h1.cell ?_;rw[←h3,List.getElem?_take]at hj;split at hj
 ·exact hj
 ·cases hj
def Ow (w:World) (B:Nat) (e:TypeId) (v:Value) (n:Nat) (xs:List Value):Prop:=w.ownsRow B e 1 v n xs
theorem Ow.below {w w':World} {B:Nat} {e:TypeId} {v:Value} {n:Nat} {xs:List Value} (h:Ow w B e v n xs) (hb:Below w.heap.size w w'):Ow w' B e v n xs:=dg h hb
theorem Ow.grown {w w':World} {B g:Nat} {e:TypeId} {v:Value} {n:Nat} {xs:List Value} (h:Ow w B e v n xs) (hg:w.grownBy w' (some g)) (hb:g<B):Ow w' B e v n xs:=fH h hg (fun q=>by have:=(World.ownsRow.lt h g q).1;omega)
theorem Ow.keptN {w w':World} {B g:Nat} {e:TypeId} {v:Value} {n:Nat} {xs:List Value} (h:Ow w B e v n xs) (hg:w.grownBy w' (some g)) (rW:v.ownBlock=none∨v.ownBlock≠some g):Ow w' B e v n xs:=h.kept hg rW
section
variable {P:Program} {Q:Exit→Act→World→Prop}
theorem vT {l:List Oper} {S:World→Prop} {B f d:Nat} {a:Act} {w w0:World} {o:Obj} {F:World→Prop} (hF:F (w0.alloc o)) (hd:∀w,F w→F w.drew) (hw:w=w0.alloc o∨w=(w0.alloc o).drew)
 (h:∀w',F w'→Below w0.heap.size w0 w'→Tx P l Q S B f d a w'):Tx P l Q S B f d a w:=by
 rcases hw with rfl|rfl
 ·exact h _ hF (ae _ _)
 ·exact h _ (hd _ hF) (ae _ _).drew
theorem EL {l:List Oper} {o:Oper} {a:Act} {w:World} {K:Act→World→Prop} {E:Prop} (hw:Region.wanted o (yielded l.toArray a.tmps)=true) (ty:TypeId) (x y:Operand) (ho:o.op=.store ty x y)
 (g j:Nat) (u:Value) (hx:a.eval x=.pointer (some ⟨g,j,none⟩)) (hy:a.eval y=u) (B:Nat) (e:TypeId) (n cap:Nat) (xs:List Value) (hg:w.ownsRow B e 1 (.slice (some ⟨g,0,none⟩) n cap) n xs) (hi:(P.info? ty).map (·.size)=some 1) (hj:j<n) (hu:u.oneCell'=true)
 (h:∀W,W.ownsRow B e 1 (.slice (some ⟨g,0,none⟩) n cap) n (xs.set j u)→w.grownBy W (some g)→W.heap.size=w.heap.size→K (a.put o.dst undef) W):if Region.wanted o (yielded l.toArray a.tmps)=true then Oper.wp P o a w K Q else E:=by
 obtain⟨C,h1,h2,h3⟩:=AS hg;rw[if_pos hw];unfold Oper.wp execOp;simp only[ho,hx,hy,Sem.run_bind,Sem.run_pure,Result.andThen_ok,py h1 (by omega:j<C.length) hi hu];exact h _ (Sj hg) (bY w g j u) zaR
end
theorem Sl.ofArrN {w:World} {g m:Nat} {l:List UInt8} (h:Arr w g (aJ l)) (hm:l.length=m) (hl:m≤1000000):Sl w (.slice (some ⟨g,0,none⟩) m m) (aJ l):=by
 have hq:(aJ l).length≤maxLen:=zbQ;have:=Sl.of_part h rfl (zA0 _) hq (fun j _=>by rw[Nat.zero_add]);rw[ai,hm]at this;exact this
theorem Sls.new6 {w:World} {v1 v2 v3 v4 v5 v6:Value} {b1 b2 b3 b4 b5 b6:List UInt8} (h1:Sl w v1 (aJ b1)) (h2:Sl w v2 (aJ b2)) (h3:Sl w v3 (aJ b3)) (h4:Sl w v4 (aJ b4)) (h5:Sl w v5 (aJ b5)) (h6:Sl w v6 (aJ b6)) (T:TypeId):
 Sls (w.alloc (.cells #[v1,v2,v3,v4,v5,v6] T)) (.slice (some ⟨w.heap.size,0,none⟩) 6 6) [b1,b2,b3,b4,b5,b6]:=by
 refine⟨[v1,v2,v3,v4,v5,v6],⟨_,6,rfl,zA0 _,by decide,fun h=>zaa,fun x hx=>?_⟩,rfl,?_⟩
 ·cases hx;intro j u hu;rw[Addr.add_lit,Nat.zero_add];exact(Arr.new w #[v1,v2,v3,v4,v5,v6] T).cell hu
 ·intro j a b' ha jW
  match j with
  |0=>simp only[List.getElem?_cons_zero,Option.some.injEq]at ha jW;subst ha jW;exact h1.alloc _
  |1=>simp only[List.getElem?_cons_zero,zA33,Option.some.injEq]at ha jW;subst ha jW;exact h2.alloc _
  |2=>simp only[List.getElem?_cons_zero,zA33,Option.some.injEq]at ha jW;subst ha jW;exact h3.alloc _
  |3=>simp only[List.getElem?_cons_zero,zA33,Option.some.injEq]at ha jW;subst ha jW;exact h4.alloc _
  |4=>simp only[List.getElem?_cons_zero,zA33,Option.some.injEq]at ha jW;subst ha jW;exact h5.alloc _
  |5=>simp only[List.getElem?_cons_zero,zA33,Option.some.injEq]at ha jW;subst ha jW;exact h6.alloc _
  |j+6=>simp at ha
def fy (n:Nat):List UInt8:=List.replicate (mR n) 0
def jh (n:Nat):List UInt8:=(bF 256 8 n).map UInt8.ofNat
theorem me (n:Nat):(jh n).length=8:=by simp[jh,bj]
def Gu (k n:Nat):Nat:=fV k 0 n 64%256^32
def Gv (bs side:List UInt8):List (List UInt8):=[side,fy side.length,bs,fy bs.length,jh side.length,jh bs.length]
def De (k n:Nat) (bs side:List UInt8):Nat:=Aj (lD (Gu k n)) (Gu k n/2^128) (Gv bs side).flatten
theorem WW (k n:Nat):Gu k n<256^32:=zA1 _ zDc
theorem D3 (X:Nat):∀j,j<(ag 32 (X%256^32)).length→(ag 64 X)[0+j]? =(ag 32 (X%256^32))[j]? :=by
 intro j hj;rw[aa]at hj;rw[Nat.zero_add,bX _ _ _ zOm,bX _ _ _ hj];have e2:256^32=256^j*(256*256^(32-j-1)):=(by rw[←zA26,←zA24,←Nat.pow_add,show j+1+(32-j-1)=32 by omega]);rw[e2,Nat.mod_mul_right_div_self,Nat.mod_mul_right_mod]
theorem PB (k n:Nat) (a1 a2:Option Addr) (c1 c2:Nat) (bs side:List UInt8) (l1:bs.length≤100000) (l2:side.length≤100000) (w:World) (h1:Sl w (.slice a1 bs.length c1) (aJ bs)) (h2:Sl w (.slice a2 side.length c2) (aJ side)):
 CB 174 #[.agg (ag 32 k).toArray,.agg (ag 12 n).toArray,.slice a1 bs.length c1,.slice a2 side.length c2] w (.agg (ag 16 (De k n bs side)).toArray):=by
 have s1:=zH h1;have s2:=zH h2;clear h1 h2;go_enter Tryz.func174,Tryz.ntmps174;go_upto_region 1 with fail
 refine bZ (fun W aB k4 k5 k8 kb=>?_);have k4:Arr W w.heap.size (ag 32 k):=k4;have k5:Arr W (w.heap.size+1) (ag 12 n):=k5;have k8:Arr W (w.heap.size+1+1) (ag 16 0):=k8;clear aB;go_wp2_with(first|(refine ab rfl _ _ rfl _ rfl zDk _ k4 zbx ?_)|(refine ab rfl _ _ rfl _ rfl zDk _ k5 zbx ?_));refine zQ (Bm k n 0 zDc _) fun w1 hb=>?_;replace k8:=k8.below hb;replace kb:=az kb hb;clear hb k4 k5;obtain⟨X,hX⟩:=zX (fV k 0 n 64);rw[hX];go_upto_region 2 with(refine aD rfl _ _ _ rfl _ (ag 64 X) rfl rfl _ (Arr.new _ _ _) zbx zbR (bm _ _) (fun w2 k9 hg aB=>?_))
 have hb:=a9 hg;have h89:=k8.lt;replace k8:=k8.below hb;replace kb:=az kb hb;obtain⟨g9,kP⟩:=zX w1.heap.size;rw[kP]at k9 h89⊢;obtain⟨g8,AM⟩:=zX (w.heap.size+1+1);rw[AM]at k8 h89⊢;have Z7:w.heap.size≤g8:=zOm;clear hb aB kP AM hg;obtain⟨K,hK⟩:=zX (X%256^32);have hKt:Hid (Gu k n=K):=zH (by rw[Gu,hX,hK]);have lK:Hid (K<256^32):=zH (by rw[←hK];exact zA1 _ zDc);have hpt:=D3 X;rw[hK]at hpt;replace hpt:=zH hpt;clear hX hK;replace s1:=zH (s1.out.below kb);replace s2:=zH (s2.out.below kb);obtain⟨T,hT⟩:=zX (Aj (lD K) (K/2^128) (Gv bs side).flatten);have cS:=zH (show ∀w g,Sls w (.slice (some ⟨g,0,none⟩) 6 6) (Gv bs side)→CB 212 #[.agg (ay K).toArray,.slice (some ⟨g,0,none⟩) 6 6] w (.agg (ag 16 T).toArray) from fun w g h=>by rw[←hT];exact Sx K lK.out _ _ (Gv bs side) w h);have hTt:Hid (De k n bs side=T):=zH (by rw[De,hKt.out];exact hT);clear hT
 have DJ:∀w,(Instr.arrayAt 27 (.slice (some ⟨g9,0,none⟩) 32 64)).run Tryz.prog w=.ok (.pointer (some ⟨g9,0,none⟩)) w:=fun w=>run_arrayAt w 27 5 32 _ 32 64 Tryz.underlying27 zDc;refine cH 19 20 fun aP=>?_;refine eZ ?_ 7 56255 zaD [0,1,2,3,4,5,7,8,9,11,12,14,15] (fun w' hB=>by have yr:w'.rangeAt g9 0 (ag 32 K):=(k9.below hB).range hpt.out;exact zRm) ?_;refine aY 6 56319 rfl zDk (fun K hK=>?_);go_simp;refine(D0 side.length zOm _).mono ?_;rintro e i8 ⟨gA,rfl,hgA,kA,dA⟩;have bn:=aW aP (zA0 _) dA;refine hK (fun w'=>Below (w2).heap.size (w2) w') _ _ bn (fun _ h=>h) ?_;clear hK K aP;try simp only[Act.put,zSa,zSz,zSs]
 refine aY 10 57343 rfl zDk (fun K hK=>?_);go_simp;refine(D0 bs.length zOm _).mono ?_;rintro e jF ⟨gB,rfl,Qx,kB,dc⟩;have bB:=aW bn (zA0 _) dc;refine hK (fun w'=>Below (w2).heap.size (w2) w') _ _ bB (fun _ h=>h) ?_;clear hK K bn;try simp only[Act.put,zSa,zSz,zSs]
 have kA:=kA.below dc;refine aY 13 65535 rfl zDk (fun K hK=>?_);go_simp;refine(Bf side.length zOm _).mono ?_;rintro e pJ ⟨gC,rfl,hgC,kC,fG⟩;have b9:=aW bB (zA0 _) fG;refine hK (fun w'=>Below (w2).heap.size (w2) w') _ _ b9 (fun _ h=>h) ?_;clear hK K bB;try simp only[Act.put,zSa,zSz,zSs]
 have kA:=kA.below fG;have kB:=kB.below fG;refine aY 16 131071 rfl zDk (fun K hK=>?_);go_simp;refine(Bf bs.length zOm _).mono ?_;rintro e m9 ⟨gD,rfl,hgD,kD,gH⟩;have di:=aW b9 (zA0 _) gH;refine hK (fun w'=>Below (w2).heap.size (w2) w') _ _ di (fun _ h=>h) ?_;clear hK K b9;try simp only[Act.put,zSa,zSz,zSs]
 have kA:=kA.below gH;have kB:=kB.below gH;have kC:=kC.below gH;have pA:=Sl.ofArrN (m:=mR side.length) (l:=fy side.length) kA (by simp[fy]) (by unfold mR;omega);have pB:=Sl.ofArrN (m:=mR bs.length) (l:=fy bs.length) kB (by simp[fy]) (by unfold mR;omega);rw[sd]at kC kD;have pC:=Sl.ofArrN (m:=8) (l:=jh side.length) kC (me _) zDc;have pD:=Sl.ofArrN (m:=8) (l:=jh bs.length) kD (me _) zDc;refine aY 17 262143 rfl zDk (fun K hK=>?_);go_simp;refine hK (fun w'=>Below (w2).heap.size (w2) w') _ _ (aW di (zA0 _) (ae _ _)) (fun _ h=>h) ?_;clear hK K;try simp only[Act.put,zSa,zSz,zSs]
 refine vT (F:=fun w'=>Sls w' (.slice (some ⟨(m9).heap.size,0,none⟩) 6 6) [side,fy side.length,bs,fy bs.length,jh side.length,jh bs.length]) (w0:=m9) (Sls.new6 (s2.out.below di) pA (s1.out.below di) pB pC pD _) (fun w1 h=>h.below (zA6 _ _).drew) zbS (fun qD hS6 ia=>?_);have dV:Below (w2).heap.size (w2) qD:=(by first|exact ia|exact aW di (zA0 _) ia);clear di;refine eg 18 524287 dV (cS.out _ _ hS6) fun uG iB=>?_;refine bf 1048575 rfl zDk (fun K hK=>?_);replace k8:=k8.below iB;replace kb:=az kb iB;clear iB;refine gg rfl _ _ _ rfl g8 (ag 16 T) rfl rfl _ k8 zbx za3 (bm _ _) (fun w9 k8 hg aB=>?_);have qb:=aq kb hg Z7 kb.size;refine hK (fun _=>True) 9999 _ _ ?_;clear hK K;try simp only[Act.put]
 try simp only[zSa,zSz,zSs]
 refine ap zKr ?_;go_wp2_with fail;rw[hTt.out];exact bodyPost_ret (aj Tryz.results174 _ _ _ rfl zKr _ k8 zbx) rfl ⟨rfl,qb⟩
end Go.Proofs.YtgfkgolafkdjfaaGreatDoor
