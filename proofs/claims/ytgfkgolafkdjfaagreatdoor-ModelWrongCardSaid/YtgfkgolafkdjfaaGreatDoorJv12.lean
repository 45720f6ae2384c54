/- ModelWrong: part 12 of its proof: lemmas and contracts, each with its conditions in its own statement; the last part holds the law itself. -/
import Derived.Test.YtgfkgolafkdjfaaGreatDoorJv11

set_option maxHeartbeats 4000000
set_option maxRecDepth 100000
namespace Go.Proofs.YtgfkgolafkdjfaaGreatDoor
open Go.RowKit
def PSt (w:World) (g R:Nat) (L:List UInt8):Prop:=∃h bs,PolySt R L h∧bs.length=16∧bs.take (L.length%16)=kj L∧Arr w g (rX h R bs (L.length%16))
theorem PSt.below {w w':World} {g R:Nat} {L:List UInt8} (h:PSt w g R L) (hb:Below w.heap.size w w'):PSt w' g R L:=by
 obtain⟨h,bs,h1,h2,h3,h4⟩:=h;exact⟨h,bs,h1,h2,h3,h4.below hb⟩
theorem PSt.lt {w:World} {g R:Nat} {L:List UInt8} (h:PSt w g R L):g<w.heap.size:=by
 obtain⟨h,bs,-,-,-,h4⟩:=h;exact h4.lt
theorem PSt.start {w:World} {g R:Nat} (h:Arr w g (rX 0 R (List.replicate 16 0) 0)):PSt w g R []:=⟨0,_,PolySt.nil R,by simp,rfl,h⟩
theorem Sz (g R:Nat) (L:List UInt8) (x:UInt8) (w:World) (k0:PSt w g R L) (hR:R<2^124):
 Calls Tryz.prog 234 #[.pointer (some ⟨g,0,none⟩),.int .u8 (x.toNat:Int)] w fun e w'=>e=.returned (.tuple #[])∧PSt w' g R (L++[x])∧w.grownBy w' (some g):=by
 obtain⟨h,bs,h1,h2,h3,h4⟩:=k0;refine(OA g h R (L.length%16) bs x w h4 h2 (zA1 _ zDc) h1.2 hR).mono ?_;rintro e w' ⟨rfl,k1,kg⟩;refine⟨rfl,?_,kg⟩;have hl:(L++[x]).length=L.length+1:=zac;have e2:(bs.set (L.length%16) x).take (L.length%16+1)=kj L++[x]:=by
  rw[List.take_succ_eq_append_getElem zab,List.take_set_of_le (zA0 _),h3];simp
 by_cases qJ:L.length%16=15
 ·rw[if_pos qJ]at k1;have e3:bs.set (L.length%16) x=kj L++[x]:=by
   exact zfN
  rw[e3]at k1;refine⟨_,kj L++[x],h1.full hR x qJ,by rw[←e3,zA23];exact h2,?_,?_⟩
  ·rw[Ij L x qJ,hl,show(L.length+1)%16=0 by omega];rfl
  ·rw[hl,show(L.length+1)%16=0 by omega];exact k1
 ·rw[if_neg qJ]at k1;refine⟨_,bs.set (L.length%16) x,h1.snoc x qJ,by rw[zA23];exact h2,?_,?_⟩
  ·rw[Ik L x qJ,hl,show(L.length+1)%16=L.length%16+1 by omega,e2]
  ·rw[hl,show(L.length+1)%16=L.length%16+1 by omega];exact k1
theorem kS {ls:List (List UInt8)} {i:Nat} (h:i<ls.length):(ls.take (i+1)).flatten=(ls.take i).flatten++ls[i]:=by
 rw[List.take_succ_eq_append_getElem h,List.flatten_append];simp
theorem GR (n:Nat):ag 16 n=ag 16 (n%2^128):=by
 apply List.ext_getElem?;intro j
 by_cases hj:j<16
 ·rw[bX _ _ _ hj,bX _ _ _ hj];have e:(2:Nat)^128=256^j*(256*256^(15-j)):=by
   rw[←zA26,←zA24,←Nat.pow_add,show j+1+(15-j)=16 by omega]
  rw[e,Nat.mod_mul_right_div_self,Nat.mod_mul_right_mod]
 ·rw[zA13 za4,zA13 za4]
theorem US (n:Nat):∀j,j<(ag 16 n).length→(ay n)[0+j]? =(ag 16 n)[j]? :=by
 intro j hj;rw[aa]at hj;rw[Nat.zero_add,bH _ _ zOm,bX _ _ _ hj]
theorem RA (K:Nat) (hK:K<256^32):aw 4 (K/2^128)=[.int .u64 ((K/18446744073709551616^2%18446744073709551616:Nat):Int),.int .u64 ((K/18446744073709551616^3%18446744073709551616:Nat):Int),.int .u64 0,.int .u64 0]:=by
 have e:=wQ (x0:=K/18446744073709551616^2%18446744073709551616) (x1:=K/18446744073709551616^3%18446744073709551616) (x2:=0) (x3:=0) (zA1 _ zDc) (zA1 _ zDc) zDc zDc;rw[←show K/2^128=K/18446744073709551616^2%18446744073709551616+18446744073709551616*(K/18446744073709551616^3%18446744073709551616)+18446744073709551616^2*0+18446744073709551616^3*0 by omega]at e;exact e
theorem Sx (K:Nat) (hK:K<256^32) (d:Option Addr) (cap:Nat) (ls:List (List UInt8)) (w:World) (hs:Sls w (.slice d ls.length cap) ls):
 Calls Tryz.prog 212 #[.agg (ay K).toArray,.slice d ls.length cap] w fun e w'=>e=.returned (.agg (ag 16 (Aj (lD K) (K/2^128) ls.flatten)).toArray)∧Below w.heap.size w w':=by
 have aI:=hs.len;obtain⟨-,NF,ye⟩:=aI;unfold maxLen at ye;have hRl:=CH K;have c1:=fun w=>FU K hK w;obtain⟨R,hR⟩:=zX (lD K);rw[hR]at hRl c1⊢;have c2:=fun g L x w k=>Sz g R L x w k hRl;obtain⟨X,hX⟩:=zX (Ending.returned (.agg (ag 16 (Aj R (K/2^128) ls.flatten)).toArray));rw[hX];replace hX:=zH hX;replace hs:=zH hs;replace c1:=zH c1;replace c2:=zH c2;replace hK:=zH hK;replace hRl:=zH hRl;clear hR;go_enter Tryz.func212,Tryz.ntmps212;go_upto_region 1 with fail
 refine be (fun W aB k0 k4 kb=>?_);have k4:Arr W (w.heap.size+1) (ag 16 0):=k4;clear aB;go_wp2_with(refine aR ?_);refine zQ (c1.out _) fun mU dG=>?_;obtain⟨k0,k4⟩:=fZ k0 k4 dG;have kb:=az kb dG;clear dG;have hl4:=aF 4 R;go_upto_region 2 with fail
 clear hl4;refine aH (fun w3 ZW k5 nj=>?_);have k5:Arr w3 mU.heap.size (rX 0 R (List.replicate 16 0) 0):=(congrArg (Arr w3 mU.heap.size) zKr).mp k5;have k5:=PSt.start k5;have lt0:=k0.lt;have lt4:=k4.lt;obtain⟨k0,k4⟩:=fZ k0 k4 nj;have kb:=az kb nj;generalize Value.agg (List.foldl _ _ (aw 4 R).zipIdx)=vz;generalize mU.heap.size=g5 at k5 lt0 lt4⊢;clear ZW nj;try simp only[Act.put,zSa,zSz,zSs]
 have ib:(ls.length:Int)≤9223372036854775807:=zOm;go_wp2_with fail;go_loopw[21] (fun iv wr=>∃i:Nat,i≤ls.length∧iv=.int .i64 i∧Arr wr w.heap.size (ay K)∧Arr wr (w.heap.size+1) (ag 16 0)∧PSt wr g5 R (ls.take i).flatten∧Below w.heap.size w wr) (fun iv _=>ls.length-(intOf iv).toNat)
 case atStart=>exact⟨0,zA28 _,rfl,k0,k4,k5,kb⟩
 case round=>
  clear k0 k4 k5 kb;obtain⟨i,hi,rfl,k0,k4,k5,kb⟩:=hrel
  by_cases bK:i<ls.length
  ·obtain⟨b,o,x,c,rfl,kW,dI⟩:=hs.out.at bK;have bo:wr.cell? ⟨b,o+i,none⟩=some (.slice x ls[i].length c):=za7;have fR:=kS bK;obtain⟨l,hl⟩:=zX (ls[i]);rw[hl]at fR bo dI;obtain⟨pre,Az⟩:=zX ((ls.take i).flatten);rw[Az]at k5 fR;have dF:=dI.len;rw[ai]at dF;obtain⟨-,adf,Qs⟩:=dF;unfold maxLen at Qs;clear Az hl kW;replace fR:=zH fR;replace dI:=zH dI;have ilt:(i:Int)<(ls.length:Int):=zOm;go_wp2_with fail;clear bo;go_loopw[27] (fun jv wr=>∃j:Nat,j≤l.length∧jv=.int .i64 j∧Arr wr w.heap.size (ay K)∧Arr wr (w.heap.size+1) (ag 16 0)∧PSt wr g5 R (pre++l.take j)∧Below w.heap.size w wr) (fun jv _=>l.length-(intOf jv).toNat)
   case atStart=>exact⟨0,zA28 _,rfl,k0,k4,by rw[List.take_zero,zA31];exact k5,kb⟩
   case round=>
    clear k0 k4 k5 kb;obtain⟨j,hj,rfl,k0,k4,k5,kb⟩:=hrel
    by_cases hltj:j<l.length
    ·obtain⟨b2,o2,rfl,-,-,-,np⟩:=dI.out.at zaV;have bo:=np j _ (eY l j hltj);have Ad:wr.cell? ⟨b2,o2+j,none⟩=some (.int .u8 (l[j].toNat:Int)):=za8;have Re:pre++l.take (j+1)=pre++l.take j++[l[j]]:=za9;have IX:l[j].toNat<256:=l[j].toNat_lt;have c3:=zH (c2.out g5 (pre++l.take j) l[j] wr k5);generalize l[j]=y at*;rw[←Re]at c3;clear np bo Re;have jlt:(j:Int)<(l.length:Int):=zOm;go_wp2_with fail;clear Ad;refine c3.out.mono ?_;rintro e w4 ⟨rfl,k5',hg⟩;have lt5:=k5.lt;have lt0:=k0.lt;have k0:=k0.kept hg zOm;have k4:=k4.kept hg zOm;have kb:=aq kb hg zOm zOm;clear c3 hg;go_wp2_with fail;exact⟨⟨j+1,by omega,by go_num,k0,k4,k5',kb⟩,by simp[intOf];omega⟩
    ·obtain rfl:j=l.length:=zOm;rw[zA8 (zA0 _),←fR.out]at k5;go_wp2_with fail;exact⟨⟨i+1,by omega,by go_num,k0,k4,k5,kb⟩,by simp[intOf];omega⟩
  ·obtain rfl:i=ls.length:=zOm;rw[zA8 (zA0 _)]at k5;obtain⟨L,hL⟩:=zX ls.flatten;rw[hL]at k5;have hX:=hX.out;rw[hL]at hX;obtain⟨h,bs,QY,Hi,htk,k5⟩:=k5;obtain⟨nt,pI⟩:=QY.last hRl.out;obtain⟨H,hH⟩:=zX (Eo R h L);rw[hH]at nt pI;obtain⟨w3,Vm,adT,NO⟩:=U3 nt pI;obtain⟨kk,uA⟩:=zX (kE R L ((L.length+15)/16));have Us:kk<mD:=uA▸So _ _ _;rw[Aj]at hX;rw[uA]at NO hX;have hKl:=hK.out;obtain⟨T0,hT0⟩:=zX (kk+K/2^128);rw[hT0,←GR]at hX;have s1:=fun w=>ku K hKl w;have s2:=fun w=>ke kk (K/2^128) w;rw[RA K hKl,hT0]at s2;have s3:=fun w=>qY T0 w;have s4:=US T0;have s5:=bQ 4 K 2 zDc;have s6:=bQ 4 K 3 zDc;obtain⟨x2,Po⟩:=zX (K/18446744073709551616^2%18446744073709551616);obtain⟨x3,hx3⟩:=zX (K/18446744073709551616^3%18446744073709551616);rw[Po]at s2 s5;rw[hx3]at s2 s6;obtain⟨cy,ff⟩:=zX (jH 18446744073709551616 4 kk (K/2^128));rw[ff]at s2;have f1:=fun w=>tL H (zA25 pI zDc) w;obtain⟨F1,hF1⟩:=zX (bR H)
   have lF1:F1≤H:=hF1▸pT H;rw[hF1]at f1 Vm;have f2:=fun w=>tL F1 (zA9 lF1 (zA25 pI zDc)) w;obtain⟨F2,hF2⟩:=zX (bR F1);have lF2:F2≤F1:=hF2▸pT F1;rw[hF2]at f2 Vm;have f3:=fun w=>tL F2 (zA9 lF2 (zA9 lF1 (zA25 pI zDc))) w;rw[Vm]at f3;have GH:mD<18446744073709551616^4:=zDc;have X7:w3<18446744073709551616^4:=zA25 adT zDc;have f4:=fun w=>mn w3 mD zOm w;have Jq:=ma X7 GH;have hDm:¬w3<mD→aw 4 (w3+18446744073709551616^4-mD)=aw 4 (w3-mD):=fun hge=>om _ _ ⟨1,by omega⟩;obtain⟨D,hD⟩:=zX (w3+18446744073709551616^4-mD);obtain⟨cb,qQ⟩:=zX (fg 18446744073709551616 4 w3 mD);rw[hD,qQ]at f4;rw[qQ]at Jq;rw[hD]at hDm;have Ac:(cb=1∧w3=kk)∨(cb=0∧aw 4 D=aw 4 kk):=by
    by_cases hlq:w3<mD
    ·rw[if_pos hlq]at Jq NO;exact .inl ⟨Jq,NO⟩
    ·rw[if_neg hlq]at Jq NO;exact .inr ⟨Jq,by rw[hDm hlq,NO]⟩
   obtain⟨n,hn⟩:=zX (L.length%16);have ZL:n<16:=hn▸zA1 _ zDc;rw[hn]at k5 htk;have qR:=EM (h:=h) (r:=R) (n:=n) Hi;have hH0:n=0→h=H:=(by rintro rfl;rw[←hH,Eo,if_pos hn]);have hH1:n≠0→bR ((h+wg (bs.take n))*R)=H:=(by intro rW;rw[←hH,Eo,if_neg zOm,htk]);have tt:=fun w k=>EB g5 h R n bs w k Hi zOm QY.2 hRl.out;clear hs c1 c2 nt pI hH adT NO uA Us hKl hT0 Po hx3 ff hF1 lF1 hF2 lF2 Vm GH X7 Jq hDm hD qQ QY htk hK hRl hn hL;replace hX:=zH hX;replace s1:=zH s1;replace s2:=zH s2;replace s3:=zH s3;replace s4:=zH s4;replace s5:=zH s5;replace s6:=zH s6;replace f1:=zH f1;replace f2:=zH f2;replace f3:=zH f3;replace f4:=zH f4;replace Ac:=zH Ac;replace hH0:=zH hH0;replace hH1:=zH hH1;replace tt:=zH tt;replace Hi:=zH Hi;have rI:=k5.cell qR;replace qR:=zH qR
   by_cases L5:n=0
   ·have hHe:=hH0.out L5;rw[hHe]at k5;clear hH0 hH1 tt hHe;subst L5;go_upto_region 13 with fail
    clear rI;have hrh:=k5.range (o:=0) (cs:=aw 4 H) (fun j hj=>TL hj);go_upto_region 13 with fail
    go_wp2_with(refine aE rfl _ _ rfl _ _ rfl zKr _ hrh zLn ?_);clear hrh;refine zQ (f1.out _) fun i8 dA=>?_;obtain⟨k0,k4⟩:=fZ k0 k4 dA;have kb:=az kb dA;clear dA;go_wp2_with(first|refine aR ?_|refine aU ?_);refine zQ (f2.out _) fun jF dc=>?_;obtain⟨k0,k4⟩:=fZ k0 k4 dc;have kb:=az kb dc;clear dc;go_wp2_with(first|refine aR ?_|refine aU ?_);refine zQ (f3.out _) fun pJ fG=>?_;obtain⟨k0,k4⟩:=fZ k0 k4 fG;have kb:=az kb fG;clear fG;go_upto_region 14 with(first|refine aR ?_|refine aU ?_)
    obtain⟨yi,mj⟩:=IP k0 k4;refine aK (fun m9 k10 aA=>?_);obtain⟨k0,k4⟩:=fZ k0 k4 aA;have kb:=az kb aA;clear aA;generalize (pJ).heap.size=pU at k10 yi mj⊢;have adF:=kb.size;refine cH 7 9 fun dV=>?_;refine dz ?_ 8 1 zaL [0] (fun w' hB=>by have e1:=k10.below hB;exact zRd) ?_;refine bG 2 127 [(1,52),(2,53),(3,50),(4,54),(5,55),(6,11)] [(false,[]),(false,[(1,52)]),(true,[(2,53)]),(true,[(3,50)]),(true,[(3,50)]),(false,[])] [(1,Ph.is (.agg (aw 4 mD).toArray)),(2,Ph.is (.tuple #[.agg (aw 4 D).toArray,.int .u64 (cb:Int)])),(3,Ph.is (.tuple #[.agg (aw 4 D).toArray,.int .u64 (cb:Int)])),(4,Ph.is (.agg (aw 4 D).toArray)),(5,Ph.is (.int .u64 (cb:Int))),(6,Ph.arr (m9).heap.size (aw 4 0))] zKr zKr zaA ?_ ?_
    ·refine⟨⟨_,rfl,?_⟩,⟨_,rfl,?_⟩,⟨_,rfl,?_⟩,⟨_,rfl,?_⟩,⟨_,rfl,?_⟩,⟨_,rfl,?_⟩,trivial⟩
     ·exact oT CJ
     ·exact DB f4.out
     ·exact zdf
     ·exact zc0
     ·exact zc0
     ·exact zcV
    intro vs ahK Qc afv hP hD;obtain⟨q1,q2,q3,q4,q5,q6,-⟩:=hP;simp only[aG,Act.put,zSa,zSz,zSs];rw[show vs 1=_ from q1,show vs 2=_ from q2,show vs 3=_ from q3,show vs 4=_ from q4,show vs 5=_ from q5];clear q1 q2 q3 q4 q5;obtain⟨g6,e6,lV,uq⟩:=q6;rw[e6];clear e6 hD vs;have ltk0:=zA3 k0.lt lV;have ltk4:=zA3 k4.lt lV;have ltk10:=zA3 k10.lt lV;obtain⟨k0,k4,k10⟩:=dZ k0 k4 k10 Qc;have kb:=az kb Qc;refine kO 255 ?_;refine dz ?_ 0 511 zaC [8] (fun _ _=>zRd) ?_;refine ap zKr ?_;refine aV uq (fun uG uq ad ak=>?_);obtain⟨k0,k4,k10⟩:=Dz ad k0 k4 k10;have kb:=ak _ _ zOm kb;clear ad ak;have k11:=uq;clear uq;generalize g6=g11 at*;rcases Ac.out with⟨qQ,uA⟩|⟨qQ,uA⟩
    ·subst qQ;rw[uA]at k10;clear uA;have k10:Arr uG pU (aw 4 kk):=k10;go_upto_region 17 with fail
     go_wp2_with(refine aR ?_);refine zQ (s1.out _) fun rY nW=>?_;obtain⟨k0,k4,k10⟩:=dZ k0 k4 k10 nW;have kb:=az kb nW;clear nW;go_upto_region 18 with(first|refine aR ?_|refine aU ?_)
     obtain⟨iJ,ka⟩:=IP k4 k10;refine aK (fun xF k13 aA=>?_);obtain⟨k4,k10⟩:=fZ k4 k10 aA;have kb:=az kb aA;clear aA;generalize (rY).heap.size=Eg at k13 iJ ka⊢;have e2:=k13.cell s5.out;have e3:=k13.cell s6.out;go_wp2_with(refine aR ?_);clear e2 e3;refine zQ (s2.out _) fun kN ja=>?_;obtain⟨k4,k10⟩:=fZ k4 k10 ja;have kb:=az kb ja;clear ja;go_upto_region 19 with(refine aU ?_)
     refine ci k10 (fun xE k10 ad ak=>?_);have k4:=ad _ _ zOm k4;have kb:=ak _ _ zOm kb;clear ad ak;go_wp2_with(first|refine aR ?_|refine aU ?_);refine zQ (s3.out _) fun tq BJ=>?_;have k4:=k4.below BJ;have kb:=az kb BJ;clear BJ;go_upto_region 20 with(first|refine aR ?_|refine aU ?_)
     have iK:=k4.lt;refine aK (fun rD k14 aA=>?_);have k4:=k4.below aA;have kb:=az kb aA;clear aA;generalize (tq).heap.size=lQ at k14 iK⊢;have DJ:∀w,(Instr.arrayAt 94 (.slice (some ⟨lQ,0,none⟩) 16 32)).run Tryz.prog w=.ok (.pointer (some ⟨lQ,0,none⟩)) w:=fun w=>run_arrayAt w 94 5 16 _ 16 32 Tryz.underlying94 zDc;have JT:World.rangeAt rD lQ 0 (ag 16 T0):=k14.range s4.out;exact zda
    ·subst qQ;go_upto_region 17 with(first|refine aR ?_|refine aU ?_)
     refine ci k10 (fun rE k10 ad ak=>?_);obtain⟨k0,k4⟩:=rR ad k0 k4;have kb:=ak _ _ zOm kb;clear ad ak;rw[uA]at k10;clear uA;have k10:Arr rE pU (aw 4 kk):=k10;go_upto_region 17 with fail
     go_wp2_with(refine aR ?_);refine zQ (s1.out _) fun uj nk=>?_;obtain⟨k0,k4,k10⟩:=dZ k0 k4 k10 nk;have kb:=az kb nk;clear nk;go_upto_region 18 with(first|refine aR ?_|refine aU ?_)
     obtain⟨iJ,ka⟩:=IP k4 k10;refine aK (fun K6 k13 aA=>?_);obtain⟨k4,k10⟩:=fZ k4 k10 aA;have kb:=az kb aA;clear aA;generalize (uj).heap.size=Eg at k13 iJ ka⊢;have e2:=k13.cell s5.out;have e3:=k13.cell s6.out;go_wp2_with(refine aR ?_);clear e2 e3;refine zQ (s2.out _) fun zK zW=>?_;obtain⟨k4,k10⟩:=fZ k4 k10 zW;have kb:=az kb zW;clear zW;go_upto_region 19 with(refine aU ?_)
     refine ci k10 (fun Dm k10 ad ak=>?_);have k4:=ad _ _ zOm k4;have kb:=ak _ _ zOm kb;clear ad ak;go_wp2_with(first|refine aR ?_|refine aU ?_);refine zQ (s3.out _) fun Dn so=>?_;have k4:=k4.below so;have kb:=az kb so;clear so;go_upto_region 20 with(first|refine aR ?_|refine aU ?_)
     have iK:=k4.lt;refine aK (fun DV k14 aA=>?_);have k4:=k4.below aA;have kb:=az kb aA;clear aA;generalize (Dn).heap.size=lQ at k14 iK⊢;have DJ:∀w,(Instr.arrayAt 94 (.slice (some ⟨lQ,0,none⟩) 16 32)).run Tryz.prog w=.ok (.pointer (some ⟨lQ,0,none⟩)) w:=fun w=>run_arrayAt w 94 5 16 _ 16 32 Tryz.underlying94 zDc;have JT:World.rangeAt DV lQ 0 (ag 16 T0):=k14.range s4.out;exact zda
   ·have hHe:=hH1.out L5;have tt:=tt.out wr k5;rw[hHe]at tt;replace tt:=zH tt;clear hH0 hH1 hHe;have GG:(0:Int)<(n:Int):=zOm;go_upto_region 12 with fail
    go_wp2_with fail;clear rI;refine tt.out.mono ?_;rintro e w9 ⟨rfl,k5',hg⟩;have lt5:=k5.lt;have lt0:=k0.lt;have k0:=k0.kept hg zOm;have k4:=k4.kept hg zOm;have kb:=aq kb hg zOm zOm;have k5:=k5';clear tt hg k5' qR;have hrh:=k5.range (o:=0) (cs:=aw 4 H) (fun j hj=>TL hj);go_upto_region 13 with fail
    go_wp2_with(refine aE rfl _ _ rfl _ _ rfl zKr _ hrh zLn ?_);clear hrh;refine zQ (f1.out _) fun DW Qh=>?_;obtain⟨k0,k4⟩:=fZ k0 k4 Qh;have kb:=az kb Qh;clear Qh;go_wp2_with(first|refine aR ?_|refine aU ?_);refine zQ (f2.out _) fun K7 z8=>?_;obtain⟨k0,k4⟩:=fZ k0 k4 z8;have kb:=az kb z8;clear z8;go_wp2_with(first|refine aR ?_|refine aU ?_);refine zQ (f3.out _) fun IJ Qi=>?_;obtain⟨k0,k4⟩:=fZ k0 k4 Qi;have kb:=az kb Qi;clear Qi;go_upto_region 14 with(first|refine aR ?_|refine aU ?_)
    obtain⟨yi,mj⟩:=IP k0 k4;refine aK (fun IK k10 aA=>?_);obtain⟨k0,k4⟩:=fZ k0 k4 aA;have kb:=az kb aA;clear aA;generalize (IJ).heap.size=pU at k10 yi mj⊢;have adF:=kb.size;refine cH 7 9 fun acq=>?_;refine dz ?_ 8 1 (by exact acq) [0] (fun w' hB=>by have e1:=k10.below hB;exact zRd) ?_;refine bG 2 127 [(1,52),(2,53),(3,50),(4,54),(5,55),(6,11)] [(false,[]),(false,[(1,52)]),(true,[(2,53)]),(true,[(3,50)]),(true,[(3,50)]),(false,[])] [(1,Ph.is (.agg (aw 4 mD).toArray)),(2,Ph.is (.tuple #[.agg (aw 4 D).toArray,.int .u64 (cb:Int)])),(3,Ph.is (.tuple #[.agg (aw 4 D).toArray,.int .u64 (cb:Int)])),(4,Ph.is (.agg (aw 4 D).toArray)),(5,Ph.is (.int .u64 (cb:Int))),(6,Ph.arr (IK).heap.size (aw 4 0))] zKr zKr zaA ?_ ?_
    ·refine⟨⟨_,rfl,?_⟩,⟨_,rfl,?_⟩,⟨_,rfl,?_⟩,⟨_,rfl,?_⟩,⟨_,rfl,?_⟩,⟨_,rfl,?_⟩,trivial⟩
     ·exact oT CJ
     ·exact DB f4.out
     ·exact zdf
     ·exact zc0
     ·exact zc0
     ·exact zcV
    intro vs ahL Qd afw hP hD;obtain⟨q1,q2,q3,q4,q5,q6,-⟩:=hP;simp only[aG,Act.put,zSa,zSz,zSs];rw[show vs 1=_ from q1,show vs 2=_ from q2,show vs 3=_ from q3,show vs 4=_ from q4,show vs 5=_ from q5];clear q1 q2 q3 q4 q5;obtain⟨g6,e6,lV,uq⟩:=q6;rw[e6];clear e6 hD vs;have ltk0:=zA3 k0.lt lV;have ltk4:=zA3 k4.lt lV;have ltk10:=zA3 k10.lt lV;obtain⟨k0,k4,k10⟩:=dZ k0 k4 k10 Qd;have kb:=az kb Qd;refine kO 255 ?_;refine dz ?_ 0 511 zaC [8] (fun _ _=>zRd) ?_;refine ap zKr ?_;refine aV uq (fun W7 uq ad ak=>?_);obtain⟨k0,k4,k10⟩:=Dz ad k0 k4 k10;have kb:=ak _ _ zOm kb;clear ad ak;have k11:=uq;clear uq;generalize g6=g11 at*;rcases Ac.out with⟨qQ,uA⟩|⟨qQ,uA⟩
    ·subst qQ;rw[uA]at k10;clear uA;have k10:Arr W7 pU (aw 4 kk):=k10;go_upto_region 17 with fail
     go_wp2_with(refine aR ?_);refine zQ (s1.out _) fun Pc Qj=>?_;obtain⟨k0,k4,k10⟩:=dZ k0 k4 k10 Qj;have kb:=az kb Qj;clear Qj;go_upto_region 18 with(first|refine aR ?_|refine aU ?_)
     obtain⟨iJ,ka⟩:=IP k4 k10;refine aK (fun agO k13 aA=>?_);obtain⟨k4,k10⟩:=fZ k4 k10 aA;have kb:=az kb aA;clear aA;generalize (Pc).heap.size=Eg at k13 iJ ka⊢;have e2:=k13.cell s5.out;have e3:=k13.cell s6.out;go_wp2_with(refine aR ?_);clear e2 e3;refine zQ (s2.out _) fun aa0 Qk=>?_;obtain⟨k4,k10⟩:=fZ k4 k10 Qk;have kb:=az kb Qk;clear Qk;go_upto_region 19 with(refine aU ?_)
     refine ci k10 (fun aeH k10 ad ak=>?_);have k4:=ad _ _ zOm k4;have kb:=ak _ _ zOm kb;clear ad ak;go_wp2_with(first|refine aR ?_|refine aU ?_);refine zQ (s3.out _) fun aeI Ql=>?_;have k4:=k4.below Ql;have kb:=az kb Ql;clear Ql;go_upto_region 20 with(first|refine aR ?_|refine aU ?_)
     have iK:=k4.lt;refine aK (fun W8 k14 aA=>?_);have k4:=k4.below aA;have kb:=az kb aA;clear aA;generalize (aeI).heap.size=lQ at k14 iK⊢;have DJ:∀w,(Instr.arrayAt 94 (.slice (some ⟨lQ,0,none⟩) 16 32)).run Tryz.prog w=.ok (.pointer (some ⟨lQ,0,none⟩)) w:=fun w=>run_arrayAt w 94 5 16 _ 16 32 Tryz.underlying94 zDc;have JT:World.rangeAt W8 lQ 0 (ag 16 T0):=k14.range s4.out;exact zda
    ·subst qQ;go_upto_region 17 with(first|refine aR ?_|refine aU ?_)
     refine ci k10 (fun aa1 k10 ad ak=>?_);obtain⟨k0,k4⟩:=rR ad k0 k4;have kb:=ak _ _ zOm kb;clear ad ak;rw[uA]at k10;clear uA;have k10:Arr aa1 pU (aw 4 kk):=k10;go_upto_region 17 with fail
     go_wp2_with(refine aR ?_);refine zQ (s1.out _) fun Xa wy=>?_;obtain⟨k0,k4,k10⟩:=dZ k0 k4 k10 wy;have kb:=az kb wy;clear wy;go_upto_region 18 with(first|refine aR ?_|refine aU ?_)
     obtain⟨iJ,ka⟩:=IP k4 k10;refine aK (fun aa2 k13 aA=>?_);obtain⟨k4,k10⟩:=fZ k4 k10 aA;have kb:=az kb aA;clear aA;generalize (Xa).heap.size=Eg at k13 iJ ka⊢;have e2:=k13.cell s5.out;have e3:=k13.cell s6.out;go_wp2_with(refine aR ?_);clear e2 e3;refine zQ (s2.out _) fun aeJ pX=>?_;obtain⟨k4,k10⟩:=fZ k4 k10 pX;have kb:=az kb pX;clear pX;go_upto_region 19 with(refine aU ?_)
     refine ci k10 (fun Ui k10 ad ak=>?_);have k4:=ad _ _ zOm k4;have kb:=ak _ _ zOm kb;clear ad ak;go_wp2_with(first|refine aR ?_|refine aU ?_);refine zQ (s3.out _) fun agP Qm=>?_;have k4:=k4.below Qm;have kb:=az kb Qm;clear Qm;go_upto_region 20 with(first|refine aR ?_|refine aU ?_)
     have iK:=k4.lt;refine aK (fun aeK k14 aA=>?_);have k4:=k4.below aA;have kb:=az kb aA;clear aA;generalize (agP).heap.size=lQ at k14 iK⊢;have DJ:∀w,(Instr.arrayAt 94 (.slice (some ⟨lQ,0,none⟩) 16 32)).run Tryz.prog w=.ok (.pointer (some ⟨lQ,0,none⟩)) w:=fun w=>run_arrayAt w 94 5 16 _ 16 32 Tryz.underlying94 zDc;have JT:World.rangeAt aeK lQ 0 (ag 16 T0):=k14.range s4.out;exact zda
end Go.Proofs.YtgfkgolafkdjfaaGreatDoor
