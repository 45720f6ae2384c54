/- ModelWrong: part 9 of its proof: lemmas and contracts, each with its conditions in its own statement; the last part holds the law itself. -/
import Derived.Test.YtgfkgolafkdjfaaGreatDoorJv08

set_option maxHeartbeats 4000000
set_option maxRecDepth 100000
namespace Go.Proofs.YtgfkgolafkdjfaaGreatDoor
open Go.RowKit
def ju:List Nat:=[1116352408,1899447441,3049323471,3921009573,961987163,1508970993,2453635748,2870763221,3624381080,310598401,607225278,1426881987,1925078388,2162078206,2614888103,3248222580,3835390401,4022224774,264347078,604807628,770255983,1249150122,1555081692,1996064986,2554220882,2821834349,2952996808,3210313671,3336571891,3584528711,113926993,338241895,666307205,773529912,1294757372,1396182291,1695183700,1986661051,2177026350,2456956037,2730485921,2820302411,3259730800,3345764771,3516065817,3600352804,4094571909,275423344,430227734,506948616,659060556,883997877,958139571,1322822218,1537002063,1747873779,1955562222,2024104815,2227730452,2361852424,2428436474,2756734187,3204031479,3329325298]
def C7:List Nat:=[1779033703,3144134277,1013904242,2773480762,1359893119,2600822924,528734635,1541459225]
def OX (x:Nat):Nat:=rl x 25 ^^^rl x 14 ^^^x/8
def OZ (x:Nat):Nat:=rl x 15 ^^^rl x 13 ^^^x/1024
def DS (x:Nat):Nat:=rl x 26 ^^^rl x 21 ^^^rl x 7
def Iw (x:Nat):Nat:=rl x 30 ^^^rl x 19 ^^^rl x 10
theorem im:ju.length=64∧W32 ju:=by unfold W32;decide
theorem WK:C7.length=8∧W32 C7:=by unfold W32;decide
theorem Lt {x:Nat} (h:x<4294967296) (d:Nat):x/d<4294967296:=zA9 (zA21 _ _) h
theorem nd {x y:Nat} (hx:x<4294967296) (hy:y<4294967296):x ^^^y<4294967296:=zA29 (n:=32) hx hy
theorem Bg {x y:Nat} (hx:x<4294967296):x &&&y<4294967296:=zA9 Nat.and_le_left hx
theorem WG {x:Nat} (h:x<4294967296):DS x<4294967296:=nd (nd (iQ h _) (iQ h _)) (iQ h _)
theorem WC {x:Nat} (h:x<4294967296):Iw x<4294967296:=nd (nd (iQ h _) (iQ h _)) (iQ h _)
def fF (bs:List UInt8):Nat→List Nat
 |0=>List.replicate 64 0
 |i+1=>(fF bs i).set (i/4) (((fF bs i).getD (i/4) 0*256%4294967296) |||(bs.getD i 0).toNat)
def Iu (l:List Nat) (t:Nat):Nat:=(OZ (l.getD (t-2) 0)+l.getD (t-7) 0+OX (l.getD (t-15) 0)+l.getD (t-16) 0)%4294967296
def jU (bs:List UInt8):Nat→List Nat
 |0=>fF bs 64
 |j+1=>(jU bs j).set (16+j) (Iu (jU bs j) (16+j))
def rP (bs:List UInt8):List Nat:=jU bs 48
theorem lI (bs:List UInt8):∀i,(fF bs i).length=64∧W32 (fF bs i)
 |0=>⟨by simp[fF],by
  intro x hx;rw[fF,List.mem_replicate]at hx;omega⟩
 |i+1=>⟨by rw[fF,zA23,(lI bs i).1],(lI bs i).2.set _ (Nat.or_lt_two_pow (n:=32) (zA1 _ zDc) (zA25 (UInt8.toNat_lt _) zDc))⟩
theorem oD (bs:List UInt8):∀j,(jU bs j).length=64∧W32 (jU bs j)
 |0=>lI bs 64
 |j+1=>⟨by rw[jU,zA23,(oD bs j).1],(oD bs j).2.set _ (zA1 _ zDc)⟩
def fL (h:List Nat) (bs:List UInt8) (n lg:Nat):List Value:=ws h++(ws ju++(aJ bs++[.int .i64 (n:Int),.int .u64 (lg:Int)]))
section
variable {h:List Nat} {bs:List UInt8} {n lg:Nat} (hh:h.length=8)
theorem TN {j:Nat} (hj:j<(ws h).length):(fL h bs n lg)[0+j]? =(ws h)[j]? :=by
 rw[fL,Nat.zero_add,zA12 hj]
include hh
theorem TO (hb:bs.length=64):(fL h bs n lg).length=138:=by simp[fL,a7,ai,hb,hh,im.1]
theorem MH {j:Nat} (hj:j<8):(fL h bs n lg)[j]? =some (.int .u32 ((h.getD j 0:Nat):Int)):=by
 have:=TN (h:=h) (bs:=bs) (n:=n) (lg:=lg) (j:=j) (by rw[a7,hh];exact hj);rw[Nat.zero_add]at this;rw[this,bL (by rw[hh];exact hj)]
theorem aaU {j:Nat} (hj:j<64):(fL h bs n lg)[8+j]? =some (.int .u32 ((ju.getD j 0:Nat):Int)):=by
 rw[fL,zA2 zaS,a7,hh,show 8+j-8=j by omega,zA12 (by rw[a7,im.1];exact hj),bL (by rw[im.1];exact hj)]
theorem TM {j:Nat} (hj:j<bs.length):(fL h bs n lg)[72+j]? =(aJ bs)[j]? :=by
 rw[fL,zA2 zaS,a7,hh,zA2 zaT,a7,im.1,show 72+j-8-64=j by omega,zA12 zaU]
theorem Da (hb:bs.length=64):(fL h bs n lg)[136]? =some (.int .i64 (n:Int)):=by
 rw[fL,zA2 zaS,a7,hh,zA2 zaT,a7,im.1,zA2 zaV,ai,hb];rfl
theorem aaV (hb:bs.length=64):(fL h bs n lg)[137]? =some (.int .u64 (lg:Int)):=by
 rw[fL,zA2 zaS,a7,hh,zA2 zaT,a7,im.1,zA2 zaV,ai,hb];rfl
theorem Db {m:Nat} (hb:bs.length=64):(fL h bs n lg).set 136 (.int .i64 (m:Int))=fL h bs m lg:=by
 exact zeB
theorem KV {m:Nat} (hb:bs.length=64):(fL h bs n lg).set 137 (.int .u64 (m:Int))=fL h bs n m:=by
 exact zeB
theorem KS {j:Nat} {x:UInt8} (hj:j<bs.length):(fL h bs n lg).set (72+j) (.int .u8 (x.toNat:Int))=fL h (bs.set j x) n lg:=by
 rw[fL,fL,List.set_append_right _ _ zaS,a7,hh,List.set_append_right _ _ zaT,a7,im.1,show 72+j-8-64=j by omega,List.set_append_left _ _ zaU];congr 3;exact zfy
theorem KU {j x:Nat} (hj:j<8):(fL h bs n lg).set j (.int .u32 (x:Int))=fL (h.set j x) bs n lg:=by
 rw[fL,fL,List.set_append_left _ _ (by rw[a7,hh];exact hj),eX]
end
theorem KE {g:Nat} {h:List Nat} {bs:List UInt8} {n lg:Nat} (w:World) (k0:Arr w g (fL h bs n lg)) (hh:h.length=8) (hb:bs.length=64):
 CB 239 #[.pointer (some ⟨g,0,none⟩)] w (.agg (ws (rP bs)).toArray):=by
 have JS:Hid (∀w',Arr w' g (fL h bs n lg)→w'.rangeAt g 72 (aJ bs)):=zH (fun w' hk=>hk.range (fun j hj=>TM hh (by rw[ai]at hj;exact hj)));replace hb:=zH hb;clear hh;have hl:=zH (show(ws (rP bs)).length=64 by rw[a7];exact(oD bs 48).1);obtain⟨L,hL⟩:=zX (rP bs);rw[hL]at hl⊢;replace hL:=zH hL;go_enter Tryz.func239,Tryz.ntmps239;go_upto_region 2 with fail
 refine be (fun W aB k2 k3 kb=>?_);have k2:Arr W w.heap.size (ws (List.replicate 64 0)):=k2;have k3:Arr W (w.heap.size+1) (ws (fF bs 0)):=k3;have lt0:=k0.lt;have og:=JS.out W (k0.below kb);obtain⟨g2,j9⟩:=zX w.heap.size;rw[j9]at k2 k3 lt0⊢;have rK:w.heap.size≤g2:=zOm;clear j9 aB k0 JS;go_wp2_with(refine aE rfl _ _ rfl _ _ rfl zKr _ og (by rw[ai,hb.out];kernel_rfl) ?_);clear og;go_loopw[15] (fun iv wr=>∃i:Nat,i≤64∧iv=.int .i64 i∧Arr wr g2 (ws (List.replicate 64 0))∧Arr wr (g2+1) (ws (fF bs i))∧Below w.heap.size w wr) (fun iv _=>64-(intOf iv).toNat)
 case atStart=>exact⟨0,by omega,rfl,k2,k3,kb⟩
 case round=>
 clear k2 k3 kb;obtain⟨i,hi,rfl,k2,k3,kb⟩:=hrel;have mA:(0:Int)≤(i:Int):=zOm
 by_cases iS:i<64
 ·have ub:(i:Int)<64:=zOm;have Zu:i<bs.length:=(by rw[hb.out];exact iS);obtain⟨inf,QK,-,jA,-⟩:=info_parts ig;have hix:=px (P:=Tryz.prog) wr 79 5 64 _ inf Tryz.underlying79 Tryz.underlying5 rfl QK jA (aJ bs) i _ iS (eY bs i Zu);obtain⟨x,hx⟩:=zX ((bs[i]).toNat);have lx:x<256:=zaW;rw[hx]at hix;have Rj:Hid ((bs.getD i 0).toNat=x):=zH (by rw[←hx,zA10,zA7 Zu];rfl);clear hx Zu QK jA;have ok:=lI bs i;have dP:=bL (l:=fF bs i) (j:=i/4) zaX;have lyy:=ok.2.get (i/4);obtain⟨y,hy⟩:=zX ((fF bs i).getD (i/4) 0);rw[hy]at dP lyy;have ep:Hid ((ws (fF bs i)).set (i/4) (.int .u32 (((y*256%4294967296) |||x:Nat):Int))=ws (fF bs (i+1))):=zH (by rw[eX,fF,hy,Rj.out]);have dI:Hid ((ws (fF bs i)).length=64):=zH (by rw[a7,ok.1]);obtain⟨l,hl⟩:=zX (fF bs i);rw[hl]at k3 dP ep dI;obtain⟨q,hq⟩:=zX (i/4);rw[hq]at dP ep;have fq:(i:Int)/4=(q:Int):=zOm
  have JR:(0:Int)≤(q:Int):=zOm;have wI:(q:Int)<64:=zOm;have fw:IntKind.i64.wrap (q:Int)=(q:Int):=i64_in zOm;have fx:IntKind.u32.wrap (x:Int)=(x:Int):=eV zOm;have fo:=fp (a:=y*256%4294967296) (b:=x) (zA1 _ zDc) (zA25 lx zDc);rw[show((y*256%4294967296:Nat):Int)=(y:Int)*256%4294967296 by omega]at fo;clear hy hl ok Rj;obtain⟨z,hz⟩:=zX ((y*256%4294967296) |||x);rw[hz]at fo ep;replace hq:=zH hq;clear hz;have bo:=k3.cell dP;have bT:=k3.frozen q;replace dP:=zH dP;go_wp2_with fail;replace k2:=k2.other (a:=⟨g2+1,q,none⟩) zac (.int .u32 (z:Int));replace k3:=k3.set q (.int .u32 (z:Int));exact zeW
 ·have dj:decide ((i:Int)<64)=false:=decide_eq_false zOm;have jM:Hid (i=64):=zH zOm;rw[jM.out]at k3;replace k3:Arr wr (g2+1) (ws (jU bs (16-16))):=k3;clear hi iS mA;obtain⟨ic,sG⟩:∃ic:Int,(i:Int)=ic:=⟨_,rfl⟩;rw[sG]at dj⊢;clear sG;go_wp2_with fail;clear dj;go_loopw[6] (fun iv wr=>∃t:Nat,16≤t∧t≤64∧iv=.int .i64 t∧Arr wr g2 (ws (List.replicate 64 0))∧Arr wr (g2+1) (ws (jU bs (t-16)))∧Below w.heap.size w wr) (fun iv _=>64-(intOf iv).toNat)
  case atStart=>exact⟨16,by omega,by omega,rfl,k2,k3,kb⟩
  case round=>
  clear k2 k3 kb;obtain⟨t,zu,ht,rfl,k2,k3,kb⟩:=hrel;have mA:(0:Int)≤(t:Int):=zOm
  by_cases iS:t<64
  ·have ub:(t:Int)<64:=zOm;have ok:=oD bs (t-16);have bI:(ws (jU bs (t-16))).set t (.int .u32 ((Iu (jU bs (t-16)) t:Nat):Int))=ws (jU bs (t+1-16)):=by
    exact zfJ
   obtain⟨l,hl⟩:=zX (jU bs (t-16));rw[hl]at k3 ok bI;clear hl;obtain⟨t15,e15⟩:=zX (t-15);obtain⟨t2,e2⟩:=zX (t-2);obtain⟨t7,e7⟩:=zX (t-7);obtain⟨t16,e16⟩:=zX (t-16);have c15:=zH (bL (l:=l) (j:=t15) zaX);have c2:=zH (bL (l:=l) (j:=t2) zaX);have c7:=zH (bL (l:=l) (j:=t7) zaX);have c16:=zH (bL (l:=l) (j:=t16) zaX);have dI:Hid ((ws l).length=64):=zH (by rw[a7,ok.1]);have l15:=ok.2.get t15;have l2:=ok.2.get t2;rw[Iu,e15,e2,e7,e16]at bI;clear ok;obtain⟨x,hx⟩:=zX (l.getD t15 0);obtain⟨y,hy⟩:=zX (l.getD t2 0);obtain⟨x7,X9⟩:=zX (l.getD t7 0);obtain⟨x16,Ri⟩:=zX (l.getD t16 0);rw[hx]at c15 l15 bI;rw[hy]at c2 l2 bI;rw[X9]at c7 bI;rw[Ri]at c16 bI;clear hx hy X9 Ri;have m15:IntKind.i64.wrap ((t:Int)-15)=(t15:Int):=zaY;have m2:IntKind.i64.wrap ((t:Int)-2)=(t2:Int):=zaY
   have m7:IntKind.i64.wrap ((t:Int)-7)=(t7:Int):=zaY;have m16:IntKind.i64.wrap ((t:Int)-16)=(t16:Int):=zaY;have b15:(0:Int)≤(t15:Int):=zOm;have b2:(0:Int)≤(t2:Int):=zOm;have b7:(0:Int)≤(t7:Int):=zOm;have b16:(0:Int)≤(t16:Int):=zOm;have d15:(t15:Int)<64:=zOm;have d2:(t2:Int)<64:=zOm;have d7:(t7:Int)<64:=zOm;have d16:(t16:Int)<64:=zOm;clear e15 e2 e7;replace e16:=zH e16;go_upto_region 10 with fail
   obtain⟨wq,rfl⟩:∃wq:World,wq=wr:=⟨_,rfl⟩;refine cH 9999 10 fun aP=>?_;refine dz ?_ 0 1023 zaD [0,1,2,3,4,5,6,7,8,9] (fun w' hB=>by have f1:=(k3.below hB).cell c15.out;have f2:=(k3.below hB).cell c2.out;exact zRd) ?_;refine ap zKr ?_;replace k2:=k2.below aP;replace k3:=k3.below aP;replace kb:=az kb aP;clear aP m15 m2 b15 b2 d15 d2 c15 c2;go_wp2_with fail;obtain⟨p1,p1e⟩:=zX (rl x 25);have p1l:p1<4294967296:=(by rw[←p1e];exact iQ l15 _);obtain⟨p2,p2e⟩:=zX (rl x 14);have p2l:p2<4294967296:=(by rw[←p2e];exact iQ l15 _);obtain⟨p3,p3e⟩:=zX (x/8);have p3l:p3<4294967296:=(by rw[←p3e];exact Lt l15 _);have p3f:(x:Int)/8=(p3:Int):=zOm;obtain⟨p4,p4e⟩:=zX (p1 ^^^p2);have p4l:p4<4294967296:=(by rw[←p4e];exact nd p1l p2l);have p4f:bits .xor .u32 (p1:Int) (p2:Int)=(p4:Int):=(by rw[fK p1l p2l,p4e]);obtain⟨pz,pze⟩:=zX (OX x)
   have p5f:bits .xor .u32 (p4:Int) (p3:Int)=(pz:Int):=(by rw[fK p4l p3l,←pze,OX,p1e,p2e,p3e,p4e]);rw[pze]at bI;replace p1e:=zH p1e;replace p2e:=zH p2e;clear p4e pze p1l p2l p3l p4l p3e;obtain⟨q1,q1e⟩:=zX (rl y 15);have q1l:q1<4294967296:=(by rw[←q1e];exact iQ l2 _);obtain⟨q2,q2e⟩:=zX (rl y 13);have q2l:q2<4294967296:=(by rw[←q2e];exact iQ l2 _);obtain⟨q3,q3e⟩:=zX (y/1024);have q3l:q3<4294967296:=(by rw[←q3e];exact Lt l2 _);have q3f:(y:Int)/1024=(q3:Int):=zOm;obtain⟨q4,q4e⟩:=zX (q1 ^^^q2);have q4l:q4<4294967296:=(by rw[←q4e];exact nd q1l q2l);have q4f:bits .xor .u32 (q1:Int) (q2:Int)=(q4:Int):=(by rw[fK q1l q2l,q4e]);obtain⟨qz,qze⟩:=zX (OZ y);have q5f:bits .xor .u32 (q4:Int) (q3:Int)=(qz:Int):=(by rw[fK q4l q3l,←qze,OZ,q1e,q2e,q3e,q4e]);rw[qze]at bI;replace q1e:=zH q1e;replace q2e:=zH q2e;clear q4e qze q1l q2l q3l q4l q3e;go_wp2_with fail;refine zQ (Wj l15 p1e.out _) fun i8 dA=>?_
   obtain⟨k2,k3⟩:=fZ k2 k3 dA;have kb:=az kb dA;clear dA;go_wp2_with fail;refine zQ (SU l15 p2e.out _) fun jF dc=>?_;obtain⟨k2,k3⟩:=fZ k2 k3 dc;have kb:=az kb dc;clear dc;go_wp2_with fail;refine zQ (SR l2 q1e.out _) fun pJ fG=>?_;obtain⟨k2,k3⟩:=fZ k2 k3 fG;have kb:=az kb fG;clear fG;go_wp2_with fail;refine zQ (SV l2 q2e.out _) fun m9 gH=>?_;obtain⟨k2,k3⟩:=fZ k2 k3 gH;have kb:=az kb gH;clear gH;clear p1e p2e q1e q2e;obtain⟨s1,kQ⟩:=zX ((qz+x7)%4294967296);obtain⟨s2,Dv⟩:=zX ((s1+pz)%4294967296);obtain⟨s3,Ek⟩:=zX ((s2+x16)%4294967296);have a1:IntKind.u32.wrap ((qz:Int)+(x7:Int))=(s1:Int):=(by rw[show((qz:Int)+(x7:Int))=((qz+x7:Nat):Int) by omega,dW,kQ]);have a2:IntKind.u32.wrap ((s1:Int)+(pz:Int))=(s2:Int):=(by rw[show((s1:Int)+(pz:Int))=((s1+pz:Nat):Int) by omega,dW,Dv])
   have a3:IntKind.u32.wrap ((s2:Int)+(x16:Int))=(s3:Int):=(by rw[show((s2:Int)+(x16:Int))=((s2+x16:Nat):Int) by omega,dW,Ek]);have ep:Hid ((ws l).set t (.int .u32 (s3:Int))=ws (jU bs (t+1-16))):=zH (by rw[←bI,show(qz+x7+pz+x16)%4294967296=s3 by omega]);clear bI kQ Dv Ek;go_upto_region 13 with fail
   obtain⟨wq,lq⟩:∃wq:World,m9=wq:=⟨_,rfl⟩;rw[lq]at k2 k3 kb⊢;clear lq;refine cH 15 16 fun dV=>?_;refine dz ?_ 1 32767 zaL [0,1,2,3,4,5,6,7,8,9,10,11,12,13,14] (fun w' hB=>by have f1:=(k3.below hB).cell c7.out;have f2:=(k3.below hB).cell c16.out;exact zRd) ?_;refine bf 65535 rfl zDk (fun K hK=>?_);replace k2:=k2.below dV;replace k3:=k3.below dV;replace kb:=az kb dV;clear dV;refine br rfl _ _ _ rfl (g2+1) t (.int .u32 (s3:Int)) rfl rfl _ k3 zKr (by rw[dI.out];exact iS) rfl (fun w5 k3 hg aB=>?_);rw[ep.out]at k3;replace k2:=k2.kept hg zOm;replace kb:=aq kb hg zOm kb.size;refine hK (fun _=>True) 9999 _ _ ?_;clear hK K;try simp only[Act.put]
   try simp only[zSa,zSz,zSs]
   exact zeN
  ·have dj:decide ((t:Int)<64)=false:=decide_eq_false zOm;have jM:Hid (t=64):=zH zOm;rw[jM.out]at k3;replace k3:Arr wr (g2+1) (ws (rP bs)):=k3;rw[hL.out]at k3;clear hL mA iS ht zu;obtain⟨ic,sG⟩:∃ic:Int,(t:Int)=ic:=⟨_,rfl⟩;rw[sG]at dj⊢;clear sG jM;go_wp2_with(first|(refine ab rfl _ _ rfl _ rfl zDk _ k3 zaZ ?_)|(refine aD rfl _ _ _ rfl _ (ws L) rfl rfl _ k2 zaZ (by rw[hl.out,a7];rfl) (oH _) (fun w7 k2 hg aB=>?_)));have qb:=aq kb hg zOm kb.size;exact bodyPost_ret (aj Tryz.results239 _ _ _ rfl zKr _ k2 zaZ) rfl ⟨rfl,qb⟩
def Kn (x0 x1 x2 x3 x4 x5 x6 x7 k w:Nat):List Nat:=
 [(((((x7+DS x4)%4294967296+((x4 &&&x5) ^^^((4294967295 ^^^x4) &&&x6)))%4294967296+k)%4294967296+w)%4294967296+(Iw x0+((x0 &&&x1) ^^^(x0 &&&x2) ^^^(x1 &&&x2)))%4294967296)%4294967296,x0,x1,x2,
  (x3+((((x7+DS x4)%4294967296+((x4 &&&x5) ^^^((4294967295 ^^^x4) &&&x6)))%4294967296+k)%4294967296+w)%4294967296)%4294967296,x4,x5,x6]
def V7 (v:List Nat) (k w:Nat):List Nat:=Kn (v.getD 0 0) (v.getD 1 0) (v.getD 2 0) (v.getD 3 0) (v.getD 4 0) (v.getD 5 0) (v.getD 6 0) (v.getD 7 0) k w
def qo (h wl:List Nat):Nat→List Nat
 |0=>h
 |t+1=>V7 (qo h wl t) (ju.getD t 0) (wl.getD t 0)
theorem xm {h wl:List Nat} (h0:h.length=8∧W32 h):∀t,(qo h wl t).length=8∧W32 (qo h wl t)
 |0=>h0
 |t+1=>⟨rfl,by
  have ok:=(xm (wl:=wl) h0 t).2;intro x hx;simp only[qo,V7,Kn,List.mem_cons,List.not_mem_nil,or_false]at hx;rcases hx with rfl|rfl|rfl|rfl|rfl|rfl|rfl|rfl<;>first|exact ok.get _|exact zA1 _ zDc⟩
def pK (h v:List Nat):Nat→List Nat
 |0=>h
 |i+1=>(pK h v i).set i ((h.getD i 0+v.getD i 0)%4294967296)
theorem vV {h v:List Nat} (h0:h.length=8∧W32 h):∀t,(pK h v t).length=8∧W32 (pK h v t)
 |0=>h0
 |t+1=>⟨by rw[pK,zA23,(vV h0 t).1],(vV h0 t).2.set _ (zA1 _ zDc)⟩
theorem Bb {h v:List Nat}:∀t j,t≤j→(pK h v t).getD j 0=h.getD j 0
 |0,_,_=>rfl
 |t+1,j,hj=>by
  have:=Bb (h:=h) (v:=v) t j zOm;rw[zA10]at this⊢;rw[pK,List.getElem?_set_ne zOm];exact this
def DF (h:List Nat) (bs:List UInt8):List Nat:=pK h (qo h (rP bs) 64) 8
theorem Ll {h:List Nat} (h0:h.length=8∧W32 h) (bs:List UInt8):(DF h bs).length=8∧W32 (DF h bs):=vV h0 8
theorem PX {l:List Nat} (h:l.length=8):∃x0 x1 x2 x3 x4 x5 x6 x7,l=[x0,x1,x2,x3,x4,x5,x6,x7]:=by
 match l,h with
 | [a,b,c,d,e,f,g,i],_=>exact⟨a,b,c,d,e,f,g,i,rfl⟩
theorem Do {P:Program} {a:Act} {w:World} {Q:Exit→Act→World→Prop} {c X:Code} (l:Nat) (J:Act→World→Prop) (μ:Act→World→Nat) (hf:findLabel c l=some (.seq .skip X))
 (pass:∀a w,J a w→X.wp P (Exit.jump l (fun a' w'=>J a' w'∧μ a' w'<μ a w) Q) a w)
 (first:(∀a w,J a w→X.wp P (Exit.jump l J Q) a w)→c.wp P (Exit.jump l J Q) a w):(Code.scope c).wp P Q a w:=by
 exact zd3
theorem Nf {a b c:World} {row:Option Nat} {g:Nat} (h:a.grownBy b row) (k:b.grownBy c (some g)) (hg:a.heap.size≤g):a.grownBy c row:=
 ⟨k.os.trans h.os,k.tape.trans h.tape,k.output.trans h.output,zA14 h.size k.size,fun i hi hn=>(k.block i (zA3 hi h.size) (by intro e;injection e with e;omega)).trans (h.block i hi hn)⟩
def bu (T:Array Value) (i:Nat):Value:=T.getD i undef
theorem YE (T:Array Value) (N:Nat) (h:T.size=N):T=((List.range N).map (bu T)).toArray:=by
 apply Array.ext
 ·simp[h]
 ·intro i h1 h2;simp[bu,Array.getD_eq_getD_getElem?,h1]
def tJa (g:Nat) (h:List Nat) (bs:List UInt8) (n lg:Nat) (L:List Nat) (w:World) (a':Act) (w':World):Prop:=
 ∃g2 g3 t:Nat,(t≤64∧g<g2∧g2<g3∧w.heap.size≤g2∧Arr w' g (fL h bs n lg)∧Arr w' g2 (ws L)∧Arr w' g3 (ws (qo h L t))∧w.grownBy w' (some g))∧
  a'.defers=[]∧a'.tmps.size=122∧bu a'.tmps 0=.pointer (some ⟨g,0,none⟩)∧bu a'.tmps 2=.pointer (some ⟨g2,0,none⟩)∧bu a'.tmps 3=.pointer (some ⟨g3,0,none⟩)∧bu a'.tmps 4=.int .i64 (t:Int)
theorem O9 {g:Nat} {h:List Nat} {bs:List UInt8} {n lg:Nat} (w:World) (k0:Arr w g (fL h bs n lg)) (h0:h.length=8∧W32 h) (hb:bs.length=64):
 Calls Tryz.prog 218 #[.pointer (some ⟨g,0,none⟩)] w fun e w'=>e=.returned (.tuple #[])∧Arr w' g (fL (DF h bs) bs n lg)∧w.grownBy w' (some g):=by
 have c1:=zH (KE w k0 h0.1 hb);have Q0:Hid (∀w',Arr w' g (fL h bs n lg)→w'.rangeAt g 0 (ws h)):=zH (fun w' hk=>hk.range (fun j hj=>TN hj));have nA:=zH (oD bs 48);have hR:Hid (pK h (qo h (rP bs) 64) 8=DF h bs):=zH rfl;obtain⟨R,hRe⟩:=zX (DF h bs);rw[hRe]at hR⊢;clear hRe;obtain⟨L,hL⟩:=zX (rP bs);have nA:Hid (L.length=64∧W32 L):=zH (by rw[←hL];exact nA.out);rw[hL]at c1 hR;clear hL;have NE:Hid (∀w' t,t<64→Arr w' g (fL h bs n lg)→w'.cell? ⟨g,8+t,none⟩=some (.int .u32 ((ju.getD t 0:Nat):Int))):=zH (fun w' t ht hk=>hk.cell (aaU h0.1 ht));replace h0:=zH h0;replace hb:=zH hb;go_enter Tryz.func218,Tryz.ntmps218;refine Do 0 (tJa g h bs n lg L w) (fun a' _=>64-(intOf (a'.tmps.getD 4 undef)).toNat) rfl ?_ ?_;rotate_left;intro Pk;go_wp2_with fail;refine c1.out.mono ?_;rintro e w1 ⟨rfl,mK⟩;have lt0:=k0.lt;have kg:=bO (row:=some g) mK;replace k0:=k0.below mK;have hws:=kg.size;clear c1 mK
 go_upto_region 1 with(refine aD rfl _ _ _ rfl _ (ws L) rfl rfl _ (Arr.new _ _ _) (by rw[a7,nA.out.1];kernel_rfl) (by rw[a7,nA.out.1];rfl) (oH _) (fun w2 k2 hg aB=>?_))
 have hb:=aq (ae w1 _) hg (zA0 _) zac;have Pf:=k0.lt;replace kg:=aN kg (bO hb);replace k0:=k0.below hb;obtain⟨g2,j9⟩:=zX w1.heap.size;rw[j9]at k2 Pf hws⊢;clear hb aB j9 hg;have og:=Q0.out w2 k0;go_upto_region 2 with(first|(refine aE rfl _ _ rfl _ _ rfl zKr _ og (by rw[a7,h0.out.1];kernel_rfl) ?_)|(refine aD rfl _ _ _ rfl _ (ws h) rfl rfl _ (Arr.new _ _ _) (by rw[a7,h0.out.1];kernel_rfl) (by rw[a7,h0.out.1];rfl) (oH _) (fun w3 k3 hg aB=>?_)))
 have hb:=aq (ae w2 _) hg (zA0 _) zac;have YK:=k2.lt;replace kg:=aN kg (bO hb);replace k0:=k0.below hb;replace k2:=k2.below hb;obtain⟨g3,kZ⟩:=zX w2.heap.size;rw[kZ]at k3 YK⊢;clear hb aB kZ hg og Q0 lt0;go_wp2_with fail;rename_i hK;go_step3;exact hK _ _ (Pk _ _ ⟨g2,g3,0,⟨by omega,by omega,YK,hws,k0,k2,k3,kg⟩,rfl,rfl,rfl,rfl,rfl,rfl⟩);rintro⟨T,D⟩ wr ⟨g2,g3,t,⟨ht,j9,kZ,rK,k0,k2,k3,kg⟩,hD,hT,e0,e2,e3,e4⟩
 have hTe:T=(bu T 0::bu T 1::bu T 2::bu T 3::bu T 4::bu T 5::bu T 6::bu T 7::bu T 8::bu T 9::bu T 10::bu T 11::bu T 12::bu T 13::bu T 14::bu T 15::bu T 16::bu T 17::bu T 18::bu T 19::bu T 20::bu T 21::bu T 22::bu T 23::bu T 24::bu T 25::bu T 26::bu T 27::bu T 28::bu T 29::bu T 30::bu T 31::bu T 32::bu T 33::bu T 34::bu T 35::bu T 36::bu T 37::bu T 38::bu T 39::bu T 40::bu T 41::bu T 42::bu T 43::bu T 44::bu T 45::bu T 46::bu T 47::bu T 48::bu T 49::bu T 50::bu T 51::bu T 52::bu T 53::bu T 54::bu T 55::bu T 56::bu T 57::bu T 58::bu T 59::bu T 60::bu T 61::bu T 62::bu T 63::bu T 64::bu T 65::bu T 66::bu T 67::bu T 68::bu T 69::bu T 70::bu T 71::bu T 72::bu T 73::bu T 74::bu T 75::bu T 76::bu T 77::bu T 78::bu T 79::bu T 80::bu T 81::bu T 82::bu T 83::bu T 84::bu T 85::bu T 86::bu T 87::bu T 88::bu T 89::bu T 90::bu T 91::bu T 92::bu T 93::bu T 94::bu T 95::bu T 96::bu T 97::bu T 98::bu T 99::bu T 100::bu T 101::bu T 102::bu T 103::bu T 104::bu T 105::bu T 106::bu T 107::bu T 108::bu T 109::bu T 110::bu T 111::bu T 112::bu T 113::bu T 114::bu T 115::bu T 116::bu T 117::bu T 118::bu T 119::bu T 120::bu T 121::[]).toArray:=(YE T 122 hT).trans zKr
 simp only at hD e0 e2 e3 e4;subst hD;rw[hTe];rw[e0,e2,e3,e4];clear e0 e2 e3 e4 hT hTe;have zu:(0:Int)≤(t:Int):=zOm
 by_cases htn:t<64
 ·have vE:(t:Int)<64:=zOm;have ok:=xm (wl:=L) h0.out t;have bI:ws (V7 (qo h L t) (ju.getD t 0) (L.getD t 0))=ws (qo h L (t+1)):=rfl;have ckk:=NE.out wr t htn k0;obtain⟨v,hv⟩:=zX (qo h L t);rw[hv]at ok bI k3;clear hv;obtain⟨x0,x1,x2,x3,x4,x5,x6,x7,rfl⟩:=PX ok.1;have x0l:x0<4294967296:=ok.2.get 0;have x1l:x1<4294967296:=ok.2.get 1;have x2l:x2<4294967296:=ok.2.get 2;have x4l:x4<4294967296:=ok.2.get 4;have x5l:x5<4294967296:=ok.2.get 5;have x6l:x6<4294967296:=ok.2.get 6;replace bI:ws (Kn x0 x1 x2 x3 x4 x5 x6 x7 (ju.getD t 0) (L.getD t 0))=ws (qo h L (t+1)):=bI;have cww:=bL (l:=L) (j:=t) (by rw[nA.out.1];exact htn);obtain⟨kk,uA⟩:=zX (ju.getD t 0);obtain⟨ww,X8⟩:=zX (L.getD t 0);rw[uA]at ckk bI;rw[X8]at cww bI;have ckk2:=k0.frozen (8+t);replace cww:=zH cww;have ZB:Hid (∀w',Arr w' g (fL h bs n lg)→w'.cell? ⟨g,8+t,none⟩=some (.int .u32 (kk:Int))):=zH (fun w' k=>by rw[NE.out w' t htn k,uA])
  clear uA X8 ok ckk ckk2;unfold Kn at bI;obtain⟨p1,p1e⟩:=zX (rl x4 26);have p1l:p1<4294967296:=(by rw[←p1e];exact iQ x4l _);obtain⟨p2,p2e⟩:=zX (rl x4 21);have p2l:p2<4294967296:=(by rw[←p2e];exact iQ x4l _);obtain⟨p3,p3e⟩:=zX (rl x4 7);have p3l:p3<4294967296:=(by rw[←p3e];exact iQ x4l _);obtain⟨p4,p4e⟩:=zX (p1 ^^^p2);have p4l:p4<4294967296:=(by rw[←p4e];exact nd p1l p2l);have p4f:bits .xor .u32 (p1:Int) (p2:Int)=(p4:Int):=(by rw[fK p1l p2l,p4e]);obtain⟨pz,pze⟩:=zX (DS x4);have pzl:pz<4294967296:=(by rw[←pze];exact WG x4l);have p5f:bits .xor .u32 (p4:Int) (p3:Int)=(pz:Int):=(by rw[fK p4l p3l,←pze,DS,p1e,p2e,p3e,p4e]);rw[pze]at bI;have p1c:=zH (fun w=>Wi x4l p1e w);have p2c:=zH (fun w=>SP x4l p2e w);have p3c:=zH (fun w=>SX x4l p3e w);clear p1e p2e p3e p4e pze p1l p2l p3l p4l;obtain⟨q1,q1e⟩:=zX (rl x0 30);have q1l:q1<4294967296:=(by rw[←q1e];exact iQ x0l _);obtain⟨q2,q2e⟩:=zX (rl x0 19)
  have q2l:q2<4294967296:=(by rw[←q2e];exact iQ x0l _);obtain⟨q3,q3e⟩:=zX (rl x0 10);have q3l:q3<4294967296:=(by rw[←q3e];exact iQ x0l _);obtain⟨q4,q4e⟩:=zX (q1 ^^^q2);have q4l:q4<4294967296:=(by rw[←q4e];exact nd q1l q2l);have q4f:bits .xor .u32 (q1:Int) (q2:Int)=(q4:Int):=(by rw[fK q1l q2l,q4e]);obtain⟨qz,qze⟩:=zX (Iw x0);have qzl:qz<4294967296:=(by rw[←qze];exact WC x0l);have q5f:bits .xor .u32 (q4:Int) (q3:Int)=(qz:Int):=(by rw[fK q4l q3l,←qze,Iw,q1e,q2e,q3e,q4e]);rw[qze]at bI;have q1c:=zH (fun w=>Wh x0l q1e w);have q2c:=zH (fun w=>SQ x0l q2e w);have q3c:=zH (fun w=>SW x0l q3e w);clear q1e q2e q3e q4e qze q1l q2l q3l q4l;obtain⟨c1,c1e⟩:=zX (x4 &&&x5);have c1f:bits .and .u32 (x4:Int) (x5:Int)=(c1:Int):=(by rw[tz x4l x5l,c1e]);have c1l:c1<4294967296:=(by rw[←c1e];exact Bg x4l);rw[c1e]at bI;clear c1e;obtain⟨x4n,x4ne⟩:=zX (4294967295 ^^^x4)
  have x4nl:x4n<4294967296:=(by rw[←x4ne];exact nd zDc x4l);have x4nf:bits .xor .u32 (if IntKind.u32.signed=true then -1 else IntKind.u32.max) (x4:Int)=(x4n:Int):=by
   show bits .xor .u32 ((4294967295:Nat):Int) (x4:Int)=_
   rw[fK zDc x4l,x4ne]
  rw[x4ne]at bI;clear x4ne;obtain⟨c2,c2e⟩:=zX (x4n &&&x6);have c2f:bits .and .u32 (x4n:Int) (x6:Int)=(c2:Int):=(by rw[tz x4nl x6l,c2e]);have c2l:c2<4294967296:=(by rw[←c2e];exact Bg x4nl);rw[c2e]at bI;clear c2e;obtain⟨c3,c3e⟩:=zX (c1 ^^^c2);have c3f:bits .xor .u32 (c1:Int) (c2:Int)=(c3:Int):=(by rw[fK c1l c2l,c3e]);have c3l:c3<4294967296:=(by rw[←c3e];exact nd c1l c2l);rw[c3e]at bI;clear c3e;obtain⟨j1,j1e⟩:=zX (x0 &&&x1);have j1f:bits .and .u32 (x0:Int) (x1:Int)=(j1:Int):=(by rw[tz x0l x1l,j1e]);have j1l:j1<4294967296:=(by rw[←j1e];exact Bg x0l);rw[j1e]at bI;clear j1e;obtain⟨j2,j2e⟩:=zX (x0 &&&x2);have j2f:bits .and .u32 (x0:Int) (x2:Int)=(j2:Int):=(by rw[tz x0l x2l,j2e]);have j2l:j2<4294967296:=(by rw[←j2e];exact Bg x0l);rw[j2e]at bI;clear j2e;obtain⟨j3,j3e⟩:=zX (j1 ^^^j2);have j3f:bits .xor .u32 (j1:Int) (j2:Int)=(j3:Int):=(by rw[fK j1l j2l,j3e])
  have j3l:j3<4294967296:=(by rw[←j3e];exact nd j1l j2l);rw[j3e]at bI;clear j3e;obtain⟨j4,j4e⟩:=zX (x1 &&&x2);have j4f:bits .and .u32 (x1:Int) (x2:Int)=(j4:Int):=(by rw[tz x1l x2l,j4e]);have j4l:j4<4294967296:=(by rw[←j4e];exact Bg x1l);rw[j4e]at bI;clear j4e;obtain⟨j5,j5e⟩:=zX (j3 ^^^j4);have j5f:bits .xor .u32 (j3:Int) (j4:Int)=(j5:Int):=(by rw[fK j3l j4l,j5e]);have j5l:j5<4294967296:=(by rw[←j5e];exact nd j3l j4l);rw[j5e]at bI;clear j5e;obtain⟨s1,s1e⟩:=zX ((x7+pz)%4294967296);have s1f:IntKind.u32.wrap ((x7:Int)+(pz:Int))=(s1:Int):=(by rw[show((x7:Int)+(pz:Int))=((x7+pz:Nat):Int) by omega,dW,s1e]);rw[s1e]at bI;clear s1e;obtain⟨s2,s2e⟩:=zX ((s1+c3)%4294967296);have s2f:IntKind.u32.wrap ((s1:Int)+(c3:Int))=(s2:Int):=(by rw[show((s1:Int)+(c3:Int))=((s1+c3:Nat):Int) by omega,dW,s2e]);rw[s2e]at bI;clear s2e;obtain⟨s3,s3e⟩:=zX ((s2+kk)%4294967296)
  have s3f:IntKind.u32.wrap ((s2:Int)+(kk:Int))=(s3:Int):=(by rw[show((s2:Int)+(kk:Int))=((s2+kk:Nat):Int) by omega,dW,s3e]);rw[s3e]at bI;clear s3e;obtain⟨sx,sxe⟩:=zX ((s3+ww)%4294967296);have sxf:IntKind.u32.wrap ((s3:Int)+(ww:Int))=(sx:Int):=(by rw[show((s3:Int)+(ww:Int))=((s3+ww:Nat):Int) by omega,dW,sxe]);rw[sxe]at bI;clear sxe;obtain⟨sy,sye⟩:=zX ((qz+j5)%4294967296);have syf:IntKind.u32.wrap ((qz:Int)+(j5:Int))=(sy:Int):=(by rw[show((qz:Int)+(j5:Int))=((qz+j5:Nat):Int) by omega,dW,sye]);rw[sye]at bI;clear sye;obtain⟨sa,sae⟩:=zX ((sx+sy)%4294967296);have saf:IntKind.u32.wrap ((sx:Int)+(sy:Int))=(sa:Int):=(by rw[show((sx:Int)+(sy:Int))=((sx+sy:Nat):Int) by omega,dW,sae]);rw[sae]at bI;clear sae;obtain⟨se,see⟩:=zX ((x3+sx)%4294967296);have sef:IntKind.u32.wrap ((x3:Int)+(sx:Int))=(se:Int):=(by rw[show((x3:Int)+(sx:Int))=((x3+sx:Nat):Int) by omega,dW,see]);rw[see]at bI;clear see
  have ep:Hid (ws [sa,x0,x1,x2,se,x4,x5,x6]=ws (qo h L (t+1))):=zH bI;clear bI x0l x1l x2l x4l x5l x6l;have d0:Hid (∀w',Arr w' g3 (ws [x0,x1,x2,x3,x4,x5,x6,x7])→w'.cell? ⟨g3,0,none⟩=some (.int .u32 (x0:Int))∧w'.cell? ⟨g3,1,none⟩=some (.int .u32 (x1:Int))∧w'.cell? ⟨g3,2,none⟩=some (.int .u32 (x2:Int))∧w'.cell? ⟨g3,3,none⟩=some (.int .u32 (x3:Int))∧w'.cell? ⟨g3,4,none⟩=some (.int .u32 (x4:Int))∧w'.cell? ⟨g3,5,none⟩=some (.int .u32 (x5:Int))∧w'.cell? ⟨g3,6,none⟩=some (.int .u32 (x6:Int))∧w'.cell? ⟨g3,7,none⟩=some (.int .u32 (x7:Int))):=
   zH (fun w' k=>⟨k.cell (j:=0) rfl,k.cell (j:=1) rfl,k.cell (j:=2) rfl,k.cell (j:=3) rfl,k.cell (j:=4) rfl,k.cell (j:=5) rfl,k.cell (j:=6) rfl,k.cell (j:=7) rfl⟩)
  have kgs:=kg.size;go_upto_region 4 with fail
  obtain⟨wq,rfl⟩:∃wq:World,wq=wr:=⟨_,rfl⟩;refine cH 9999 6 fun aP=>?_;refine dz ?_ 0 63 zaD [0,1,2,3,4,5] (fun w' hB=>by obtain⟨f0,-,-,-,f4,-,-,-⟩:=d0.out w' (k3.below hB);exact zRd) ?_;refine ap zKr ?_;obtain⟨k0,k2,k3⟩:=dZ k0 k2 k3 aP;replace kg:=aN kg (bO aP);clear aP;go_wp2_with fail;refine zQ (p1c.out _) fun aeL hb=>?_;obtain⟨k0,k2,k3⟩:=dZ k0 k2 k3 hb;replace kg:=aN kg (bO hb);clear hb;go_wp2_with fail;refine zQ (p2c.out _) fun aeM hb=>?_;obtain⟨k0,k2,k3⟩:=dZ k0 k2 k3 hb;replace kg:=aN kg (bO hb);clear hb;go_wp2_with fail;refine zQ (p3c.out _) fun aeN hb=>?_;obtain⟨k0,k2,k3⟩:=dZ k0 k2 k3 hb;replace kg:=aN kg (bO hb);clear hb;go_wp2_with fail;refine zQ (q1c.out _) fun aeQ hb=>?_;obtain⟨k0,k2,k3⟩:=dZ k0 k2 k3 hb;replace kg:=aN kg (bO hb);clear hb;go_wp2_with fail;refine zQ (q2c.out _) fun aeR hb=>?_;obtain⟨k0,k2,k3⟩:=dZ k0 k2 k3 hb;replace kg:=aN kg (bO hb);clear hb
  go_wp2_with fail;refine zQ (q3c.out _) fun Uj hb=>?_;obtain⟨k0,k2,k3⟩:=dZ k0 k2 k3 hb;replace kg:=aN kg (bO hb);clear hb;clear p1c p2c p3c q1c q2c q3c;go_upto_region 7 with fail
  obtain⟨wq,lq⟩:∃wq:World,Uj=wq:=⟨_,rfl⟩;rw[lq]at k0 k2 k3 kg⊢;clear lq;refine cH 9999 27 fun bn=>?_;refine dz ?_ 0 134217727 za0 [0,1,2,3,4,5,6,7,8,9,10,11,12,13,14,15,16,17,18,19,20,21,22,23,24,25,26] (fun w' hB=>by obtain⟨-,-,-,-,-,f5,f6,f7⟩:=d0.out w' (k3.below hB);have fk:=ZB.out w' (k0.below hB);have fw:=(k2.below hB).cell cww.out;exact zRd) ?_;refine ap zKr ?_;obtain⟨k0,k2,k3⟩:=dZ k0 k2 k3 bn;replace kg:=aN kg (bO bn);clear bn;obtain⟨w8,Z7⟩:∃w8:World,wq.drew=w8:=⟨_,rfl⟩;rw[Z7]at k0 k2 k3 kg⊢;clear Z7;obtain⟨f0,f1,f2,f3,f4,f5,f6,f7⟩:=d0.out _ k3;clear p4f p5f q4f q5f c1f c2f c3f x4nf s1f s2f s3f sxf c1l c2l c3l x4nl j1l j2l j3l j4l j5l pzl qzl kgs zu vE
  obtain⟨z0,z1,z2,z3,z4,z5,z6,z7⟩:w8.frozen? ⟨g3,0,none⟩=false∧w8.frozen? ⟨g3,1,none⟩=false∧w8.frozen? ⟨g3,2,none⟩=false∧w8.frozen? ⟨g3,3,none⟩=false∧w8.frozen? ⟨g3,4,none⟩=false∧w8.frozen? ⟨g3,5,none⟩=false∧w8.frozen? ⟨g3,6,none⟩=false∧w8.frozen? ⟨g3,7,none⟩=false:=⟨k3.frozen _,k3.frozen _,k3.frozen _,k3.frozen _,k3.frozen _,k3.frozen _,k3.frozen _,k3.frozen _⟩;go_wp2_with fail;go_step3;clear f0 f1 f2 f3 f4 f5 f6 f7 z0 z1 z2 z3 z4 z5 z6 z7;replace k3:=(((((((k3.set 0 (.int .u32 (sa:Int))).set 1 (.int .u32 (x0:Int))).set 2 (.int .u32 (x1:Int))).set 3 (.int .u32 (x2:Int))).set 4 (.int .u32 (se:Int))).set 5 (.int .u32 (x4:Int))).set 6 (.int .u32 (x5:Int))).set 7 (.int .u32 (x6:Int))
  have hg:=aN (aN (aN (aN (aN (aN (aN (bY w8 g3 0 (.int .u32 (sa:Int))) (bY _ g3 1 (.int .u32 (x0:Int)))) (bY _ g3 2 (.int .u32 (x1:Int)))) (bY _ g3 3 (.int .u32 (x2:Int)))) (bY _ g3 4 (.int .u32 (se:Int)))) (bY _ g3 5 (.int .u32 (x4:Int)))) (bY _ g3 6 (.int .u32 (x5:Int)))) (bY _ g3 7 (.int .u32 (x6:Int)));replace k0:=k0.kept hg zOm;replace k2:=k2.kept hg zOm;replace kg:=Nf kg hg zOm;exact zee
 ·have dj:decide ((t:Int)<64)=false:=decide_eq_false zOm;have jM:Hid (t=64):=zH zOm;rw[jM.out]at k3;have IV:=zH (xm (wl:=L) h0.out 64);obtain⟨v,hv⟩:=zX (qo h L 64);rw[hv]at k3 IV;have hR2:Hid (pK h v 8=R):=zH (by rw[←hv];exact hR.out);clear hv hR NE jM zu ht htn k2;obtain⟨ic,sG⟩:∃ic:Int,(t:Int)=ic:=⟨_,rfl⟩;rw[sG]at dj⊢;clear sG;go_wp2_with fail;clear dj;go_loopw[105] (fun iv wr=>∃i:Nat,i≤8∧iv=.int .i64 i∧Arr wr g (fL (pK h v i) bs n lg)∧Arr wr g3 (ws v)∧w.grownBy wr (some g)) (fun iv _=>8-(intOf iv).toNat)
  case atStart=>exact⟨0,by omega,rfl,k0,k3,kg⟩
  case round=>
  clear k0 k3 kg;obtain⟨i,hi,rfl,k0,k3,kg⟩:=hrel;have mA:(0:Int)≤(i:Int):=zOm
  by_cases iS:i<8
  ·have ub:(i:Int)<8:=zOm;have ok:=vV (v:=v) h0.out i;have cx:=zH (MH (bs:=bs) (n:=n) (lg:=lg) ok.1 iS);have aL:=zH (KU (bs:=bs) (n:=n) (lg:=lg) (j:=i) (x:=(h.getD i 0+v.getD i 0)%4294967296) ok.1 iS);have aI:=zH (TO (n:=n) (lg:=lg) ok.1 hb.out);have had:=Bb (h:=h) (v:=v) i i (zA0 _);have ep:Hid ((pK h v i).set i ((h.getD i 0+v.getD i 0)%4294967296)=pK h v (i+1)):=zH rfl;have cy:=zH (bL (l:=v) (j:=i) (by rw[IV.out.1];exact iS));rw[had]at cx;obtain⟨l,hl⟩:=zX (pK h v i);rw[hl]at k0 cx aL ep aI;obtain⟨x,hx⟩:=zX (h.getD i 0);obtain⟨y,hy⟩:=zX (v.getD i 0);rw[hx]at cx;rw[hy]at cy;rw[hx,hy]at aL ep;obtain⟨z,hz⟩:=zX ((x+y)%4294967296);have fz:IntKind.u32.wrap ((x:Int)+(y:Int))=(z:Int):=za1;rw[hz]at aL ep;clear ok had hl hx hy hz;go_upto_region 14 with fail
   obtain⟨wq,rfl⟩:∃wq:World,wq=wr:=⟨_,rfl⟩;refine cH 13 14 fun bB=>?_;refine eZ ?_ 1 8191 zaI [0,1,2,3,4,5,6,7,8,9,10,11,12] (fun w' hB=>by have f1:=(k0.below hB).cell cx.out;have f2:=(k3.below hB).cell cy.out;exact zRd) ?_;refine bf 16383 rfl zDk (fun K hK=>?_);replace k0:=k0.below bB;replace k3:=k3.below bB;replace kg:=aN kg (bO bB);clear bB;refine br rfl _ _ _ rfl g i (.int .u32 (z:Int)) rfl rfl _ k0 zKr (by rw[aI.out];omega) rfl (fun w5 k0 hg aB=>?_);rw[aL.out,ep.out]at k0;replace k3:=k3.kept hg zOm;replace kg:=aN kg hg;refine hK (fun _=>True) 9999 _ _ ?_;clear hK K;try simp only[Act.put]
   try simp only[zSa,zSz,zSs]
   exact zeU
  ·have dj:decide ((i:Int)<8)=false:=decide_eq_false zOm;have jM:Hid (i=8):=zH zOm;rw[jM.out,hR2.out]at k0;go_wp2_with fail;simp only[Exit.jump];go_end0;exact⟨rfl,k0,kg⟩
end Go.Proofs.YtgfkgolafkdjfaaGreatDoor
