/- ModelWrong: part 16 of its proof: lemmas and contracts, each with its conditions in its own statement; the last part holds the law itself. -/
import Derived.Test.YtgfkgolafkdjfaaGreatDoorJv15

set_option maxHeartbeats 4000000
set_option maxRecDepth 100000
namespace Go.Proofs.YtgfkgolafkdjfaaGreatDoor
open Go.RowKit
def nE:List Nat:=[4794697086780616226,8158064640168781261,13096744586834688815,16840607885511220156,4131703408338449720,6480981068601479193,10538285296894168987,12329834152419229976,15566598209576043074,1334009975649890238,2608012711638119052,6128411473006802146,8268148722764581231,9286055187155687089,11230858885718282805,13951009754708518548,16472876342353939154,17275323862435702243,1135362057144423861,2597628984639134821,3308224258029322869,5365058923640841347,6679025012923562964,8573033837759648693,10970295158949994411,12119686244451234320,12683024718118986047,13788192230050041572,14330467153632333762,15395433587784984357,489312712824947311,1452737877330783856,2861767655752347644,3322285676063803686,5560940570517711597,5996557281743188959,7280758554555802590,8532644243296465576,9350256976987008742,10552545826968843579,11727347734174303076,12113106623233404929,14000437183269869457,14369950271660146224,15101387698204529176,15463397548674623760,17586052441742319658,1182934255886127544,1847814050463011016,2177327727835720531,2830643537854262169,3796741975233480872,4115178125766777443,5681478168544905931,6601373596472566643,7507060721942968483,8399075790359081724,8693463985226723168,9568029438360202098,10144078919501101548,10430055236837252648,11840083180663258601,13761210420658862357,14299343276471374635,14566680578165727644,15097957966210449927,16922976911328602910,17689382322260857208,500013540394364858,748580250866718886,1242879168328830382,1977374033974150939,2944078676154940804,3659926193048069267,4368137639120453308,4836135668995329356,5532061633213252278,6448918945643986474,6902733635092675308,7801388544844847127]
def C8:List Nat:=[7640891576956012808,13503953896175478587,4354685564936845355,11912009170470909681,5840696475078001361,11170449401992604703,2270897969802886507,6620516959819538809]
def OY (x:Nat):Nat:=rL x 63 ^^^rL x 56 ^^^x/128
def O0 (x:Nat):Nat:=rL x 45 ^^^rL x 3 ^^^x/64
def DT (x:Nat):Nat:=rL x 50 ^^^rL x 46 ^^^rL x 23
def Ix (x:Nat):Nat:=rL x 36 ^^^rL x 30 ^^^rL x 25
theorem ip:nE.length=80∧W64 nE:=by unfold W64;decide
theorem WL:C8.length=8∧W64 C8:=by unfold W64;decide
theorem Lu {x:Nat} (h:x<18446744073709551616) (d:Nat):x/d<18446744073709551616:=zA9 (zA21 _ _) h
theorem nf {x y:Nat} (hx:x<18446744073709551616) (hy:y<18446744073709551616):x ^^^y<18446744073709551616:=zA29 (n:=64) hx hy
theorem Bh {x y:Nat} (hx:x<18446744073709551616):x &&&y<18446744073709551616:=zA9 Nat.and_le_left hx
theorem WI {x:Nat} (h:x<18446744073709551616):DT x<18446744073709551616:=nf (nf (iY h _) (iY h _)) (iY h _)
theorem WE {x:Nat} (h:x<18446744073709551616):Ix x<18446744073709551616:=nf (nf (iY h _) (iY h _)) (iY h _)
def il (bs:List UInt8):Nat→List Nat
 |0=>List.replicate 80 0
 |i+1=>(il bs i).set (i/8) (((il bs i).getD (i/8) 0*256%18446744073709551616) |||(bs.getD i 0).toNat)
def Iv (l:List Nat) (t:Nat):Nat:=(O0 (l.getD (t-2) 0)+l.getD (t-7) 0+OY (l.getD (t-15) 0)+l.getD (t-16) 0)%18446744073709551616
def jV (bs:List UInt8):Nat→List Nat
 |0=>il bs 128
 |j+1=>(jV bs j).set (16+j) (Iv (jV bs j) (16+j))
def rQ (bs:List UInt8):List Nat:=jV bs 64
theorem tj (bs:List UInt8):∀i,(il bs i).length=80∧W64 (il bs i)
 |0=>⟨by simp[il],by
  intro x hx;rw[il,List.mem_replicate]at hx;omega⟩
 |i+1=>⟨by rw[il,zA23,(tj bs i).1],(tj bs i).2.set _ (Nat.or_lt_two_pow (n:=64) (zA1 _ zDc) (zA25 (UInt8.toNat_lt _) zDc))⟩
theorem oE (bs:List UInt8):∀j,(jV bs j).length=80∧W64 (jV bs j)
 |0=>tj bs 128
 |j+1=>⟨by rw[jV,zA23,(oE bs j).1],(oE bs j).2.set _ (zA1 _ zDc)⟩
def fM (h:List Nat) (bs:List UInt8) (n lg:Nat):List Value:=wd h++(wd nE++(aJ bs++[.int .i64 (n:Int),.int .u64 (lg:Int)]))
section
variable {h:List Nat} {bs:List UInt8} {n lg:Nat} (hh:h.length=8)
theorem TQ {j:Nat} (hj:j<(wd h).length):(fM h bs n lg)[0+j]? =(wd h)[j]? :=by
 rw[fM,Nat.zero_add,zA12 hj]
include hh
theorem TR (hb:bs.length=128):(fM h bs n lg).length=218:=by simp[fM,bV,ai,hb,hh,ip.1]
theorem MI {j:Nat} (hj:j<8):(fM h bs n lg)[j]? =some (.int .u64 ((h.getD j 0:Nat):Int)):=by
 have:=TQ (h:=h) (bs:=bs) (n:=n) (lg:=lg) (j:=j) (by rw[bV,hh];exact hj);rw[Nat.zero_add]at this;rw[this,i9 (by rw[hh];exact hj)]
theorem aaW {j:Nat} (hj:j<80):(fM h bs n lg)[8+j]? =some (.int .u64 ((nE.getD j 0:Nat):Int)):=by
 rw[fM,zA2 zbc,bV,hh,show 8+j-8=j by omega,zA12 (by rw[bV,ip.1];exact hj),i9 (by rw[ip.1];exact hj)]
theorem TP {j:Nat} (hj:j<bs.length):(fM h bs n lg)[88+j]? =(aJ bs)[j]? :=by
 rw[fM,zA2 zbc,bV,hh,zA2 zbd,bV,ip.1,show 88+j-8-80=j by omega,zA12 zaU]
theorem Dc (hb:bs.length=128):(fM h bs n lg)[216]? =some (.int .i64 (n:Int)):=by
 rw[fM,zA2 zbc,bV,hh,zA2 zbd,bV,ip.1,zA2 zaV,ai,hb];rfl
theorem aaX (hb:bs.length=128):(fM h bs n lg)[217]? =some (.int .u64 (lg:Int)):=by
 rw[fM,zA2 zbc,bV,hh,zA2 zbd,bV,ip.1,zA2 zaV,ai,hb];rfl
theorem Dd {m:Nat} (hb:bs.length=128):(fM h bs n lg).set 216 (.int .i64 (m:Int))=fM h bs m lg:=by
 exact zeA
theorem KY {m:Nat} (hb:bs.length=128):(fM h bs n lg).set 217 (.int .u64 (m:Int))=fM h bs n m:=by
 exact zeA
theorem KW {j:Nat} {x:UInt8} (hj:j<bs.length):(fM h bs n lg).set (88+j) (.int .u8 (x.toNat:Int))=fM h (bs.set j x) n lg:=by
 rw[fM,fM,List.set_append_right _ _ zbc,bV,hh,List.set_append_right _ _ zbd,bV,ip.1,show 88+j-8-80=j by omega,List.set_append_left _ _ zaU];congr 3;exact zfy
theorem KX {j x:Nat} (hj:j<8):(fM h bs n lg).set j (.int .u64 (x:Int))=fM (h.set j x) bs n lg:=by
 rw[fM,fM,List.set_append_left _ _ (by rw[bV,hh];exact hj),zL]
end
theorem KF {g:Nat} {h:List Nat} {bs:List UInt8} {n lg:Nat} (w:World) (k0:Arr w g (fM h bs n lg)) (hh:h.length=8) (hb:bs.length=128):
 CB 246 #[.pointer (some ⟨g,0,none⟩)] w (.agg (wd (rQ bs)).toArray):=by
 have JS:Hid (∀w',Arr w' g (fM h bs n lg)→w'.rangeAt g 88 (aJ bs)):=zH (fun w' hk=>hk.range (fun j hj=>TP hh (by rw[ai]at hj;exact hj)));replace hb:=zH hb;clear hh;have hl:=zH (show(wd (rQ bs)).length=80 by rw[bV];exact(oE bs 64).1);obtain⟨L,hL⟩:=zX (rQ bs);rw[hL]at hl⊢;replace hL:=zH hL;go_enter Tryz.func246,Tryz.ntmps246;go_upto_region 2 with fail
 refine be (fun W aB k2 k3 kb=>?_);have k2:Arr W w.heap.size (wd (List.replicate 80 0)):=k2;have k3:Arr W (w.heap.size+1) (wd (il bs 0)):=k3;have lt0:=k0.lt;have og:=JS.out W (k0.below kb);obtain⟨g2,j9⟩:=zX w.heap.size;rw[j9]at k2 k3 lt0⊢;have rK:w.heap.size≤g2:=zOm;clear j9 aB k0 JS;go_wp2_with(refine aE rfl _ _ rfl _ _ rfl zKr _ og (by rw[ai,hb.out];kernel_rfl) ?_);clear og;go_loopw[15] (fun iv wr=>∃i:Nat,i≤128∧iv=.int .i64 i∧Arr wr g2 (wd (List.replicate 80 0))∧Arr wr (g2+1) (wd (il bs i))∧Below w.heap.size w wr) (fun iv _=>128-(intOf iv).toNat)
 case atStart=>exact⟨0,by omega,rfl,k2,k3,kb⟩
 case round=>
 clear k2 k3 kb;obtain⟨i,hi,rfl,k2,k3,kb⟩:=hrel;have mA:(0:Int)≤(i:Int):=zOm
 by_cases iS:i<128
 ·have ub:(i:Int)<128:=zOm;have Zu:i<bs.length:=(by rw[hb.out];exact iS);obtain⟨inf,QK,-,jA,-⟩:=info_parts ig;have hix:=px (P:=Tryz.prog) wr 289 5 128 _ inf Tryz.underlying289 Tryz.underlying5 rfl QK jA (aJ bs) i _ iS (eY bs i Zu);obtain⟨x,hx⟩:=zX ((bs[i]).toNat);have lx:x<256:=zaW;rw[hx]at hix;have Rj:Hid ((bs.getD i 0).toNat=x):=zH (by rw[←hx,zA10,zA7 Zu];rfl);clear hx Zu QK jA;have ok:=tj bs i;have dP:=i9 (l:=il bs i) (j:=i/8) zaX;have lyy:=ok.2.get (i/8);obtain⟨y,hy⟩:=zX ((il bs i).getD (i/8) 0);rw[hy]at dP lyy;have ep:Hid ((wd (il bs i)).set (i/8) (.int .u64 (((y*256%18446744073709551616) |||x:Nat):Int))=wd (il bs (i+1))):=zH (by rw[zL,il,hy,Rj.out]);have dI:Hid ((wd (il bs i)).length=80):=zH (by rw[bV,ok.1]);obtain⟨l,hl⟩:=zX (il bs i);rw[hl]at k3 dP ep dI;obtain⟨q,hq⟩:=zX (i/8);rw[hq]at dP ep;have fq:(i:Int)/8=(q:Int):=zOm
  have JR:(0:Int)≤(q:Int):=zOm;have wI:(q:Int)<80:=zOm;have fw:IntKind.i64.wrap (q:Int)=(q:Int):=i64_in zOm;have fx:IntKind.u64.wrap (x:Int)=(x:Int):=CL zOm;have fo:=mt (a:=y*256%18446744073709551616) (b:=x) (zA1 _ zDc) (zA25 lx zDc);rw[show((y*256%18446744073709551616:Nat):Int)=IntKind.u64.wrap ((y:Int)*256) by rw[iR];omega]at fo;clear hy hl ok Rj;obtain⟨z,hz⟩:=zX ((y*256%18446744073709551616) |||x);rw[hz]at fo ep;replace hq:=zH hq;clear hz;have bo:=k3.cell dP;have bT:=k3.frozen q;replace dP:=zH dP;go_wp2_with fail;replace k2:=k2.other (a:=⟨g2+1,q,none⟩) zac (.int .u64 (z:Int));replace k3:=k3.set q (.int .u64 (z:Int));exact zeW
 ·have dj:decide ((i:Int)<128)=false:=decide_eq_false zOm;have jM:Hid (i=128):=zH zOm;rw[jM.out]at k3;replace k3:Arr wr (g2+1) (wd (jV bs (16-16))):=k3;clear hi iS mA;obtain⟨ic,sG⟩:∃ic:Int,(i:Int)=ic:=⟨_,rfl⟩;rw[sG]at dj⊢;clear sG;go_wp2_with fail;clear dj;go_loopw[6] (fun iv wr=>∃t:Nat,16≤t∧t≤80∧iv=.int .i64 t∧Arr wr g2 (wd (List.replicate 80 0))∧Arr wr (g2+1) (wd (jV bs (t-16)))∧Below w.heap.size w wr) (fun iv _=>80-(intOf iv).toNat)
  case atStart=>exact⟨16,by omega,by omega,rfl,k2,k3,kb⟩
  case round=>
  clear k2 k3 kb;obtain⟨t,zu,ht,rfl,k2,k3,kb⟩:=hrel;have mA:(0:Int)≤(t:Int):=zOm
  by_cases iS:t<80
  ·have ub:(t:Int)<80:=zOm;have ok:=oE bs (t-16);have bI:(wd (jV bs (t-16))).set t (.int .u64 ((Iv (jV bs (t-16)) t:Nat):Int))=wd (jV bs (t+1-16)):=by
    exact zfI
   obtain⟨l,hl⟩:=zX (jV bs (t-16));rw[hl]at k3 ok bI;clear hl;obtain⟨t15,e15⟩:=zX (t-15);obtain⟨t2,e2⟩:=zX (t-2);obtain⟨t7,e7⟩:=zX (t-7);obtain⟨t16,e16⟩:=zX (t-16);have c15:=zH (i9 (l:=l) (j:=t15) zaX);have c2:=zH (i9 (l:=l) (j:=t2) zaX);have c7:=zH (i9 (l:=l) (j:=t7) zaX);have c16:=zH (i9 (l:=l) (j:=t16) zaX);have dI:Hid ((wd l).length=80):=zH (by rw[bV,ok.1]);have l15:=ok.2.get t15;have l2:=ok.2.get t2;rw[Iv,e15,e2,e7,e16]at bI;clear ok;obtain⟨x,hx⟩:=zX (l.getD t15 0);obtain⟨y,hy⟩:=zX (l.getD t2 0);obtain⟨x7,X9⟩:=zX (l.getD t7 0);obtain⟨x16,Ri⟩:=zX (l.getD t16 0);rw[hx]at c15 l15 bI;rw[hy]at c2 l2 bI;rw[X9]at c7 bI;rw[Ri]at c16 bI;clear hx hy X9 Ri;have m15:IntKind.i64.wrap ((t:Int)-15)=(t15:Int):=zaY;have m2:IntKind.i64.wrap ((t:Int)-2)=(t2:Int):=zaY
   have m7:IntKind.i64.wrap ((t:Int)-7)=(t7:Int):=zaY;have m16:IntKind.i64.wrap ((t:Int)-16)=(t16:Int):=zaY;have b15:(0:Int)≤(t15:Int):=zOm;have b2:(0:Int)≤(t2:Int):=zOm;have b7:(0:Int)≤(t7:Int):=zOm;have b16:(0:Int)≤(t16:Int):=zOm;have d15:(t15:Int)<80:=zOm;have d2:(t2:Int)<80:=zOm;have d7:(t7:Int)<80:=zOm;have d16:(t16:Int)<80:=zOm;clear e15 e2 e7;replace e16:=zH e16;go_upto_region 10 with fail
   obtain⟨wq,rfl⟩:∃wq:World,wq=wr:=⟨_,rfl⟩;refine cH 9999 10 fun aP=>?_;refine dz ?_ 0 1023 zaD [0,1,2,3,4,5,6,7,8,9] (fun w' hB=>by have f1:=(k3.below hB).cell c15.out;have f2:=(k3.below hB).cell c2.out;exact zRd) ?_;refine ap zKr ?_;replace k2:=k2.below aP;replace k3:=k3.below aP;replace kb:=az kb aP;clear aP m15 m2 b15 b2 d15 d2 c15 c2;go_wp2_with fail;obtain⟨p1,p1e⟩:=zX (rL x 63);have p1l:p1<18446744073709551616:=(by rw[←p1e];exact iY l15 _);obtain⟨p2,p2e⟩:=zX (rL x 56);have p2l:p2<18446744073709551616:=(by rw[←p2e];exact iY l15 _);obtain⟨p3,p3e⟩:=zX (x/128);have p3l:p3<18446744073709551616:=(by rw[←p3e];exact Lu l15 _);have p3f:(x:Int)/128=(p3:Int):=zOm;obtain⟨p4,p4e⟩:=zX (p1 ^^^p2);have p4l:p4<18446744073709551616:=(by rw[←p4e];exact nf p1l p2l);have p4f:bits .xor .u64 (p1:Int) (p2:Int)=(p4:Int):=(by rw[jY p1l p2l,p4e]);obtain⟨pz,pze⟩:=zX (OY x)
   have p5f:bits .xor .u64 (p4:Int) (p3:Int)=(pz:Int):=(by rw[jY p4l p3l,←pze,OY,p1e,p2e,p3e,p4e]);rw[pze]at bI;replace p1e:=zH p1e;replace p2e:=zH p2e;clear p4e pze p1l p2l p3l p4l p3e;obtain⟨q1,q1e⟩:=zX (rL y 45);have q1l:q1<18446744073709551616:=(by rw[←q1e];exact iY l2 _);obtain⟨q2,q2e⟩:=zX (rL y 3);have q2l:q2<18446744073709551616:=(by rw[←q2e];exact iY l2 _);obtain⟨q3,q3e⟩:=zX (y/64);have q3l:q3<18446744073709551616:=(by rw[←q3e];exact Lu l2 _);have q3f:(y:Int)/64=(q3:Int):=zOm;obtain⟨q4,q4e⟩:=zX (q1 ^^^q2);have q4l:q4<18446744073709551616:=(by rw[←q4e];exact nf q1l q2l);have q4f:bits .xor .u64 (q1:Int) (q2:Int)=(q4:Int):=(by rw[jY q1l q2l,q4e]);obtain⟨qz,qze⟩:=zX (O0 y);have q5f:bits .xor .u64 (q4:Int) (q3:Int)=(qz:Int):=(by rw[jY q4l q3l,←qze,O0,q1e,q2e,q3e,q4e]);rw[qze]at bI;replace q1e:=zH q1e;replace q2e:=zH q2e;clear q4e qze q1l q2l q3l q4l q3e;go_wp2_with fail
   refine zQ (Wk l15 p1e.out _) fun i8 dA=>?_;obtain⟨k2,k3⟩:=fZ k2 k3 dA;have kb:=az kb dA;clear dA;go_wp2_with fail;refine zQ (Wl l15 p2e.out _) fun jF dc=>?_;obtain⟨k2,k3⟩:=fZ k2 k3 dc;have kb:=az kb dc;clear dc;go_wp2_with fail;refine zQ (S0 l2 q1e.out _) fun pJ fG=>?_;obtain⟨k2,k3⟩:=fZ k2 k3 fG;have kb:=az kb fG;clear fG;go_wp2_with fail;refine zQ (S5 l2 q2e.out _) fun m9 gH=>?_;obtain⟨k2,k3⟩:=fZ k2 k3 gH;have kb:=az kb gH;clear gH;clear p1e p2e q1e q2e;obtain⟨s1,kQ⟩:=zX ((qz+x7)%18446744073709551616);obtain⟨s2,Dv⟩:=zX ((s1+pz)%18446744073709551616);obtain⟨s3,Ek⟩:=zX ((s2+x16)%18446744073709551616);have a1:IntKind.u64.wrap ((qz:Int)+(x7:Int))=(s1:Int):=(by rw[show((qz:Int)+(x7:Int))=((qz+x7:Nat):Int) by omega,i5,kQ]);have a2:IntKind.u64.wrap ((s1:Int)+(pz:Int))=(s2:Int):=(by rw[show((s1:Int)+(pz:Int))=((s1+pz:Nat):Int) by omega,i5,Dv])
   have a3:IntKind.u64.wrap ((s2:Int)+(x16:Int))=(s3:Int):=(by rw[show((s2:Int)+(x16:Int))=((s2+x16:Nat):Int) by omega,i5,Ek]);have ep:Hid ((wd l).set t (.int .u64 (s3:Int))=wd (jV bs (t+1-16))):=zH (by rw[←bI,show(qz+x7+pz+x16)%18446744073709551616=s3 by omega]);clear bI kQ Dv Ek;go_upto_region 13 with fail
   obtain⟨wq,lq⟩:∃wq:World,m9=wq:=⟨_,rfl⟩;rw[lq]at k2 k3 kb⊢;clear lq;refine cH 15 16 fun dV=>?_;refine dz ?_ 1 32767 zaL [0,1,2,3,4,5,6,7,8,9,10,11,12,13,14] (fun w' hB=>by have f1:=(k3.below hB).cell c7.out;have f2:=(k3.below hB).cell c16.out;exact zRd) ?_;refine bf 65535 rfl zDk (fun K hK=>?_);replace k2:=k2.below dV;replace k3:=k3.below dV;replace kb:=az kb dV;clear dV;refine br rfl _ _ _ rfl (g2+1) t (.int .u64 (s3:Int)) rfl rfl _ k3 zKr (by rw[dI.out];exact iS) rfl (fun w5 k3 hg aB=>?_);rw[ep.out]at k3;replace k2:=k2.kept hg zOm;replace kb:=aq kb hg zOm kb.size;refine hK (fun _=>True) 9999 _ _ ?_;clear hK K;try simp only[Act.put]
   try simp only[zSa,zSz,zSs]
   exact zeN
  ·have dj:decide ((t:Int)<80)=false:=decide_eq_false zOm;have jM:Hid (t=80):=zH zOm;rw[jM.out]at k3;replace k3:Arr wr (g2+1) (wd (rQ bs)):=k3;rw[hL.out]at k3;clear hL mA iS ht zu;obtain⟨ic,sG⟩:∃ic:Int,(t:Int)=ic:=⟨_,rfl⟩;rw[sG]at dj⊢;clear sG jM;go_wp2_with(first|(refine ab rfl _ _ rfl _ rfl zDk _ k3 zaZ ?_)|(refine aD rfl _ _ _ rfl _ (wd L) rfl rfl _ k2 zaZ (by rw[hl.out,bV];rfl) (vP _) (fun w7 k2 hg aB=>?_)));have qb:=aq kb hg zOm kb.size;exact bodyPost_ret (aj Tryz.results246 _ _ _ rfl zKr _ k2 zaZ) rfl ⟨rfl,qb⟩
def Ko (x0 x1 x2 x3 x4 x5 x6 x7 k w:Nat):List Nat:=
 [(((((x7+DT x4)%18446744073709551616+((x4 &&&x5) ^^^((18446744073709551615 ^^^x4) &&&x6)))%18446744073709551616+k)%18446744073709551616+w)%18446744073709551616+(Ix x0+((x0 &&&x1) ^^^(x0 &&&x2) ^^^(x1 &&&x2)))%18446744073709551616)%18446744073709551616,x0,x1,x2,
  (x3+((((x7+DT x4)%18446744073709551616+((x4 &&&x5) ^^^((18446744073709551615 ^^^x4) &&&x6)))%18446744073709551616+k)%18446744073709551616+w)%18446744073709551616)%18446744073709551616,x4,x5,x6]
def V8 (v:List Nat) (k w:Nat):List Nat:=Ko (v.getD 0 0) (v.getD 1 0) (v.getD 2 0) (v.getD 3 0) (v.getD 4 0) (v.getD 5 0) (v.getD 6 0) (v.getD 7 0) k w
def qq (h wl:List Nat):Nat→List Nat
 |0=>h
 |t+1=>V8 (qq h wl t) (nE.getD t 0) (wl.getD t 0)
theorem xn {h wl:List Nat} (h0:h.length=8∧W64 h):∀t,(qq h wl t).length=8∧W64 (qq h wl t)
 |0=>h0
 |t+1=>⟨rfl,by
  have ok:=(xn (wl:=wl) h0 t).2;intro x hx;simp only[qq,V8,Ko,List.mem_cons,List.not_mem_nil,or_false]at hx;rcases hx with rfl|rfl|rfl|rfl|rfl|rfl|rfl|rfl<;>first|exact ok.get _|exact zA1 _ zDc⟩
def pL (h v:List Nat):Nat→List Nat
 |0=>h
 |i+1=>(pL h v i).set i ((h.getD i 0+v.getD i 0)%18446744073709551616)
theorem vW {h v:List Nat} (h0:h.length=8∧W64 h):∀t,(pL h v t).length=8∧W64 (pL h v t)
 |0=>h0
 |t+1=>⟨by rw[pL,zA23,(vW h0 t).1],(vW h0 t).2.set _ (zA1 _ zDc)⟩
theorem Bc {h v:List Nat}:∀t j,t≤j→(pL h v t).getD j 0=h.getD j 0
 |0,_,_=>rfl
 |t+1,j,hj=>by
  have:=Bc (h:=h) (v:=v) t j zOm;rw[zA10]at this⊢;rw[pL,List.getElem?_set_ne zOm];exact this
def DG (h:List Nat) (bs:List UInt8):List Nat:=pL h (qq h (rQ bs) 80) 8
theorem Lm {h:List Nat} (h0:h.length=8∧W64 h) (bs:List UInt8):(DG h bs).length=8∧W64 (DG h bs):=vW h0 8
theorem PY {l:List Nat} (h:l.length=8):∃x0 x1 x2 x3 x4 x5 x6 x7,l=[x0,x1,x2,x3,x4,x5,x6,x7]:=by
 match l,h with
 | [a,b,c,d,e,f,g,i],_=>exact⟨a,b,c,d,e,f,g,i,rfl⟩
theorem Dp {P:Program} {a:Act} {w:World} {Q:Exit→Act→World→Prop} {c X:Code} (l:Nat) (J:Act→World→Prop) (μ:Act→World→Nat) (hf:findLabel c l=some (.seq .skip X))
 (pass:∀a w,J a w→X.wp P (Exit.jump l (fun a' w'=>J a' w'∧μ a' w'<μ a w) Q) a w)
 (first:(∀a w,J a w→X.wp P (Exit.jump l J Q) a w)→c.wp P (Exit.jump l J Q) a w):(Code.scope c).wp P Q a w:=by
 exact zd3
theorem Ng {a b c:World} {row:Option Nat} {g:Nat} (h:a.grownBy b row) (k:b.grownBy c (some g)) (hg:a.heap.size≤g):a.grownBy c row:=
 ⟨k.os.trans h.os,k.tape.trans h.tape,k.output.trans h.output,zA14 h.size k.size,fun i hi hn=>(k.block i (zA3 hi h.size) (by intro e;injection e with e;omega)).trans (h.block i hi hn)⟩
def bA (T:Array Value) (i:Nat):Value:=T.getD i undef
theorem YF (T:Array Value) (N:Nat) (h:T.size=N):T=((List.range N).map (bA T)).toArray:=by
 apply Array.ext
 ·simp[h]
 ·intro i h1 h2;simp[bA,Array.getD_eq_getD_getElem?,h1]
def tJb (g:Nat) (h:List Nat) (bs:List UInt8) (n lg:Nat) (L:List Nat) (w:World) (a':Act) (w':World):Prop:=
 ∃g2 g3 t:Nat,(t≤80∧g<g2∧g2<g3∧w.heap.size≤g2∧Arr w' g (fM h bs n lg)∧Arr w' g2 (wd L)∧Arr w' g3 (wd (qq h L t))∧w.grownBy w' (some g))∧
  a'.defers=[]∧a'.tmps.size=122∧bA a'.tmps 0=.pointer (some ⟨g,0,none⟩)∧bA a'.tmps 2=.pointer (some ⟨g2,0,none⟩)∧bA a'.tmps 3=.pointer (some ⟨g3,0,none⟩)∧bA a'.tmps 4=.int .i64 (t:Int)
theorem Pa {g:Nat} {h:List Nat} {bs:List UInt8} {n lg:Nat} (w:World) (k0:Arr w g (fM h bs n lg)) (h0:h.length=8∧W64 h) (hb:bs.length=128):
 Calls Tryz.prog 244 #[.pointer (some ⟨g,0,none⟩)] w fun e w'=>e=.returned (.tuple #[])∧Arr w' g (fM (DG h bs) bs n lg)∧w.grownBy w' (some g):=by
 have c1:=zH (KF w k0 h0.1 hb);have Q0:Hid (∀w',Arr w' g (fM h bs n lg)→w'.rangeAt g 0 (wd h)):=zH (fun w' hk=>hk.range (fun j hj=>TQ hj));have nA:=zH (oE bs 64);have hR:Hid (pL h (qq h (rQ bs) 80) 8=DG h bs):=zH rfl;obtain⟨R,hRe⟩:=zX (DG h bs);rw[hRe]at hR⊢;clear hRe;obtain⟨L,hL⟩:=zX (rQ bs);have nA:Hid (L.length=80∧W64 L):=zH (by rw[←hL];exact nA.out);rw[hL]at c1 hR;clear hL;have NE:Hid (∀w' t,t<80→Arr w' g (fM h bs n lg)→w'.cell? ⟨g,8+t,none⟩=some (.int .u64 ((nE.getD t 0:Nat):Int))):=zH (fun w' t ht hk=>hk.cell (aaW h0.1 ht));replace h0:=zH h0;replace hb:=zH hb;go_enter Tryz.func244,Tryz.ntmps244;refine Dp 0 (tJb g h bs n lg L w) (fun a' _=>80-(intOf (a'.tmps.getD 4 undef)).toNat) rfl ?_ ?_;rotate_left;intro Pk;go_wp2_with fail;refine c1.out.mono ?_;rintro e w1 ⟨rfl,mK⟩;have lt0:=k0.lt;have kg:=bO (row:=some g) mK;replace k0:=k0.below mK;have hws:=kg.size;clear c1 mK
 go_upto_region 1 with(refine aD rfl _ _ _ rfl _ (wd L) rfl rfl _ (Arr.new _ _ _) (by rw[bV,nA.out.1];kernel_rfl) (by rw[bV,nA.out.1];rfl) (vP _) (fun w2 k2 hg aB=>?_))
 have hb:=aq (ae w1 _) hg (zA0 _) zac;have Pf:=k0.lt;replace kg:=aN kg (bO hb);replace k0:=k0.below hb;obtain⟨g2,j9⟩:=zX w1.heap.size;rw[j9]at k2 Pf hws⊢;clear hb aB j9 hg;have og:=Q0.out w2 k0;go_upto_region 2 with(first|(refine aE rfl _ _ rfl _ _ rfl zKr _ og (by rw[bV,h0.out.1];kernel_rfl) ?_)|(refine aD rfl _ _ _ rfl _ (wd h) rfl rfl _ (Arr.new _ _ _) (by rw[bV,h0.out.1];kernel_rfl) (by rw[bV,h0.out.1];rfl) (vP _) (fun w3 k3 hg aB=>?_)))
 have hb:=aq (ae w2 _) hg (zA0 _) zac;have YK:=k2.lt;replace kg:=aN kg (bO hb);replace k0:=k0.below hb;replace k2:=k2.below hb;obtain⟨g3,kZ⟩:=zX w2.heap.size;rw[kZ]at k3 YK⊢;clear hb aB kZ hg og Q0 lt0;go_wp2_with fail;rename_i hK;go_step3;exact hK _ _ (Pk _ _ ⟨g2,g3,0,⟨by omega,by omega,YK,hws,k0,k2,k3,kg⟩,rfl,rfl,rfl,rfl,rfl,rfl⟩);rintro⟨T,D⟩ wr ⟨g2,g3,t,⟨ht,j9,kZ,rK,k0,k2,k3,kg⟩,hD,hT,e0,e2,e3,e4⟩
 have hTe:T=(bA T 0::bA T 1::bA T 2::bA T 3::bA T 4::bA T 5::bA T 6::bA T 7::bA T 8::bA T 9::bA T 10::bA T 11::bA T 12::bA T 13::bA T 14::bA T 15::bA T 16::bA T 17::bA T 18::bA T 19::bA T 20::bA T 21::bA T 22::bA T 23::bA T 24::bA T 25::bA T 26::bA T 27::bA T 28::bA T 29::bA T 30::bA T 31::bA T 32::bA T 33::bA T 34::bA T 35::bA T 36::bA T 37::bA T 38::bA T 39::bA T 40::bA T 41::bA T 42::bA T 43::bA T 44::bA T 45::bA T 46::bA T 47::bA T 48::bA T 49::bA T 50::bA T 51::bA T 52::bA T 53::bA T 54::bA T 55::bA T 56::bA T 57::bA T 58::bA T 59::bA T 60::bA T 61::bA T 62::bA T 63::bA T 64::bA T 65::bA T 66::bA T 67::bA T 68::bA T 69::bA T 70::bA T 71::bA T 72::bA T 73::bA T 74::bA T 75::bA T 76::bA T 77::bA T 78::bA T 79::bA T 80::bA T 81::bA T 82::bA T 83::bA T 84::bA T 85::bA T 86::bA T 87::bA T 88::bA T 89::bA T 90::bA T 91::bA T 92::bA T 93::bA T 94::bA T 95::bA T 96::bA T 97::bA T 98::bA T 99::bA T 100::bA T 101::bA T 102::bA T 103::bA T 104::bA T 105::bA T 106::bA T 107::bA T 108::bA T 109::bA T 110::bA T 111::bA T 112::bA T 113::bA T 114::bA T 115::bA T 116::bA T 117::bA T 118::bA T 119::bA T 120::bA T 121::[]).toArray:=(YF T 122 hT).trans zKr
 simp only at hD e0 e2 e3 e4;subst hD;rw[hTe];rw[e0,e2,e3,e4];clear e0 e2 e3 e4 hT hTe;have zu:(0:Int)≤(t:Int):=zOm
 by_cases htn:t<80
 ·have vE:(t:Int)<80:=zOm;have ok:=xn (wl:=L) h0.out t;have bI:wd (V8 (qq h L t) (nE.getD t 0) (L.getD t 0))=wd (qq h L (t+1)):=rfl;have ckk:=NE.out wr t htn k0;obtain⟨v,hv⟩:=zX (qq h L t);rw[hv]at ok bI k3;clear hv;obtain⟨x0,x1,x2,x3,x4,x5,x6,x7,rfl⟩:=PY ok.1;have x0l:x0<18446744073709551616:=ok.2.get 0;have x1l:x1<18446744073709551616:=ok.2.get 1;have x2l:x2<18446744073709551616:=ok.2.get 2;have x4l:x4<18446744073709551616:=ok.2.get 4;have x5l:x5<18446744073709551616:=ok.2.get 5;have x6l:x6<18446744073709551616:=ok.2.get 6;replace bI:wd (Ko x0 x1 x2 x3 x4 x5 x6 x7 (nE.getD t 0) (L.getD t 0))=wd (qq h L (t+1)):=bI;have cww:=i9 (l:=L) (j:=t) (by rw[nA.out.1];exact htn);obtain⟨kk,uA⟩:=zX (nE.getD t 0);obtain⟨ww,X8⟩:=zX (L.getD t 0);rw[uA]at ckk bI;rw[X8]at cww bI;have ckk2:=k0.frozen (8+t);replace cww:=zH cww
  have ZB:Hid (∀w',Arr w' g (fM h bs n lg)→w'.cell? ⟨g,8+t,none⟩=some (.int .u64 (kk:Int))):=zH (fun w' k=>by rw[NE.out w' t htn k,uA]);clear uA X8 ok ckk ckk2;unfold Ko at bI;obtain⟨p1,p1e⟩:=zX (rL x4 50);have p1l:p1<18446744073709551616:=(by rw[←p1e];exact iY x4l _);obtain⟨p2,p2e⟩:=zX (rL x4 46);have p2l:p2<18446744073709551616:=(by rw[←p2e];exact iY x4l _);obtain⟨p3,p3e⟩:=zX (rL x4 23);have p3l:p3<18446744073709551616:=(by rw[←p3e];exact iY x4l _);obtain⟨p4,p4e⟩:=zX (p1 ^^^p2);have p4l:p4<18446744073709551616:=(by rw[←p4e];exact nf p1l p2l);have p4f:bits .xor .u64 (p1:Int) (p2:Int)=(p4:Int):=(by rw[jY p1l p2l,p4e]);obtain⟨pz,pze⟩:=zX (DT x4);have pzl:pz<18446744073709551616:=(by rw[←pze];exact WI x4l);have p5f:bits .xor .u64 (p4:Int) (p3:Int)=(pz:Int):=(by rw[jY p4l p3l,←pze,DT,p1e,p2e,p3e,p4e]);rw[pze]at bI;have p1c:=zH (fun w=>SY x4l p1e w);have p2c:=zH (fun w=>SZ x4l p2e w)
  have p3c:=zH (fun w=>S4 x4l p3e w);clear p1e p2e p3e p4e pze p1l p2l p3l p4l;obtain⟨q1,q1e⟩:=zX (rL x0 36);have q1l:q1<18446744073709551616:=(by rw[←q1e];exact iY x0l _);obtain⟨q2,q2e⟩:=zX (rL x0 30);have q2l:q2<18446744073709551616:=(by rw[←q2e];exact iY x0l _);obtain⟨q3,q3e⟩:=zX (rL x0 25);have q3l:q3<18446744073709551616:=(by rw[←q3e];exact iY x0l _);obtain⟨q4,q4e⟩:=zX (q1 ^^^q2);have q4l:q4<18446744073709551616:=(by rw[←q4e];exact nf q1l q2l);have q4f:bits .xor .u64 (q1:Int) (q2:Int)=(q4:Int):=(by rw[jY q1l q2l,q4e]);obtain⟨qz,qze⟩:=zX (Ix x0);have qzl:qz<18446744073709551616:=(by rw[←qze];exact WE x0l);have q5f:bits .xor .u64 (q4:Int) (q3:Int)=(qz:Int):=(by rw[jY q4l q3l,←qze,Ix,q1e,q2e,q3e,q4e]);rw[qze]at bI;have q1c:=zH (fun w=>S1 x0l q1e w);have q2c:=zH (fun w=>S2 x0l q2e w);have q3c:=zH (fun w=>S3 x0l q3e w);clear q1e q2e q3e q4e qze q1l q2l q3l q4l
  obtain⟨c1,c1e⟩:=zX (x4 &&&x5);have c1f:bits .and .u64 (x4:Int) (x5:Int)=(c1:Int):=(by rw[vZ x4l x5l,c1e]);have c1l:c1<18446744073709551616:=(by rw[←c1e];exact Bh x4l);rw[c1e]at bI;clear c1e;obtain⟨x4n,x4ne⟩:=zX (18446744073709551615 ^^^x4);have x4nl:x4n<18446744073709551616:=(by rw[←x4ne];exact nf zDc x4l);have x4nf:bits .xor .u64 (if IntKind.u64.signed=true then -1 else IntKind.u64.max) (x4:Int)=(x4n:Int):=by
   show bits .xor .u64 ((18446744073709551615:Nat):Int) (x4:Int)=_
   rw[jY zDc x4l,x4ne]
  rw[x4ne]at bI;clear x4ne;obtain⟨c2,c2e⟩:=zX (x4n &&&x6);have c2f:bits .and .u64 (x4n:Int) (x6:Int)=(c2:Int):=(by rw[vZ x4nl x6l,c2e]);have c2l:c2<18446744073709551616:=(by rw[←c2e];exact Bh x4nl);rw[c2e]at bI;clear c2e;obtain⟨c3,c3e⟩:=zX (c1 ^^^c2);have c3f:bits .xor .u64 (c1:Int) (c2:Int)=(c3:Int):=(by rw[jY c1l c2l,c3e]);have c3l:c3<18446744073709551616:=(by rw[←c3e];exact nf c1l c2l);rw[c3e]at bI;clear c3e;obtain⟨j1,j1e⟩:=zX (x0 &&&x1);have j1f:bits .and .u64 (x0:Int) (x1:Int)=(j1:Int):=(by rw[vZ x0l x1l,j1e]);have j1l:j1<18446744073709551616:=(by rw[←j1e];exact Bh x0l);rw[j1e]at bI;clear j1e;obtain⟨j2,j2e⟩:=zX (x0 &&&x2);have j2f:bits .and .u64 (x0:Int) (x2:Int)=(j2:Int):=(by rw[vZ x0l x2l,j2e]);have j2l:j2<18446744073709551616:=(by rw[←j2e];exact Bh x0l);rw[j2e]at bI;clear j2e;obtain⟨j3,j3e⟩:=zX (j1 ^^^j2);have j3f:bits .xor .u64 (j1:Int) (j2:Int)=(j3:Int):=(by rw[jY j1l j2l,j3e])
  have j3l:j3<18446744073709551616:=(by rw[←j3e];exact nf j1l j2l);rw[j3e]at bI;clear j3e;obtain⟨j4,j4e⟩:=zX (x1 &&&x2);have j4f:bits .and .u64 (x1:Int) (x2:Int)=(j4:Int):=(by rw[vZ x1l x2l,j4e]);have j4l:j4<18446744073709551616:=(by rw[←j4e];exact Bh x1l);rw[j4e]at bI;clear j4e;obtain⟨j5,j5e⟩:=zX (j3 ^^^j4);have j5f:bits .xor .u64 (j3:Int) (j4:Int)=(j5:Int):=(by rw[jY j3l j4l,j5e]);have j5l:j5<18446744073709551616:=(by rw[←j5e];exact nf j3l j4l);rw[j5e]at bI;clear j5e;obtain⟨s1,s1e⟩:=zX ((x7+pz)%18446744073709551616);have s1f:IntKind.u64.wrap ((x7:Int)+(pz:Int))=(s1:Int):=(by rw[show((x7:Int)+(pz:Int))=((x7+pz:Nat):Int) by omega,i5,s1e]);rw[s1e]at bI;clear s1e;obtain⟨s2,s2e⟩:=zX ((s1+c3)%18446744073709551616);have s2f:IntKind.u64.wrap ((s1:Int)+(c3:Int))=(s2:Int):=(by rw[show((s1:Int)+(c3:Int))=((s1+c3:Nat):Int) by omega,i5,s2e]);rw[s2e]at bI;clear s2e
  obtain⟨s3,s3e⟩:=zX ((s2+kk)%18446744073709551616);have s3f:IntKind.u64.wrap ((s2:Int)+(kk:Int))=(s3:Int):=(by rw[show((s2:Int)+(kk:Int))=((s2+kk:Nat):Int) by omega,i5,s3e]);rw[s3e]at bI;clear s3e;obtain⟨sx,sxe⟩:=zX ((s3+ww)%18446744073709551616);have sxf:IntKind.u64.wrap ((s3:Int)+(ww:Int))=(sx:Int):=(by rw[show((s3:Int)+(ww:Int))=((s3+ww:Nat):Int) by omega,i5,sxe]);rw[sxe]at bI;clear sxe;obtain⟨sy,sye⟩:=zX ((qz+j5)%18446744073709551616);have syf:IntKind.u64.wrap ((qz:Int)+(j5:Int))=(sy:Int):=(by rw[show((qz:Int)+(j5:Int))=((qz+j5:Nat):Int) by omega,i5,sye]);rw[sye]at bI;clear sye;obtain⟨sa,sae⟩:=zX ((sx+sy)%18446744073709551616);have saf:IntKind.u64.wrap ((sx:Int)+(sy:Int))=(sa:Int):=(by rw[show((sx:Int)+(sy:Int))=((sx+sy:Nat):Int) by omega,i5,sae]);rw[sae]at bI;clear sae;obtain⟨se,see⟩:=zX ((x3+sx)%18446744073709551616)
  have sef:IntKind.u64.wrap ((x3:Int)+(sx:Int))=(se:Int):=(by rw[show((x3:Int)+(sx:Int))=((x3+sx:Nat):Int) by omega,i5,see]);rw[see]at bI;clear see;have ep:Hid (wd [sa,x0,x1,x2,se,x4,x5,x6]=wd (qq h L (t+1))):=zH bI;clear bI x0l x1l x2l x4l x5l x6l;have d0:Hid (∀w',Arr w' g3 (wd [x0,x1,x2,x3,x4,x5,x6,x7])→w'.cell? ⟨g3,0,none⟩=some (.int .u64 (x0:Int))∧w'.cell? ⟨g3,1,none⟩=some (.int .u64 (x1:Int))∧w'.cell? ⟨g3,2,none⟩=some (.int .u64 (x2:Int))∧w'.cell? ⟨g3,3,none⟩=some (.int .u64 (x3:Int))∧w'.cell? ⟨g3,4,none⟩=some (.int .u64 (x4:Int))∧w'.cell? ⟨g3,5,none⟩=some (.int .u64 (x5:Int))∧w'.cell? ⟨g3,6,none⟩=some (.int .u64 (x6:Int))∧w'.cell? ⟨g3,7,none⟩=some (.int .u64 (x7:Int))):=
   zH (fun w' k=>⟨k.cell (j:=0) rfl,k.cell (j:=1) rfl,k.cell (j:=2) rfl,k.cell (j:=3) rfl,k.cell (j:=4) rfl,k.cell (j:=5) rfl,k.cell (j:=6) rfl,k.cell (j:=7) rfl⟩)
  have kgs:=kg.size;go_upto_region 4 with fail
  obtain⟨wq,rfl⟩:∃wq:World,wq=wr:=⟨_,rfl⟩;refine cH 9999 6 fun aP=>?_;refine dz ?_ 0 63 zaD [0,1,2,3,4,5] (fun w' hB=>by obtain⟨f0,-,-,-,f4,-,-,-⟩:=d0.out w' (k3.below hB);exact zRd) ?_;refine ap zKr ?_;obtain⟨k0,k2,k3⟩:=dZ k0 k2 k3 aP;replace kg:=aN kg (bO aP);clear aP;go_wp2_with fail;refine zQ (p1c.out _) fun aeL hb=>?_;obtain⟨k0,k2,k3⟩:=dZ k0 k2 k3 hb;replace kg:=aN kg (bO hb);clear hb;go_wp2_with fail;refine zQ (p2c.out _) fun aeM hb=>?_;obtain⟨k0,k2,k3⟩:=dZ k0 k2 k3 hb;replace kg:=aN kg (bO hb);clear hb;go_wp2_with fail;refine zQ (p3c.out _) fun aeN hb=>?_;obtain⟨k0,k2,k3⟩:=dZ k0 k2 k3 hb;replace kg:=aN kg (bO hb);clear hb;go_wp2_with fail;refine zQ (q1c.out _) fun aeQ hb=>?_;obtain⟨k0,k2,k3⟩:=dZ k0 k2 k3 hb;replace kg:=aN kg (bO hb);clear hb;go_wp2_with fail;refine zQ (q2c.out _) fun aeR hb=>?_;obtain⟨k0,k2,k3⟩:=dZ k0 k2 k3 hb;replace kg:=aN kg (bO hb);clear hb
  go_wp2_with fail;refine zQ (q3c.out _) fun Uj hb=>?_;obtain⟨k0,k2,k3⟩:=dZ k0 k2 k3 hb;replace kg:=aN kg (bO hb);clear hb;clear p1c p2c p3c q1c q2c q3c;go_upto_region 7 with fail
  obtain⟨wq,lq⟩:∃wq:World,Uj=wq:=⟨_,rfl⟩;rw[lq]at k0 k2 k3 kg⊢;clear lq;refine cH 9999 27 fun bn=>?_;refine dz ?_ 0 134217727 za0 [0,1,2,3,4,5,6,7,8,9,10,11,12,13,14,15,16,17,18,19,20,21,22,23,24,25,26] (fun w' hB=>by obtain⟨-,-,-,-,-,f5,f6,f7⟩:=d0.out w' (k3.below hB);have fk:=ZB.out w' (k0.below hB);have fw:=(k2.below hB).cell cww.out;exact zRd) ?_;refine ap zKr ?_;obtain⟨k0,k2,k3⟩:=dZ k0 k2 k3 bn;replace kg:=aN kg (bO bn);clear bn;obtain⟨w8,Z7⟩:∃w8:World,wq.drew=w8:=⟨_,rfl⟩;rw[Z7]at k0 k2 k3 kg⊢;clear Z7;obtain⟨f0,f1,f2,f3,f4,f5,f6,f7⟩:=d0.out _ k3;clear p4f p5f q4f q5f c1f c2f c3f x4nf s1f s2f s3f sxf c1l c2l c3l x4nl j1l j2l j3l j4l j5l pzl qzl kgs zu vE
  obtain⟨z0,z1,z2,z3,z4,z5,z6,z7⟩:w8.frozen? ⟨g3,0,none⟩=false∧w8.frozen? ⟨g3,1,none⟩=false∧w8.frozen? ⟨g3,2,none⟩=false∧w8.frozen? ⟨g3,3,none⟩=false∧w8.frozen? ⟨g3,4,none⟩=false∧w8.frozen? ⟨g3,5,none⟩=false∧w8.frozen? ⟨g3,6,none⟩=false∧w8.frozen? ⟨g3,7,none⟩=false:=⟨k3.frozen _,k3.frozen _,k3.frozen _,k3.frozen _,k3.frozen _,k3.frozen _,k3.frozen _,k3.frozen _⟩;go_wp2_with fail;go_step3;clear f0 f1 f2 f3 f4 f5 f6 f7 z0 z1 z2 z3 z4 z5 z6 z7;replace k3:=(((((((k3.set 0 (.int .u64 (sa:Int))).set 1 (.int .u64 (x0:Int))).set 2 (.int .u64 (x1:Int))).set 3 (.int .u64 (x2:Int))).set 4 (.int .u64 (se:Int))).set 5 (.int .u64 (x4:Int))).set 6 (.int .u64 (x5:Int))).set 7 (.int .u64 (x6:Int))
  have hg:=aN (aN (aN (aN (aN (aN (aN (bY w8 g3 0 (.int .u64 (sa:Int))) (bY _ g3 1 (.int .u64 (x0:Int)))) (bY _ g3 2 (.int .u64 (x1:Int)))) (bY _ g3 3 (.int .u64 (x2:Int)))) (bY _ g3 4 (.int .u64 (se:Int)))) (bY _ g3 5 (.int .u64 (x4:Int)))) (bY _ g3 6 (.int .u64 (x5:Int)))) (bY _ g3 7 (.int .u64 (x6:Int)));replace k0:=k0.kept hg zOm;replace k2:=k2.kept hg zOm;replace kg:=Ng kg hg zOm;exact zee
 ·have dj:decide ((t:Int)<80)=false:=decide_eq_false zOm;have jM:Hid (t=80):=zH zOm;rw[jM.out]at k3;have IV:=zH (xn (wl:=L) h0.out 80);obtain⟨v,hv⟩:=zX (qq h L 80);rw[hv]at k3 IV;have hR2:Hid (pL h v 8=R):=zH (by rw[←hv];exact hR.out);clear hv hR NE jM zu ht htn k2;obtain⟨ic,sG⟩:∃ic:Int,(t:Int)=ic:=⟨_,rfl⟩;rw[sG]at dj⊢;clear sG;go_wp2_with fail;clear dj;go_loopw[105] (fun iv wr=>∃i:Nat,i≤8∧iv=.int .i64 i∧Arr wr g (fM (pL h v i) bs n lg)∧Arr wr g3 (wd v)∧w.grownBy wr (some g)) (fun iv _=>8-(intOf iv).toNat)
  case atStart=>exact⟨0,by omega,rfl,k0,k3,kg⟩
  case round=>
  clear k0 k3 kg;obtain⟨i,hi,rfl,k0,k3,kg⟩:=hrel;have mA:(0:Int)≤(i:Int):=zOm
  by_cases iS:i<8
  ·have ub:(i:Int)<8:=zOm;have ok:=vW (v:=v) h0.out i;have cx:=zH (MI (bs:=bs) (n:=n) (lg:=lg) ok.1 iS);have aL:=zH (KX (bs:=bs) (n:=n) (lg:=lg) (j:=i) (x:=(h.getD i 0+v.getD i 0)%18446744073709551616) ok.1 iS);have aI:=zH (TR (n:=n) (lg:=lg) ok.1 hb.out);have had:=Bc (h:=h) (v:=v) i i (zA0 _);have ep:Hid ((pL h v i).set i ((h.getD i 0+v.getD i 0)%18446744073709551616)=pL h v (i+1)):=zH rfl;have cy:=zH (i9 (l:=v) (j:=i) (by rw[IV.out.1];exact iS));rw[had]at cx;obtain⟨l,hl⟩:=zX (pL h v i);rw[hl]at k0 cx aL ep aI;obtain⟨x,hx⟩:=zX (h.getD i 0);obtain⟨y,hy⟩:=zX (v.getD i 0);rw[hx]at cx;rw[hy]at cy;rw[hx,hy]at aL ep;obtain⟨z,hz⟩:=zX ((x+y)%18446744073709551616);have fz:IntKind.u64.wrap ((x:Int)+(y:Int))=(z:Int):=(by rw[show((x:Int)+(y:Int))=((x+y:Nat):Int) by omega,i5,hz]);rw[hz]at aL ep;clear ok had hl hx hy hz;go_upto_region 14 with fail
   obtain⟨wq,rfl⟩:∃wq:World,wq=wr:=⟨_,rfl⟩;refine cH 13 14 fun bB=>?_;refine eZ ?_ 1 8191 zaI [0,1,2,3,4,5,6,7,8,9,10,11,12] (fun w' hB=>by have f1:=(k0.below hB).cell cx.out;have f2:=(k3.below hB).cell cy.out;exact zRd) ?_;refine bf 16383 rfl zDk (fun K hK=>?_);replace k0:=k0.below bB;replace k3:=k3.below bB;replace kg:=aN kg (bO bB);clear bB;refine br rfl _ _ _ rfl g i (.int .u64 (z:Int)) rfl rfl _ k0 zKr (by rw[aI.out];omega) rfl (fun w5 k0 hg aB=>?_);rw[aL.out,ep.out]at k0;replace k3:=k3.kept hg zOm;replace kg:=aN kg hg;refine hK (fun _=>True) 9999 _ _ ?_;clear hK K;try simp only[Act.put]
   try simp only[zSa,zSz,zSs]
   exact zeU
  ·have dj:decide ((i:Int)<8)=false:=decide_eq_false zOm;have jM:Hid (i=8):=zH zOm;rw[jM.out,hR2.out]at k0;go_wp2_with fail;simp only[Exit.jump];go_end0;exact⟨rfl,k0,kg⟩
end Go.Proofs.YtgfkgolafkdjfaaGreatDoor
