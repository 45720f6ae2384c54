/- ModelWrong: part 33 of its proof: lemmas and contracts, each with its conditions in its own statement; the last part holds the law itself. -/
import Derived.Test.YtgfkgolafkdjfaaGreatDoorJv32

set_option maxHeartbeats 8000000
set_option maxRecDepth 100000
namespace Go.Proofs.YtgfkgolafkdjfaaGreatDoor
open Go.RowKit
theorem A8 {B:Int} (hB:0≤B):∀(xs:List Int),Bd B xs→ -(B*(2*65536^xs.length-1))≤cz xs∧cz xs≤B*(2*65536^xs.length-1)
 | [],_=>by simp[cz];omega
 |x::xs,h=>by
  have ih:=A8 hB xs (fun z hz=>h z (List.mem_cons_of_mem _ hz));have hx:=h x zac;rw[cz,List.length_cons,Int.pow_succ];have e1:B*(2*65536^xs.length-1)=2*(B*65536^xs.length)-B:=(by rw[Int.mul_sub,Int.mul_left_comm,Int.mul_one]);have e2:B*(2*(65536^xs.length*65536)-1)=131072*(B*65536^xs.length)-B:=by
   rw[Int.mul_sub,Int.mul_one,←Int.mul_assoc 2,←Int.mul_assoc,Int.mul_left_comm B 2];omega
  rw[e1]at ih;rw[e2];generalize B*65536^xs.length=m at*;omega
theorem P3 {V:Int} (h0: -(2^62*65536^16)≤V) (h1:V<2^62*65536^16):0≤fv (fv V)∧fv (fv V)<65536^16:=by
 have hb:=LA (K:=2^62) (V:=V) zOm zOm;generalize fv V=U at*;have h2:=Int.mul_ediv_add_emod U (65536^16);have h3:=Int.emod_nonneg U (b:=65536^16) zDc;have h4:=Int.emod_lt_of_pos U (b:=65536^16) zDc;unfold fv;exact zex
theorem O4 (N D P R:Int) (i:Nat) (h:R+65536*(N/65536^(i+1)-P/65536^(i+1))=D/65536^i):
 (N/65536^(i+1)%65536-P/65536^(i+1)%65536+R/65536)+65536*(N/65536^(i+1+1)-P/65536^(i+1+1))=D/65536^(i+1)∧R%65536=D/65536^i%65536:=by
 have e1:∀X:Int,X/65536^(i+1+1)=X/65536^(i+1)/65536:=fun X=>by rw[Int.pow_succ _ (i+1),←Int.ediv_ediv_of_nonneg (Int.pow_nonneg zDc)]
 have e2:D/65536^(i+1)=D/65536^i/65536:=(by rw[Int.pow_succ,←Int.ediv_ediv_of_nonneg (Int.pow_nonneg zDc)]);rw[e1,e1,e2,←h];exact zex
theorem aax:(pN:Int)%65536=65517:=by decide
theorem VQ:∀i,i<15→1≤i→(pN:Int)/65536^i%65536=65535:=by decide
theorem aay (i:Nat) (h1:1≤i) (h2:i<15):(pN:Int)/65536^i%65536=65535:=VQ i h2 h1
theorem VO:(pN:Int)/65536^15%65536=32767:=by decide
theorem VP:(pN:Int)/65536^16=0:=by decide
theorem si (i:Nat) (D R:Int) (t:List Int) (h:R%65536=D/65536^i%65536):dR i D++R%65536::t=dR (i+1) D++t:=by
 rw[mc,h,zA16];rfl
theorem CY (n:Int) (w:World):
 CB 108 #[.int .i64 n] w (.agg (el (n::List.replicate 15 0)).toArray):=by
 go_enter Tryz.func108,Tryz.ntmps108;go_upto_region 1 with fail
 refine aH (fun W aB k1 kb=>?_);have k1:Arr W w.heap.size (el (List.replicate 16 0)):=k1;have lt1:=k1.lt;clear aB;go_upto_region 2 with fail
 refine aH (fun w9 ie k2 fO=>?_);have k1:=k1.below fO;have kb:=az kb fO;generalize W.heap.size=g at k2 lt1⊢;have k2:Arr w9 g (el (0::List.replicate 15 0)):=k2;clear ie fO;have cZ:=k2.cell (j:=0) rfl;have oZ:=k2.frozen 0;go_upto_region 3 with fail
 refine ck k2 (fun mU k2 ad ak=>?_);have k1:=ad _ _ zOm k1;have kb:=ak _ _ zOm kb;clear ad ak;rw[it]at k2;have k2:Arr mU g (el (n::List.replicate 15 0)):=k2;clear cZ oZ;go_wp2_with(first|refine aR ?_|refine aU ?_);exact bodyPost_ret (aj Tryz.results108 _ _ _ rfl zKr _ zaE zLn) rfl ⟨rfl,ah kb zOm _⟩
theorem I4 {U:Int} {K:Int} (h0: -(65536^16*K)≤U) (h1:U<65536^16*K) (hK:K≤4398046511104):Bd 288230376151711744 (dQ U):=by
 intro x hx;have:=Kq h0 h1 x hx;exact zex
theorem Bd.mono {A B:Int} {xs:List Int} (h:Bd A xs) (hAB:A≤B):Bd B xs:=fun x hx=>by have:=h x hx;constructor<;>omega
theorem TS {N:Nat} {k:Nat} (hk:k<3) (h:N<pN+pN*(2-k)) (D:Int) (hD:D=(N:Int)-pN):0≤D→∃M:Nat,D=(M:Int)∧M<pN+pN*(2-(k+1))∧M%pN=N%pN∧M<65536^16:=by
 intro h0;refine⟨N-pN,by omega,?_,?_,?_⟩
 ·obtain⟨d,hd⟩:∃d,2-k=d:=⟨_,rfl⟩;rw[hd]at h;rw[show 2-(k+1)=d-1 by omega];rcases d with _|d
  ·simp at h;omega
  ·rw[Nat.mul_add]at h;simp;omega
 ·rw[Nat.mod_eq_sub_mod (a:=N) zOm]
 ·have:pN+pN*(2-k)≤pN+pN*2:=Nat.add_le_add_left (Nat.mul_le_mul_left _ zOm) _;have h3:3*pN<65536^16+pN:=zDc;omega
theorem S6 (xs:List Int) (hx:xs.length=16) (bx:Bd 1099511627776 xs) (w:World):
 CB 104 #[.agg (el xs).toArray] w (.agg (ay ((cz xs%pN).toNat)).toArray):=by
 have X6:=A8 zDc xs bx;rw[hx]at X6;obtain⟨V,hV⟩:=zX (cz xs);rw[hV]at X6⊢;have Z3: -(65536^16*2199023255552)≤V:=zOm;have Z4:V<65536^16*2199023255552:=zOm;have b0:=I4 Z3 Z4 zDc;have XM:=LA Z3 Z4;have Du:=P3 (V:=V) zOm zOm;have b1:Bd 288230376151711744 (dQ (fv V)):=I4 (K:=2) zOm zOm zDc;have b2:Bd 288230376151711744 (dQ (fv (fv V))):=I4 (K:=2) zOm zOm zDc;obtain⟨N,hN⟩:∃N:Nat,fv (fv V)=(N:Int):=⟨(fv (fv V)).toNat,by omega⟩;have hNl:N<65536^16:=by
  have h2:((65536^16:Nat):Int)=65536^16:=zDc;omega
 have hNm:(N:Int)%pN=V%pN:=(by rw[←hN,Fu,Fu]);have c1:=ko xs hx (bx.mono zDc);have c2:=ko (dQ V) (rk V) (b0.mono zDc);have c3:=ko (dQ (fv V)) (rk _) (b1.mono zDc);have c4:=ko (dQ (fv (fv V))) (rk _) (b2.mono zDc);rw[hV]at c1;rw[jf]at c2 c3 c4;rw[P2 Du.1 Du.2]at c4;rw[hN]at c3 c4;rw[EE (V:=(N:Int)) zOm (by
  have h2:((65536^16:Nat):Int)=65536^16:=zDc;omega)]at c3 c4
 have lO:(V%pN).toNat=N%pN:=(by rw[←hNm];omega);rw[lO];have hNk:N<pN+pN*(2-0):=by
  have:65536^16<pN+pN*2:=zDc;omega
 have LZ:(el xs).length=16:=(by rw[eI,hx]);have nt:(el (dQ V)).length=16:=Fp V;have pI:(el (dQ (fv V))).length=16:=Fp _;have Ho:(el (dR 16 (N:Int))).length=16:=(by rw[eI,dt]);replace c1:=zH c1;replace c2:=zH c2;replace c3:=zH c3;replace c4:=zH c4;replace hNl:=zH hNl;replace hNk:=zH hNk;replace LZ:=zH LZ;replace Ho:=zH Ho;clear X6 Z3 Z4 b0 XM Du b1 b2 hN hNm lO hx bx hV nt pI;go_enter Tryz.func104,Tryz.ntmps104;go_upto_region 1 with fail
 refine be (fun W aB k1 k2 kb=>?_);have k2:Arr W (w.heap.size+1) (ay 0):=k2;clear aB;go_wp2_with(refine ab rfl _ _ rfl _ rfl zKr _ k1 (by rw[LZ.out];kernel_rfl) ?_);refine zQ (c1.out _) fun i8 dA=>?_;obtain⟨k1,k2⟩:=fZ k1 k2 dA;have kb:=az kb dA;clear dA;go_wp2_with fail;refine zQ (c2.out _) fun jF dc=>?_;obtain⟨k1,k2⟩:=fZ k1 k2 dc;have kb:=az kb dc;clear dc;go_wp2_with fail;refine zQ (c3.out _) fun pJ fG=>?_;obtain⟨k1,k2⟩:=fZ k1 k2 fG;have kb:=az kb fG;clear fG;go_wp2_with fail;refine zQ (c4.out _) fun m9 gH=>?_;obtain⟨k1,k2⟩:=fZ k1 k2 gH;have kb:=az kb gH;clear gH;go_upto_region 2 with(refine aQ rfl _ _ _ rfl _ _ rfl rfl _ k1 (by rw[Ho.out];kernel_rfl) (by rw[LZ.out,Ho.out]) (qG _) ?_)
 refine ci k1 (fun qD k1 ad ak=>?_);have k2:=ad _ _ zOm k2;have kb:=ak _ _ zOm kb;clear ad ak;clear c1 c2 c3 c4;go_wp2_with fail;go_loopw[3] (fun kv wr=>∃k M:Nat,k≤3∧kv=.int .i64 k∧M%pN=N%pN∧M<pN+pN*(2-k)∧M<65536^16∧Arr wr w.heap.size (el (dR 16 M))∧Arr wr (w.heap.size+1) (ay 0)∧Below w.heap.size w wr) (fun kv _=>3-(intOf kv).toNat)
 case atStart=>exact⟨0,N,by omega,rfl,rfl,hNk.out,hNl.out,k1,k2,kb⟩
 case round=>
  clear k1 k2 kb hNk hNl LZ Ho;obtain⟨k,M,hk,rfl,hM,hMk,hMl,k1,k2,kb⟩:=hrel;replace hM:=zH hM;replace hMk:=zH hMk;replace hMl:=zH hMl
  by_cases bK:k<3
  ·obtain⟨D,hD⟩:∃D,(M:Int)-pN=D:=⟨_,rfl⟩;replace hD:=zH hD;have lt1:=k1.lt;have lt2:=k2.lt;go_upto_region 6 with fail
   refine aH (fun w9 ie k4 fO=>?_);obtain⟨k1,k2⟩:=fZ k1 k2 fO;have kb:=az kb fO;generalize wr.heap.size=g at k4 lt1 lt2⊢;have k4:Arr w9 g (el (0::List.replicate 15 0)):=k4;clear ie fO;have bo:=k1.cell (dU (mb 16 M 0 zDc));rw[Int.pow_zero,Int.ediv_one]at bo;have acW:=k4.cell (j:=0) rfl;have bT:=k4.frozen 0;have qU:0≤(M:Int)%65536:=Int.emod_nonneg _ zDc;have Po:(M:Int)%65536<65536:=Int.emod_lt_of_pos _ zDc;go_upto_region 7 with fail
   refine ck k4 (fun uG k4 ad ak=>?_);obtain⟨k1,k2⟩:=rR ad k1 k2;have kb:=ak _ _ zOm kb;clear ad ak;rw[it]at k4;clear bo acW bT;have hR0:((M:Int)%65536-65517)+65536*((M:Int)/65536^(0+1)-pN/65536^(0+1))=D/65536^0:=by
    have h0:=aax;rw[Int.pow_zero,Int.ediv_one,←hD.out];simp only[Nat.zero_add,Int.pow_one];omega
   replace hR0:=zH hR0;go_wp2_with fail;go_loopw[5] (fun kv wr=>∃(j:Nat) (R:Int),j≤14∧kv=.int .i64 ((j+1:Nat):Int)∧R+65536*((M:Int)/65536^(j+1)-pN/65536^(j+1))=D/65536^j∧ -65536≤R∧R≤65535∧Arr wr w.heap.size (el (dR 16 M))∧Arr wr (w.heap.size+1) (ay 0)∧Arr wr g (el (dR j D++R::0::List.replicate (14-j) 0))∧Below w.heap.size w wr) (fun kv _=>16-(intOf kv).toNat)
   case atStart=>exact⟨0,_,by omega,rfl,hR0.out,by omega,by omega,k1,k2,k4,kb⟩
   case round=>
    clear k1 k2 k4 kb hR0 qU Po;obtain⟨j,R,hj,rfl,hR,hR1,hR2,k1,k2,k4,kb⟩:=hrel;obtain⟨hS,L2⟩:=O4 _ _ _ _ _ hR;obtain⟨x,hx⟩:=zX ((M:Int)/65536^(j+1)%65536);rw[hx]at hS;have qU:0≤x:=hx▸Int.emod_nonneg _ zDc;have Po:x<65536:=hx▸Int.emod_lt_of_pos _ zDc;obtain⟨b,hb⟩:=zX (bits BinOp.and IntKind.i64 (R/65536) 1);have jW:b= -(R/65536):=(by rw[←hb,EZ];omega);have ga:=dU (mb 16 M (j+1) zOm);rw[hx]at ga;have gR:=dU (mC (dt j D) R (0::List.replicate (14-j) 0));have gz:=dU (show(dR j D++R::0::List.replicate (14-j) 0)[j+1]? =some 0 by
     have:=mC (a:=dR j D++[R]) (i:=j+1) (by rw[zA5,dt];rfl) 0 (List.replicate (14-j) (0:Int));rw[zA16]at this;exact this)
    have aL:∀y:Int,(dR j D++R::0::List.replicate (14-j) 0).set (j+1) y=dR j D++R::y::List.replicate (14-j) 0:=by
     intro y;have:=pa (a:=dR j D++[R]) (i:=j+1) (by rw[zA5,dt];rfl) 0 y (List.replicate (14-j) (0:Int));rw[zA16,zA16]at this;exact this
    have hR65: -1≤R/65536∧R/65536≤0:=zOm;have iG:0≤b:=zOm;have mK:b≤1:=zOm;have iwb:IntKind.i64.wrap (R/65536)=R/65536:=i64_in zOm;replace hS:=zH hS;replace L2:=zH L2;replace hx:=zH hx;replace aL:=zH aL;replace ga:=zH ga;replace gR:=zH gR;replace gz:=zH gz;replace hR:=zH hR
    by_cases hlt14:j<14
    ·have iw1:IntKind.i64.wrap (x-65535)=x-65535:=i64_in zOm;have iw2:IntKind.i64.wrap (x-65535-b)=x-65535-b:=i64_in zOm;have iw5:(0:Int)≤(j:Int)+1:=zOm;have iw6:(j:Int)+1<16:=zOm;have iw7:(j:Int)<16:=zOm;have iw4:IntKind.i64.wrap (j:Int)=(j:Int):=i64_in zOm;have iw3:IntKind.i64.wrap ((j:Int)+1-1)=(j:Int):=(by rw[show(j:Int)+1-1=j by omega];exact i64_in zOm);replace hb:=zH hb;replace jW:=zH jW;go_upto_region 10 with(first|refine aR ?_|refine aU ?_)
     refine cH 13 14 fun kV=>?_;refine dz ?_ 1 8191 (by exact kV) [0,1,2,3,4,5,6,7,8,9,10,11,12] (fun w' hB=>by have e0:=k1.below hB;have e1:=k2.below hB;have e2:=k4.below hB;have c1:=(k1.below hB).cell ga.out;have c2:=(k4.below hB).cell gR.out;have c3:=hb.out;exact zRd) ?_;obtain⟨k1,k2,k4⟩:=dZ k1 k2 k4 kV;have kb:=az kb kV;have bo:=k4.cell gz.out;have bT:=fun j=>k4.frozen j;refine bf 16383 rfl zDk (fun K hK=>?_);go_simp;refine hK (fun _=>True) 9999 _ _ ?_;clear hK K;try simp only[Act.put]
     try simp only[zSa,zSz,zSs]
     refine ap zKr ?_
     first|refine i6 k4 (fun xF k4 ad ak=>?_)|refine jC k4 (fun xF k4 ad ak=>?_)
     obtain⟨k1,k2⟩:=rR ad k1 k2;have kb:=ak _ _ zOm kb;clear ad ak;clear bo bT;obtain⟨y,hy⟩:=zX (x-65535-b);rw[hy,it,aL.out]at k4;rw[hy];have hyb: -65536≤y∧y≤65535:=(by have:=jW.out;omega);obtain⟨t,ht⟩:∃t,14-j=t+1:=⟨14-j-1,by omega⟩;have hSy:y+65536*((M:Int)/65536^(j+1+1)-pN/65536^(j+1+1))=D/65536^(j+1):=by
      rw[←hS.out,aay (j+1) zOm zOm,←hy,jW.out];omega
     have bo:=k4.cell (dU (mC (dt j D) R (y::List.replicate (14-j) 0)));have bT:=k4.frozen j;have mJ:=DY R;replace hSy:=zH hSy;replace hy:=zH hy;replace ht:=zH ht;clear iw1 iw2;go_upto_region 9 with fail
     refine ck k4 (fun kN k4 ad ak=>?_);obtain⟨k1,k2⟩:=rR ad k1 k2;have kb:=ak _ _ zOm kb;clear ad ak;rw[it,pa (dt j D),si j D R _ L2.out,ht.out,List.replicate_succ]at k4;clear bo bT mJ;go_wp2_with fail;exact⟨⟨j+1,y,by omega,by go_num,hSy.out,hyb.1,hyb.2,k1,k2,by rw[show 14-(j+1)=t by have:=ht.out;omega];exact k4,kb⟩,by simp[intOf];omega⟩
    ·obtain rfl:j=14:=zOm;obtain⟨y,hy⟩:=zX (x-32767-b);have hSy:y=D/65536^15:=by
      have h1:=hS.out;have h2:(M:Int)/65536^16=0:=Int.ediv_eq_zero_of_lt zOm (by
       have h2:((65536^16:Nat):Int)=65536^16:=zDc;have:=hMl.out;omega)
      rw[show 14+1+1=16 by decide,h2,VP,show 14+1=15 by decide,VO]at h1;rw[←h1,←hy,jW];omega
     have bo:=k1.cell ga.out;have hcR:=k4.cell gR.out;have hcz:=k4.cell gz.out;have bT:=k4.frozen 15;replace hSy:=zH hSy;replace hy:=zH hy;replace jW:=zH jW;go_upto_region 13 with fail
     rw[hy.out];refine ck k4 (fun xE k4 ad ak=>?_);obtain⟨k1,k2⟩:=rR ad k1 k2;have kb:=ak _ _ zOm kb;clear ad ak;rw[it,aL.out]at k4;have k4:Arr xE g (el (dR 14 D++R::[y])):=k4;clear bo hcR hcz bT;have bo:=k4.cell (dU (mC (dt 14 D) R [y]));have bT:=k4.frozen 14;have mJ:=DY R;go_upto_region 14 with fail
     refine ck k4 (fun tq k4 ad ak=>?_);obtain⟨k1,k2⟩:=rR ad k1 k2;have kb:=ak _ _ zOm kb;clear ad ak;rw[it,pa (dt 14 D),si 14 D R _ L2.out]at k4;clear bo bT mJ;have bo:=k4.cell (dU (mC (dt 15 D) y []))
     by_cases J0:0≤y
     ·have hD0:0≤D:=by
       have h1:=hSy.out;have h2:=Int.mul_ediv_add_emod D (65536^15);have h3:=Int.emod_nonneg D (b:=65536^15) zDc;rw[←h1]at h2;omega
      obtain⟨M',hM',hMk',hMm,hMl'⟩:=TS bK hMk.out D hD.out.symm hD0;have e:dR (14+1) D++[y]=dR 16 (M':Int):=by
       rw[show 14+1=15 by decide,mc 15,←hM',hSy.out];congr 2;refine(Int.emod_eq_of_lt (by rw[←hSy.out];exact J0) (Int.ediv_lt_of_lt_mul zDc ?_)).symm;have h2:((65536^16:Nat):Int)=65536^16:=zDc;omega
      rw[e]at k4;have nu:(el (dR 16 (M':Int))).length=16:=(by rw[eI,dt]);have ZI:(el (dR 16 (M:Int))).length=16:=(by rw[eI,dt]);replace hM':=zH hM';replace hMk':=zH hMk';replace hMl':=zH hMl';replace hMm:=zH hMm;replace nu:=zH nu;replace ZI:=zH ZI;replace e:=zH e;clear hD0;go_wp2_with(first|(refine ab rfl _ _ rfl _ rfl zKr _ k4 (by rw[nu.out];kernel_rfl) ?_)|(refine aQ rfl _ _ _ rfl _ _ rfl rfl _ k1 (by rw[nu.out];kernel_rfl) (by rw[nu.out,ZI.out]) (qG _) ?_));exact⟨⟨k+1,M',by omega,by go_num,by rw[hMm.out,hM.out],hMk'.out,hMl'.out,k1.setRow _,k2.row_other zOm _,ah kb zOm _⟩,by simp[intOf];omega⟩
     ·have hMp:M<pN:=by
       have h1:=hSy.out;have h2:=hD.out;have h3:D<0:=by
        by_cases hd:D<0
        ·exact hd
        ·exfalso;have:=Int.ediv_nonneg (a:=D) (b:=65536^15) zOm zDc;omega
       omega
      replace hMp:=zH hMp;go_wp2_with fail;exact⟨⟨k+1,M,by omega,by go_num,hM.out,zA3 hMp.out (Nat.le_add_right _ _),hMl.out,k1,k2,kb⟩,by simp[intOf];omega⟩
  ·obtain rfl:k=3:=zOm;have hMN:N%pN=M:=by
    rw[←hM.out];have:=hMk.out;exact zA4 zOm
   have hM256:M<256^32:=by
    have:=hMl.out;have h2:(65536:Nat)^16=256^32:=zDc;omega
   have lt1:=k1.lt;have lt2:=k2.lt;replace hM256:=zH hM256;replace hMN:=zH hMN;clear hM hMk hMl;go_upto_region 17 with fail
   refine aH (fun w9 ie k6 fO=>?_);obtain⟨k1,k2⟩:=fZ k1 k2 fO;have kb:=az kb fO;generalize wr.heap.size=g at k6 lt1 lt2⊢;have k6:Arr w9 g (ay (M%65536^0)):=(by rw[Nat.pow_zero,Nat.mod_one];exact k6);clear ie fO;go_wp2_with fail;go_loopw[7] (fun kv wr=>∃i:Nat,i≤16∧kv=.int .i64 i∧Arr wr w.heap.size (el (dR 16 M))∧Arr wr (w.heap.size+1) (ay 0)∧Arr wr g (ay (M%65536^i))∧Below w.heap.size w wr) (fun kv _=>16-(intOf kv).toNat)
   case atStart=>exact⟨0,by omega,rfl,k1,k2,k6,kb⟩
   case round=>
    clear k1 k2 k6 kb;obtain⟨i,hi,rfl,k1,k2,k6,kb⟩:=hrel
    by_cases hlt16:i<16
    ·obtain⟨d,hd⟩:∃d,(M:Int)/65536^i%65536=d:=⟨_,rfl⟩;obtain⟨d0,DK⟩:=zX (M/256^(2*i)%256);obtain⟨d1,tH⟩:=zX (M/256^(2*i+1)%256);have GF:=Ls M i;rw[hd,DK,tH]at GF;have l0:d0<256:=DK▸zA1 _ zDc;have l1:d1<256:=tH▸zA1 _ zDc;have a0:bits .and .i64 d 255=(d0:Int):=(by rw[nC];omega);have a1:bits .and .i64 (d/256) 255=(d1:Int):=(by rw[nC];omega);have Ur:0≤d∧d<65536:=zOm;obtain⟨aia,aib⟩:=Ur;have ga:=dU (mb 16 M i hlt16);rw[hd]at ga;have bo:=k1.cell ga;obtain⟨m0,lZ⟩:=zX (M%65536^i);have e16:(65536:Nat)^i=256^(2*i):=zae;have adm:m0<256^(2*i):=(by rw[←lZ,e16];exact zA1 _ (Nat.pow_pos zDc));have aga:256^(2*i+1)≤256^32:=Nat.pow_le_pow_right zDc zOm;have agb:256^(2*i)≤256^(2*i+1):=Nat.pow_le_pow_right zDc zOm;have s0:(ay m0).set (2*i) (.int .u8 (d0:Int))=ay (m0+256^(2*i)*d0):=eF zOm zOm l0 (by rw[zA32 adm];rfl);have Vg:m0+256^(2*i)*d0=M%256^(2*i+1):=(by rw[dv,←e16,lZ,e16,DK])
     have adn:m0+256^(2*i)*d0<256^(2*i+1):=(by rw[Vg];exact zA1 _ (Nat.pow_pos zDc));have s1:(ay (m0+256^(2*i)*d0)).set (2*i+1) (.int .u8 (d1:Int))=ay (M%65536^(i+1)):=eF zOm zOm l1 (by
      rw[zA32 adn,Vg,show(65536:Nat)^(i+1)=256^(2*i+1+1) by rw[show 2*i+1+1=2*(i+1) by omega,Nat.pow_mul],dv 256 (2*i+1),tH];omega)
     rw[lZ]at k6;have Aa:=k6.cell (bH m0 (2*i) zOm);have bT:=fun j=>k6.frozen j;replace s0:=zH s0;replace s1:=zH s1;replace hd:=zH hd;clear DK tH GF lZ e16 adm aga agb Vg adn ga;go_upto_region 21 with fail
     refine ck k6 (fun rD k6 ad ak=>?_);obtain⟨k1,k2⟩:=rR ad k1 k2;have kb:=ak _ _ zOm kb;clear ad ak;rw[s0.out]at k6;clear bo Aa bT;have bo:=k1.cell (dU (mb 16 M i hlt16));rw[hd.out]at bo;have jX:=k6.cell (bH (m0+256^(2*i)*d0) (2*i+1) zOm);have bT:=fun j=>k6.frozen j;go_wp2_with fail;refine⟨⟨i+1,by omega,by go_num,k1.other zab _,k2.other zab _,?_,kb.setCell zab _⟩,by simp[intOf];omega⟩;rw[←s1.out];exact k6.set _ _
    ·obtain rfl:i=16:=zOm;have e:M%65536^16=M:=zA4 (by
      have h2:(65536:Nat)^16=256^32:=zDc;have:=hM256.out;omega)
     rw[e]at k6;clear e;go_wp2_with(first|refine aR ?_|refine aU ?_);exact bodyPost_ret (aj Tryz.results104 _ _ _ rfl zKr _ zaE zLn) rfl ⟨by rw[hMN.out],ah kb zOm _⟩
def IF (t:List Int) (m:Nat) (v:Int):List Int:=t.set m (t.getD m 0+v)
def ml (xs ys:List Int) (i j:Nat) (t:List Int):List Int:=(List.range j).foldl (fun t k=>IF t (i+k) (xs.getD i 0*ys.getD k 0)) t
def ji (xs ys:List Int) (i:Nat):List Int:=(List.range i).foldl (fun t i=>ml xs ys i 16 t) (List.replicate 31 0)
def ky (t:List Int) (n:Nat):List Int:=(List.range n).map fun i=>t.getD i 0+(if i<15 then 38*t.getD (i+16) 0 else 0)
def AE (xs ys:List Int):Int:=cz (ky (ji xs ys 16) 16)
theorem Ua (t:List Int) (m:Nat) (v:Int):(IF t m v).length=t.length:=by simp[IF]
theorem o9 (xs ys:List Int) (i j:Nat) (t:List Int):ml xs ys i (j+1) t=IF (ml xs ys i j t) (i+j) (xs.getD i 0*ys.getD j 0):=by
 unfold ml;rw[List.range_succ,List.foldl_append];rfl
theorem sZ (xs ys:List Int) (i:Nat) (t:List Int):ml xs ys i 0 t=t:=rfl
theorem pg (xs ys:List Int) (i:Nat):ji xs ys (i+1)=ml xs ys i 16 (ji xs ys i):=by
 unfold ji;exact zfC
theorem qW (xs ys:List Int) (i:Nat) (t:List Int):∀j,(ml xs ys i j t).length=t.length
 |0=>by rw[sZ]
 |j+1=>by rw[o9,Ua,qW xs ys i t j]
theorem oq (xs ys:List Int):∀i,(ji xs ys i).length=31
 |0=>by unfold ji;simp
 |i+1=>by rw[pg,qW,oq xs ys i]
theorem jE (t:List Int) (n:Nat):(ky t n).length=n:=by simp[ky]
theorem IG:∀(t:List Int) (m:Nat) (v:Int),m<t.length→cz (t.set m v)=cz t+(v-t.getD m 0)*65536^m
 | [],m,v,h=>by simp at h
 |x::xs,0,v,_=>by simp[cz];omega
 |x::xs,m+1,v,h=>by
  have ih:=IG xs m v zar;rw[List.set_cons_succ,cz,cz,ih,List.getD_cons_succ,Int.pow_succ,Int.mul_add,←Int.mul_assoc _ _ 65536,Int.mul_comm _ 65536,Int.add_assoc]
theorem Ub {t:List Int} {m:Nat} (v:Int) (h:m<t.length):cz (IF t m v)=cz t+v*65536^m:=by
 rw[IF,IG _ _ _ h];congr 2;omega
theorem tp {ys:List Int} {j:Nat} (h:j<ys.length):cz (ys.take (j+1))=cz (ys.take j)+ys.getD j 0*65536^j:=by
 rw[List.take_succ_eq_append_getElem h,pl,zA15,Nat.min_eq_left zOm,List.getD_eq_getElem?_getD,zA7 h];simp[cz];rw[Int.mul_comm]
theorem Dj {xs ys:List Int} (hy:ys.length=16) {i:Nat} (hi:i<16) {t:List Int} (ht:t.length=31):∀j,j≤16→cz (ml xs ys i j t)=cz t+xs.getD i 0*65536^i*cz (ys.take j)
 |0,_=>by simp[sZ,cz]
 |j+1,h=>by
  rw[o9,Ub _ (by rw[qW,ht];omega),Dj hy hi ht j zOm,tp zOm,Int.mul_add,Int.add_assoc];congr 2;rw[Int.pow_add,Int.mul_assoc,Int.mul_assoc,Int.mul_left_comm (ys.getD j 0)]
theorem Dk {xs ys:List Int} (hx:xs.length=16) (hy:ys.length=16):∀i,i≤16→cz (ji xs ys i)=cz (xs.take i)*cz ys
 |0,_=>by
  rw[List.take_zero,cz,Int.zero_mul];unfold ji;rw[List.range_zero,List.foldl_nil];decide
 |i+1,h=>by
  rw[pg,Dj hy zOm (oq _ _ _) 16 zOm,Dk hx hy i zOm,zA8 (by omega:ys.length≤16),tp zOm,Int.add_mul]
theorem Bd.zeros (n:Nat):Bd 0 (List.replicate n 0):=fun x hx=>by
 rw[List.mem_replicate]at hx;omega
theorem Bd.getD {B:Int} {t:List Int} (h:Bd B t) (hB:0≤B) (m:Nat): -B≤t.getD m 0∧t.getD m 0≤B:=by
 rw[List.getD_eq_getElem?_getD];cases hm:t[m]? with
 |none=>simp;omega
 |some x=>exact h x (List.mem_of_getElem? hm)
theorem Bd.upd {B C v:Int} {t:List Int} (h:Bd B t) (hB:0≤B) (hv: -C≤v∧v≤C) (m:Nat):Bd (B+C) (IF t m v):=by
 intro x hx;have hg:=h.getD hB m;rcases List.mem_or_eq_of_mem_set hx with h1|rfl
 ·have:=h x h1;omega
 ·omega
theorem PD {x y B:Int} (hx: -B≤x∧x≤B) (hy: -B≤y∧y≤B): -(B*B)≤x*y∧x*y≤B*B:=by
 have h1:=Int.mul_nonneg (by omega:0≤B-x) (by omega:0≤B+y);have h2:=Int.mul_nonneg (by omega:0≤B+x) (by omega:0≤B-y);have h3:=Int.mul_nonneg (by omega:0≤B-x) (by omega:0≤B-y);have h4:=Int.mul_nonneg (by omega:0≤B+x) (by omega:0≤B+y);simp only[Int.add_mul,Int.mul_add,Int.sub_mul,Int.mul_sub]at h1 h2 h3 h4;have e:=Int.mul_comm x B;exact zex
theorem Bd.inner {B C:Int} {xs ys t:List Int} (hC:0≤C) (hx:Bd C xs) (hy:Bd C ys) (h:Bd B t) (hB:0≤B) (i:Nat):∀j:Nat,Bd (B+j*(C*C)) (ml xs ys i j t)
 |0=>by rw[sZ];simpa using h
 |j+1=>by
  rw[o9];have np:=Int.mul_nonneg hC hC;have h1:=(Bd.inner hC hx hy h hB i j).upd (C:=C*C) (by have:=Int.mul_nonneg (Int.natCast_nonneg j) np;omega) (PD (hx.getD hC i) (hy.getD hC j)) (i+j);refine h1.mono ?_;rw[Int.natCast_add,Int.add_mul];omega
theorem Bd.outer {C:Int} {xs ys:List Int} (hC:0≤C) (hx:Bd C xs) (hy:Bd C ys):∀i:Nat,Bd (i*(16*(C*C))) (ji xs ys i)
 |0=>by
  have:=Bd.zeros 31;simpa[ji]using this
 |i+1=>by
  rw[pg];have np:=Int.mul_nonneg hC hC;have h1:=Bd.inner hC hx hy (Bd.outer hC hx hy i) (Int.mul_nonneg (Int.natCast_nonneg i) zOm) i 16;refine h1.mono ?_;rw[Int.natCast_add,Int.add_mul];omega
theorem Dl (c:Int):∀xs:List Int,cz (xs.map (c* ·))=c*cz xs
 | []=>by simp[cz]
 |x::xs=>by rw[List.map_cons,cz,cz,Dl c xs,Int.mul_add,Int.mul_left_comm]
theorem Oe {t:List Int} (h:t.length=31):ky t 16=List.zipWith (fun x y=>x+y) (t.take 16) ((t.drop 16).map (38* ·)++[0]):=by
 apply List.ext_getElem?;intro i
 by_cases hi:i<16
 ·have e1:t[i]? =some t[i]:=zA7 zOm;rw[List.getElem?_zipWith,List.getElem?_take,if_pos hi,e1]
  by_cases qJ:i<15
  ·have e2:t[i+16]? =some t[i+16]:=zA7 zOm;rw[zA12 zab,List.getElem?_map,List.getElem?_drop,Nat.add_comm 16 i,e2];simp[ky,hi,qJ,List.getD_eq_getElem?_getD,e1,e2]
  ·obtain rfl:i=15:=zOm;rw[zA2 zab];simp[ky,List.getD_eq_getElem?_getD,h]
 ·rw[zA13 (by rw[jE];omega),zA13 (by rw[List.length_zipWith,zA15];omega)]
theorem Pb {t:List Int} (h:t.length=31):cz (ky t 16)=cz (t.take 16)+38*cz (t.drop 16):=by
 rw[Oe h,zG _ _ (by simp[h]),pl,Dl];simp[cz]
theorem Sa {xs ys:List Int} (hx:xs.length=16) (hy:ys.length=16):AE xs ys%pN=cz xs*cz ys%pN:=by
 have h:=Dk hx hy 16 zOm;rw[zA8 (by omega:xs.length≤16)]at h;have hl:=oq xs ys 16;rw[AE,Pb hl,←h];generalize ji xs ys 16=t at*;have e:cz t=cz (t.take 16)+65536^16*cz (t.drop 16):=by
  conv=>lhs;rw[←List.take_append_drop 16 t]
  rw[pl,zA15,Nat.min_eq_left zOm]
 rw[e,show(65536:Int)^16=(pN:Int)*2+38 by decide,Int.add_mul,Int.mul_assoc,Int.add_left_comm,Int.mul_add_emod_self_left]
theorem H2 {B:Int} (hB:0≤B) {t:List Int} (h:Bd B t) (n:Nat):Bd (39*B) (ky t n):=by
 intro x hx;obtain⟨i,-,rfl⟩:=List.mem_map.1 hx;have h1:=h.getD hB i;have h2:=h.getD hB (i+16);split<;>constructor<;>omega
theorem sn {xs:List Int} {i:Nat} (h:i<xs.length):xs[i]? =some (xs.getD i 0):=by
 rw[zA10,zA7 h];rfl
theorem Kb (t:List Int) (n:Nat):ky t (n+1)=ky t n++[t.getD n 0+(if n<15 then 38*t.getD (n+16) 0 else 0)]:=by
 unfold ky;rw[List.range_succ,List.map_append];rfl
theorem SL (n:Nat) (h:n<16):List.replicate (16-n) (0:Int)=0::List.replicate (15-n) 0:=by
 rw[show 16-n=(15-n)+1 by omega,List.replicate_succ]
theorem PE {U:Int} {K:Int} (h0: -(65536^16*K)≤U) (h1:U<65536^16*K) (hK:K≤18014398509481984):Bd 1152921504606846976 (dQ U):=by
 intro x hx;have:=Kq h0 h1 x hx;exact zex
theorem SN (xs ys:List Int) (hx:xs.length=16) (hy:ys.length=16) (bx:Bd 262144 xs) (by':Bd 262144 ys) (w:World):
 CB 105 #[.agg (el xs).toArray,.agg (el ys).toArray] w (.agg (el (dQ (fv (AE xs ys)))).toArray):=by
 have ho:=Bd.outer (C:=262144) zDc bx by'
 have Ax:=fun i j=>Bd.inner (C:=262144) zDc bx by' (ho i) (Int.mul_nonneg (Int.natCast_nonneg i) zDc) i j
 obtain⟨T,hT⟩:=zX (ji xs ys 16);have hTl:T.length=31:=(by rw[←hT,oq]);have hTb:=ho 16;rw[hT]at hTb;have hTb':Bd 17592186044416 T:=hTb.mono zDc;have BY:=H2 zDc hTb' 16;have c1:=ko (ky T 16) (jE _ _) (BY.mono zDc);have hmz:cz (ky T 16)=AE xs ys:=(by rw[AE,hT]);have X6:=A8 zDc (ky T 16) BY;rw[jE,hmz]at X6;have c2:=ko (dQ (AE xs ys)) (rk _) (PE (K:=2251799813685248) zOm zOm zDc);rw[hmz]at c1;rw[jf]at c2;generalize AE xs ys=P at*;have LZ:(el xs).length=16:=(by rw[eI,hx]);have hly:(el ys).length=16:=(by rw[eI,hy]);have NH:(el (ky T 16)).length=16:=(by rw[eI,jE]);replace c1:=zH c1;replace c2:=zH c2;replace hx:=zH hx;replace hy:=zH hy;replace bx:=zH bx;replace by':=zH by'
 replace LZ:=zH LZ;replace hly:=zH hly;replace NH:=zH NH;have hT':∀n,n=16→ji xs ys n=T:=(by rintro n rfl;exact hT);replace hT':=zH hT';clear hT;replace hTl:=zH hTl;replace hTb':=zH hTb';replace Ax:=zH Ax;clear X6 hmz BY hTb ho;go_enter Tryz.func105,Tryz.ntmps105;go_upto_region 1 with fail
 refine bZ (fun W aB k1 k2 k3 kb=>?_);have k3:Arr W (w.heap.size+1+1) (el (List.replicate 16 0)):=k3;clear aB;have lt1:=k1.lt;have lt2:=k2.lt;have lt3:=k3.lt;go_upto_region 2 with fail
 refine aH (fun w9 ie k4 fO=>?_);obtain⟨k1,k2,k3⟩:=dZ k1 k2 k3 fO;have kb:=az kb fO;generalize W.heap.size=g at k4 lt1 lt2 lt3⊢;have k4:Arr w9 g (el (ji xs ys 0)):=k4;clear ie fO;go_wp2_with fail;go_loopw[6] (fun iv wr=>∃i:Nat,i≤16∧iv=.int .i64 i∧Arr wr w.heap.size (el xs)∧Arr wr (w.heap.size+1) (el ys)∧Arr wr (w.heap.size+1+1) (el (List.replicate 16 0))∧Arr wr g (el (ji xs ys i))∧Below w.heap.size w wr) (fun iv _=>16-(intOf iv).toNat)
 case atStart=>exact⟨0,by omega,rfl,k1,k2,k3,k4,kb⟩
 case round=>
  clear k1 k2 k3 k4 kb;obtain⟨i,hi,rfl,k1,k2,k3,k4,kb⟩:=hrel
  by_cases bK:i<16
  ·have k4:Arr wr g (el (ml xs ys i 0 (ji xs ys i))):=k4;have tl:=oq xs ys i;obtain⟨t0,zu⟩:=zX (ji xs ys i);have Ax:=Ax.out i;rw[zu]at k4 tl Ax;have fR:=pg xs ys i;rw[zu]at fR;obtain⟨x,UA⟩:=zX (xs.getD i 0);have gx:=dU (sn (xs:=xs) (i:=i) zct);rw[UA]at gx;have GE:=bx.out.getD zDc i;rw[UA]at GE;replace gx:=zH gx;replace UA:=zH UA;replace fR:=zH fR;replace zu:=zH zu;replace tl:=zH tl;replace Ax:=zH Ax;obtain⟨acQ,acR⟩:=GE;have iw7:(i:Int)<16:=zOm;go_wp2_with fail;go_loopw[7] (fun kv wr=>∃j:Nat,j≤16∧kv=.int .i64 j∧Arr wr w.heap.size (el xs)∧Arr wr (w.heap.size+1) (el ys)∧Arr wr (w.heap.size+1+1) (el (List.replicate 16 0))∧Arr wr g (el (ml xs ys i j t0))∧Below w.heap.size w wr) (fun kv _=>16-(intOf kv).toNat)
   case atStart=>exact⟨0,by omega,rfl,k1,k2,k3,k4,kb⟩
   case round=>
    clear k1 k2 k3 k4 kb;obtain⟨j,hj,rfl,k1,k2,k3,k4,kb⟩:=hrel
    by_cases hltj:j<16
    ·obtain⟨y,Hy⟩:∃y,ys.getD j 0=y:=⟨_,rfl⟩;have gy:=dU (sn (xs:=ys) (i:=j) (by rw[hy.out];exact hltj));have tG:=by'.out.getD zDc j
     have ep:=o9 xs ys i j t0;have Qo:=Ax.out j;have tl':=qW xs ys i t0 j;rw[tl.out]at tl';obtain⟨t,ht⟩:=zX (ml xs ys i j t0);rw[ht]at k4 ep Qo tl';rw[Hy]at gy tG ep;rw[UA.out]at ep;obtain⟨z,hz⟩:=zX (t.getD (i+j) 0);have gz:=dU (sn (xs:=t) (i:=i+j) (by rw[tl'];omega));have hbz:=Qo.getD zOm (i+j);rw[hz]at gz hbz;have qk:=PD ⟨acQ,acR⟩ tG;obtain⟨p,hp⟩:=zX (x*y);rw[hp]at qk;have JU:t.set (i+j) (z+p)=ml xs ys i (j+1) t0:=(by rw[ep];unfold IF;rw[hz,hp]);have iw1:IntKind.i64.wrap p=p:=i64_in zOm;have iw2:IntKind.i64.wrap (z+p)=z+p:=i64_in zOm;have iw3:IntKind.i64.wrap ((i:Int)+(j:Int))=(i:Int)+(j:Int):=i64_in zOm;have iw4:((i:Int)+(j:Int)).toNat=i+j:=zOm;have iw5:(0:Int)≤(i:Int)+(j:Int):=zOm;have iw6:(i:Int)+(j:Int)<31:=zOm;have iw8:(j:Int)<16:=zOm;replace hp:=zH hp;replace hz:=zH hz;replace JU:=zH JU;replace gz:=zH gz;replace gy:=zH gy;replace hbz:=zH hbz;replace qk:=zH qk;replace Hy:=zH Hy
     replace ht:=zH ht;clear ep Qo tl' tG;go_upto_region 8 with(first|refine aR ?_|refine aU ?_)
     refine cH 17 18 fun aP=>?_;refine dz ?_ 1 131071 zaD [0,1,2,3,4,5,6,7,8,9,10,11,12,13,14,15,16] (fun w' hB=>by have e0:=k1.below hB;have e1:=k2.below hB;have e2:=k3.below hB;have e3:=k4.below hB;have c1:=(k1.below hB).cell gx.out;have c2:=(k2.below hB).cell gy.out;have c3:=(k4.below hB).cell gz.out;have c4:=hp.out;exact zRd) ?_;obtain⟨k1,k2,k3,k4⟩:=kJ k1 k2 k3 k4 aP;have kb:=az kb aP;have bo:=k4.cell gz.out;have bT:=fun j=>k4.frozen j;refine bf 262143 rfl zDk (fun K hK=>?_);go_simp;refine hK (fun _=>True) 9999 _ _ ?_;clear hK K;try simp only[Act.put]
     try simp only[zSa,zSz,zSs]
     refine ap zKr ?_
     first|refine i6 k4 (fun i8 k4 ad ak=>?_)|refine jC k4 (fun i8 k4 ad ak=>?_)
     obtain⟨k1,k2,k3⟩:=Dz ad k1 k2 k3;have kb:=ak _ _ zOm kb;clear ad ak;clear bo bT;rw[it,JU.out]at k4;clear iw1 iw2 iw3 iw4 iw5 iw6;go_wp2_with fail;exact⟨⟨j+1,by omega,by go_num,k1,k2,k3,k4,kb⟩,by simp[intOf];omega⟩
    ·obtain rfl:j=16:=zOm;rw[←fR.out]at k4;go_wp2_with fail;exact⟨⟨i+1,by omega,by go_num,k1,k2,k3,k4,kb⟩,by simp[intOf];omega⟩
  ·have Hn:i=16:=zOm;rw[hT'.out i Hn]at k4;subst Hn;have lt4:=k4.lt;clear hT' Ax bx by' LZ hly hx hy
   go_upto_region 10 with fail
   refine aH (fun w9 ie k5 fO=>?_);obtain⟨k3,k4⟩:=fZ k3 k4 fO;have kb:=az kb fO;generalize wr.heap.size=h at k5 lt4⊢;have k5:Arr w9 h (el (ky T 0++List.replicate (16-0) 0)):=k5;clear ie fO k1 k2;go_wp2_with fail;go_loopw[9] (fun kv wr=>∃n:Nat,n≤16∧kv=.int .i64 n∧Arr wr (w.heap.size+1+1) (el (List.replicate 16 0))∧Arr wr g (el T)∧Arr wr h (el (ky T n++List.replicate (16-n) 0))∧Below w.heap.size w wr) (fun kv _=>16-(intOf kv).toNat)
   case atStart=>exact⟨0,by omega,rfl,k3,k4,k5,kb⟩
   case round=>
    clear k3 k4 k5 kb;obtain⟨n,hn,rfl,k3,k4,k5,kb⟩:=hrel
    by_cases bK:n<16
    ·have zt:=Kb T n;have hz:=SL n bK;rw[hz]at k5;obtain⟨x,hx⟩:=zX (T.getD n 0);have GE:=hTb'.out.getD zDc n;have gx:=dU (sn (xs:=T) (i:=n) (by rw[hTl.out];omega));rw[hx]at gx zt GE;have g5:=dU (mC (jE T n) 0 (List.replicate (15-n) 0));have bo:=k4.cell gx;have hc5:=k5.cell g5;have bT:=fun j=>k5.frozen j;obtain⟨acQ,acR⟩:=GE;have iw7:(n:Int)<16:=zOm;replace zt:=zH zt;replace hz:=zH hz;replace hx:=zH hx;replace gx:=zH gx;replace g5:=zH g5;go_upto_region 14 with fail
     refine ck k5 (fun jF k5 ad ak=>?_);obtain⟨k3,k4⟩:=rR ad k3 k4;have kb:=ak _ _ zOm kb;clear ad ak;rw[it,pa (jE T n)]at k5;clear bo hc5 bT
     by_cases qJ:n<15
     ·obtain⟨y,hy⟩:∃y,T.getD (n+16) 0=y:=⟨_,rfl⟩;have tG:=hTb'.out.getD zDc (n+16);have gy:=dU (sn (xs:=T) (i:=n+16) (by rw[hTl.out];omega));have zt:=zt.out;rw[if_pos qJ,hy]at zt;rw[hy]at tG gy;obtain⟨ah2,ah3⟩:=tG;have g5:=dU (mC (jE T n) x (List.replicate (15-n) 0));have iw1:IntKind.i64.wrap (38*y)=38*y:=i64_in zOm;have iw2:IntKind.i64.wrap (x+38*y)=x+38*y:=i64_in zOm;have iw3:IntKind.i64.wrap ((n:Int)+16)=(n:Int)+16:=i64_in zOm;have iw4:((n:Int)+16).toNat=n+16:=zOm;have iw5:(0:Int)≤(n:Int)+16:=zOm;have iw6:(n:Int)+16<31:=zOm;replace zt:=zH zt;replace hy:=zH hy;replace gy:=zH gy;replace g5:=zH g5;go_upto_region 15 with fail
      go_upto_region 15 with(first|refine aR ?_|refine aU ?_)
      refine cH 11 12 fun b9=>?_;refine dz ?_ 1 2047 zaJ [0,1,2,3,4,5,6,7,8,9,10] (fun w' hB=>by have e0:=k3.below hB;have e1:=k4.below hB;have e2:=k5.below hB;have c1:=(k4.below hB).cell gy.out;have c2:=(k5.below hB).cell g5.out;exact zRd) ?_;obtain⟨k3,k4,k5⟩:=dZ k3 k4 k5 b9;have kb:=az kb b9;have bo:=k5.cell g5.out;have bT:=fun j=>k5.frozen j;refine bf 4095 rfl zDk (fun K hK=>?_);go_simp;refine hK (fun _=>True) 9999 _ _ ?_;clear hK K;try simp only[Act.put]
      try simp only[zSa,zSz,zSs]
      refine ap zKr ?_
      first|refine i6 k5 (fun m9 k5 ad ak=>?_)|refine jC k5 (fun m9 k5 ad ak=>?_)
      obtain⟨k3,k4⟩:=rR ad k3 k4;have kb:=ak _ _ zOm kb;clear ad ak;clear bo bT;rw[it,pa (jE T n)]at k5;clear iw1 iw2 iw3 iw4 iw5 iw6;go_wp2_with fail;refine⟨⟨n+1,by omega,by go_num,k3,k4,?_,kb⟩,by simp[intOf];omega⟩;rw[zt.out,zA16,show 16-(n+1)=15-n by omega];exact k5
     ·obtain rfl:n=15:=zOm;have zt:=zt.out;rw[if_neg zOm,Int.add_zero]at zt;replace zt:=zH zt;go_wp2_with fail;refine⟨⟨15+1,by omega,by go_num,k3,k4,?_,kb⟩,by simp[intOf]⟩;rw[zt.out,zA16];exact k5
    ·obtain rfl:n=16:=zOm;have e:ky T 16++List.replicate (16-16) (0:Int)=ky T 16:=zac;rw[e]at k5;clear e;go_wp2_with(refine ab rfl _ _ rfl _ rfl zKr _ k5 (by rw[NH.out];kernel_rfl) ?_);refine zQ (c1.out _) fun qD ia=>?_;have k3:=k3.below ia;have kb:=az kb ia;clear ia;go_wp2_with fail;refine zQ (c2.out _) fun uG iz=>?_;have k3:=k3.below iz;have kb:=az kb iz;clear iz;go_wp2_with(first|refine aR ?_|refine aU ?_);exact bodyPost_ret (aj Tryz.results105 _ _ _ rfl zKr _ zaE zLn) rfl ⟨rfl,ah kb zOm _⟩
end Go.Proofs.YtgfkgolafkdjfaaGreatDoor
