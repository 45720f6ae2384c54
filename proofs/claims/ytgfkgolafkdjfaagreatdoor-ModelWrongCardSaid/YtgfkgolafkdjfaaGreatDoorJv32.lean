/- ModelWrong: part 32 of its proof: lemmas and contracts, each with its conditions in its own statement; the last part holds the law itself. -/
import Derived.Test.YtgfkgolafkdjfaaGreatDoorJv26

set_option maxHeartbeats 4000000
set_option maxRecDepth 100000
namespace Go.Proofs.YtgfkgolafkdjfaaGreatDoor
open Go.RowKit
def cz:List Int→Int
 | []=>0
 |x::xs=>x+65536*cz xs
def dR:Nat→Int→List Int
 |0,_=>[]
 |n+1,V=>V%65536::dR n (V/65536)
theorem dt:∀(n:Nat) (V:Int),(dR n V).length=n
 |0,_=>rfl
 |n+1,V=>by rw[dR,List.length_cons,dt]
theorem mc:∀(n:Nat) (V:Int),dR (n+1) V=dR n V++[V/65536^n%65536]
 |0,V=>by simp[dR]
 |n+1,V=>by
  rw[dR,mc n,dR,List.cons_append,Int.pow_succ,Int.mul_comm (65536^n),Int.ediv_ediv_of_nonneg zDc]
theorem pl:∀(a b:List Int),cz (a++b)=cz a+65536^a.length*cz b
 | [],b=>by simp[cz]
 |x::xs,b=>by
  rw[List.cons_append,cz,cz,pl xs b,List.length_cons,Int.pow_succ,Int.mul_add,Int.mul_comm (65536^xs.length) 65536,Int.mul_assoc];omega
theorem Di:∀(n:Nat) (V:Int),cz (dR n V)=V%65536^n
 |0,V=>by simp[dR,cz,Int.emod_one]
 |n+1,V=>by
  rw[dR,cz,Di n,Int.pow_succ,Int.mul_comm (65536^n) 65536];have h1:=Int.mul_ediv_add_emod V 65536;have h2:=Int.mul_ediv_add_emod (V/65536) (65536^n);rw[Int.ediv_ediv_of_nonneg zDc]at h2;have h3:=Int.mul_ediv_add_emod V (65536*65536^n);rw[Int.mul_assoc]at h3;generalize V/(65536*65536^n)=q at*;generalize V/65536%65536^n=r at*;generalize (65536:Int)^n*q=m at*;generalize V%(65536*65536^n)=s at*;omega
theorem mb:∀(n:Nat) (V:Int) (i:Nat),i<n→(dR n V)[i]? =some (V/65536^i%65536)
 |0,_,_,h=>by omega
 |n+1,V,0,_=>by simp[dR]
 |n+1,V,i+1,h=>by
  rw[dR,zA33,mb n _ i zOm,Int.pow_succ,Int.mul_comm (65536^i),Int.ediv_ediv_of_nonneg zDc]
def dQ (V:Int):List Int:=(V%65536+38*(V/65536^16))::dR 15 (V/65536)
def fv (V:Int):Int:=V%65536^16+38*(V/65536^16)
theorem rk (V:Int):(dQ V).length=16:=by rw[dQ,List.length_cons,dt]
theorem jf (V:Int):cz (dQ V)=fv V:=by
 have h:=Di 16 V;rw[dR,cz]at h;rw[dQ,cz,fv,←h];omega
theorem EE {V:Int} (h0:0≤V) (h1:V<65536^16):dQ V=dR 16 V:=by
 rw[dQ,Int.ediv_eq_zero_of_lt h0 h1,Int.mul_zero,Int.add_zero];rfl
theorem P2 {V:Int} (h0:0≤V) (h1:V<65536^16):fv V=V:=by
 rw[fv,Int.ediv_eq_zero_of_lt h0 h1,Int.emod_eq_of_lt h0 h1];simp
theorem LA {V:Int} {K:Int} (h0: -(65536^16*K)≤V) (h1:V<65536^16*K): -(38*K)≤fv V∧fv V<65536^16+38*K:=by
 unfold fv;have h2:=Int.mul_ediv_add_emod V (65536^16);have h3:=Int.emod_nonneg V (b:=65536^16) zDc;have h4:=Int.emod_lt_of_pos V (b:=65536^16) zDc;exact zex
theorem Kq {V:Int} {K:Int} (h0: -(65536^16*K)≤V) (h1:V<65536^16*K):∀x∈dQ V,-(38*K)≤x∧x≤65535+38*K:=by
 have hK:0≤K:=zOm;have h2:=Int.mul_ediv_add_emod V (65536^16);have h3:=Int.emod_nonneg V (b:=65536^16) zDc;have h4:=Int.emod_lt_of_pos V (b:=65536^16) zDc;intro x hx;rw[dQ,List.mem_cons]at hx;rcases hx with rfl|hx
 ·have h5:=Int.emod_nonneg V (b:=65536) zDc;have h6:=Int.emod_lt_of_pos V (b:=65536) zDc;exact zex
 ·obtain⟨i,hi,rfl⟩:=List.getElem_of_mem hx;rw[dt]at hi;have h7:=mb 15 (V/65536) i hi;rw[zA7 (by rw[dt];exact hi),Option.some.injEq]at h7;rw[h7];have h5:=Int.emod_nonneg (V/65536/65536^i) (b:=65536) zDc;have h6:=Int.emod_lt_of_pos (V/65536/65536^i) (b:=65536) zDc;exact zex
theorem Fu (V:Int):fv V%(pN:Int)=V%(pN:Int):=by
 have h2:=Int.mul_ediv_add_emod V (65536^16);have e:V=fv V+(pN:Int)*(2*(V/65536^16)):=by
  rw[show(pN:Int)=57896044618658097711785492504343953926634992332820282019728792003956564819949 from rfl];unfold fv;omega
 rw[show fv V%(pN:Int)=(fv V+(pN:Int)*(2*(V/65536^16)))%(pN:Int)from(Int.add_mul_emod_self_left _ _ _).symm,←e]
def el (xs:List Int):List Value:=xs.map (Value.int .i64)
theorem eI (xs:List Int):(el xs).length=xs.length:=by simp[el]
theorem dU {xs:List Int} {i:Nat} {x:Int} (h:xs[i]? =some x):(el xs)[i]? =some (.int .i64 x):=by simp[el,h]
theorem it (xs:List Int) (i:Nat) (x:Int):(el xs).set i (.int .i64 x)=el (xs.set i x):=by simp[el,List.map_set]
theorem qG (xs:List Int):∀v∈el xs,v.oneCell'=true:=by
 intro u hu;obtain⟨_,_,rfl⟩:=List.mem_map.1 hu;rfl
theorem mC {α:Type} {a:List α} {i:Nat} (h:a.length=i) (y:α) (t:List α):(a++y::t)[i]? =some y:=by
 subst h;simp
theorem pa {α:Type} {a:List α} {i:Nat} (h:a.length=i) (y z:α) (t:List α):(a++y::t).set i z=a++z::t:=by
 subst h;simp
theorem M3 {V y T:Int} {i:Nat} (h:y+65536*T=V/65536^i):y%65536=V/65536^i%65536:=by rw[←h];omega
theorem PN {V y x T:Int} {i:Nat} (h:y+65536*(x+65536*T)=V/65536^i):(x+y/65536)+65536*T=V/65536^(i+1):=by
 rw[Int.pow_succ,←Int.ediv_ediv_of_nonneg (Int.pow_nonneg zDc),←h];omega
def Bd (B:Int) (xs:List Int):Prop:=∀x∈xs,-B≤x∧x≤B
theorem ko (xs:List Int) (hl:xs.length=16) (hb:Bd 1152921504606846976 xs) (w:World):
 CB 161 #[.agg (el xs).toArray] w (.agg (el (dQ (cz xs))).toArray):=by
 obtain⟨V,hV⟩:=zX (cz xs);rw[hV];obtain⟨y0,t0,rfl⟩:∃y t,xs=y::t:=(by cases xs with|nil=>cases hl|cons y t=>exact⟨y,t,rfl⟩);replace hV:=zH hV;replace hl:=zH hl;replace hb:=zH hb;go_enter Tryz.func161,Tryz.ntmps161;go_upto_region 1 with fail
 refine be (fun W aB k1 k2 kb=>?_);have k2:Arr W (w.heap.size+1) (el (List.replicate 16 0)):=k2;go_wp2_with fail;go_loopw[3] (fun kv wr=>∃(i:Nat) (ys:List Int),kv=.int .i64 i∧((i<16∧∃y tl,tl.length=15-i∧ys=dR i V++y::tl∧y+65536*cz tl=V/65536^i∧Bd 1152921504606846976 tl∧ -2305843009213693952≤y∧y≤2305843009213693952)∨(i=16∧ys=dQ V))∧Arr wr w.heap.size (el ys)∧Arr wr (w.heap.size+1) (el (List.replicate 16 0))∧Below w.heap.size w wr) (fun kv _=>16-(intOf kv).toNat)
 case atStart=>
  refine⟨0,y0::t0,rfl,.inl ⟨by decide,y0,t0,?_,rfl,?_,?_,?_⟩,k1,k2,kb⟩
  ·have:=hl.out;simp at this;omega
  ·have:=hV.out;rw[cz]at this;rw[this];simp
  ·exact fun x hx=>hb.out x (List.mem_cons_of_mem _ hx)
  ·have:=hb.out y0 zac;omega
 case round=>
  clear k1 k2 kb;obtain⟨i,ys,rfl,Ac,k1,k2,kb⟩:=hrel;rcases Ac with⟨hi,y,tl,ue,rfl,oQ,XF,Dx,Z8⟩|⟨rfl,rfl⟩
  ·have cZ:=k1.cell (dU (mC (dt i V) y tl));have oZ:=k1.frozen i;go_upto_region 6 with fail
   refine ck k1 (fun w1 k1 ad ak=>?_);have k2:=ad _ _ zOm k2;have kb:=ak _ _ zOm kb;clear ad ak cZ oZ;rw[show y-y/65536*65536=y%65536 by omega]at k1⊢;rw[it,pa (dt i V)]at k1;have mL:=M3 oQ
   by_cases qJ:i<15
   ·obtain⟨x,t,rfl⟩:∃x t,tl=x::t:=(by cases tl with|nil=>simp at ue;omega|cons x t=>exact⟨x,t,rfl⟩);have hx:=XF x zac;have iP:=PN (by rw[cz]at oQ;exact oQ);have zt:=mc i V;have ZV:dR i V++y%65536::x::t=dR (i+1) V++x::t:=(by rw[zt,mL,zA16];rfl);rw[ZV]at k1;have cZ:=k1.cell (dU (mC (dt (i+1) V) x t));have oZ:=k1.frozen (i+1);replace mL:=zH mL;replace oQ:=zH oQ;replace iP:=zH iP;replace zt:=zH zt;replace ZV:=zH ZV;replace XF:=zH XF;replace ue:=zH ue;go_wp2_with fail;refine⟨⟨i+1,_,by go_num,.inl ⟨by omega,x+y/65536,t,by have:=ue.out;simp at this;omega,rfl,iP.out,fun z hz=>XF.out z (List.mem_cons_of_mem _ hz),by omega,by omega⟩,?_,k2.other zac _,kb.setCell zac _⟩,by simp[intOf];omega⟩;have:=k1.set (i+1) (.int .i64 (x+y/65536));rw[it,pa (dt (i+1) V)]at this;exact this
   ·obtain rfl:i=15:=zOm;obtain rfl:tl=[]:=List.eq_nil_of_length_eq_zero zOm;have ZV:dR 15 V++[y%65536]=dR 16 V:=(by rw[mc 15 V,mL]);rw[ZV]at k1;have hc:y/65536=V/65536^16:=by
     rw[cz]at oQ;rw[Int.pow_succ,←Int.ediv_ediv_of_nonneg (Int.pow_nonneg zDc),←oQ];omega
    have cZ:=k1.cell (dU (mb 16 V 0 zDc));rw[Int.pow_zero,Int.ediv_one]at cZ;have oZ:=k1.frozen 0;have NN:0≤V%65536:=Int.emod_nonneg _ zDc;have lP:V%65536<65536:=Int.emod_lt_of_pos _ zDc;replace mL:=zH mL;replace oQ:=zH oQ;replace ZV:=zH ZV;replace XF:=zH XF;replace ue:=zH ue;replace hc:=zH hc;go_wp2_with fail;refine⟨⟨16,dQ V,by go_num,.inr ⟨rfl,rfl⟩,?_,k2.other zac _,kb.setCell zac _⟩,by simp[intOf]⟩;have:=k1.set 0 (.int .i64 (V%65536+38*(y/65536)));rw[it]at this;have e:(dR 16 V).set 0 (V%65536+38*(y/65536))=dQ V:=(by rw[hc.out];rfl);rw[e]at this;exact this
  ·have aI:=rk V;replace aI:=zH aI;go_wp2_with(first|(refine ab rfl _ _ rfl _ rfl zKr _ k1 zcs ?_)|(refine aQ rfl _ _ _ rfl _ _ rfl rfl _ k2 zcs (by rw[eI,eI,aI.out];rfl) (qG _) ?_));exact bodyPost_ret (aj Tryz.results161 _ _ _ rfl zKr _ (k2.setRow _) zcs) rfl ⟨rfl,ah kb zOm _⟩
theorem Fp (V:Int):(el (dQ V)).length=16:=by rw[eI,rk]
theorem Ls (n i:Nat):((n/256^(2*i)%256+256*(n/256^(2*i+1)%256):Nat):Int)=(n:Int)/65536^i%65536:=by
 have e1:(256:Nat)^(2*i)=65536^i:=zae;rw[zA24,←zA22,e1];have e2:((65536:Int)^i)=((65536^i:Nat):Int):=zac;rw[e2];omega
theorem Gf (n:Nat) (hn:n<256^32) (w:World):
 CB 111 #[.agg (ay n).toArray] w (.agg (el (dQ n)).toArray):=by
 have QZ:dQ n=dR 16 n:=EE zOm (by
  have:(256:Nat)^32=65536^16:=zDc;have h2:((256^32:Nat):Int)=65536^16:=zDc;omega)
 rw[QZ];replace QZ:=zH QZ;go_enter Tryz.func111,Tryz.ntmps111;go_upto_region 1 with fail
 refine be (fun W aB k1 k2 kb=>?_);have k2:Arr W (w.heap.size+1) (el (List.replicate 16 0)):=k2;have lt1:=k1.lt;have lt2:=k2.lt;clear aB;go_upto_region 2 with fail
 refine aH (fun w9 ie k3 fO=>?_);obtain⟨k1,k2⟩:=fZ k1 k2 fO;have kb:=az kb fO;generalize W.heap.size=g at k3 lt1 lt2⊢;have k3:Arr w9 g (el (List.replicate 16 0)):=k3;clear ie fO;go_wp2_with fail;go_loopw[4] (fun kv wr=>∃i:Nat,i≤16∧kv=.int .i64 i∧Arr wr w.heap.size (ay n)∧Arr wr (w.heap.size+1) (el (List.replicate 16 0))∧Arr wr g (el (dR i n++List.replicate (16-i) 0))∧Below w.heap.size w wr) (fun kv _=>16-(intOf kv).toNat)
 case atStart=>exact⟨0,by omega,rfl,k1,k2,k3,kb⟩
 case round=>
  clear k1 k2 k3 kb;obtain⟨i,hi,rfl,k1,k2,k3,kb⟩:=hrel
  by_cases bK:i<16
  ·have Ei:=aav (n/256^(2*i)%256) (n/256^(2*i+1)%256) (zA1 _ zDc) (zA1 _ zDc);rw[Ls]at Ei;have g1:=bH n (2*i) zOm;have g2:=bH n (2*i+1) zOm;have hrp:List.replicate (16-i) (0:Int)=0::List.replicate (15-i) 0:=(by rw[show 16-i=(15-i)+1 by omega,List.replicate_succ]);rw[hrp]at k3;have g3:=dU (mC (dt i n) 0 (List.replicate (15-i) 0));obtain⟨b0,iG⟩:=zX (n/256^(2*i)%256);obtain⟨b1,mK⟩:=zX (n/256^(2*i+1)%256);rw[iG]at g1 Ei;rw[mK]at g2 Ei;have lb0:b0<256:=iG▸zA1 _ zDc;have lb1:b1<256:=mK▸zA1 _ zDc;have zt:=mc i n;obtain⟨d,hd⟩:=zX ((n:Int)/65536^i%65536);rw[hd]at Ei zt;replace hrp:=zH hrp;replace zt:=zH zt;replace Ei:=zH Ei;replace g1:=zH g1;replace g2:=zH g2;replace g3:=zH g3;clear iG mK hd;have iw1:IntKind.i64.wrap (2*(i:Int))=2*(i:Int):=i64_in zOm;have iw2:IntKind.i64.wrap (2*(i:Int)+1)=2*(i:Int)+1:=i64_in zOm;have iw3:(2*(i:Int)).toNat=2*i:=zOm;have iw4:(2*(i:Int)+1).toNat=2*i+1:=zOm
   have iw5:IntKind.i64.wrap ((b1:Int)*256)=(b1:Int)*256:=i64_in zOm;have iwa:IntKind.i64.wrap (b0:Int)=(b0:Int):=i64_in zOm;have iwb:IntKind.i64.wrap (b1:Int)=(b1:Int):=i64_in zOm;have iw6:(0:Int)≤2*(i:Int):=zOm;have iw7:(0:Int)≤2*(i:Int)+1:=zOm;have iw8:2*(i:Int)<32:=zOm;have iw9:2*(i:Int)+1<32:=zOm;go_upto_region 5 with(first|refine aR ?_|refine aU ?_)
   refine cH 15 16 fun aP=>?_;refine dz ?_ 1 32767 zaD [0,1,2,3,4,5,6,7,8,9,10,11,12,13,14] (fun w' hB=>by have e0:=k1.below hB;have e1:=k2.below hB;have e2:=k3.below hB;have c1:=(k1.below hB).cell g1.out;have c2:=(k1.below hB).cell g2.out;have c3:=Ei.out;exact zRd) ?_;obtain⟨k1,k2,k3⟩:=dZ k1 k2 k3 aP;have kb:=az kb aP;have bo:=k3.cell g3.out;have bT:=fun j=>k3.frozen j;refine bf 65535 rfl zDk (fun K hK=>?_);go_simp;refine hK (fun _=>True) 9999 _ _ ?_;clear hK K;try simp only[Act.put]
   try simp only[zSa,zSz,zSs]
   refine ap zKr ?_
   first|refine i6 k3 (fun i8 k3 ad ak=>?_)|refine jC k3 (fun i8 k3 ad ak=>?_)
   obtain⟨k1,k2⟩:=rR ad k1 k2;have kb:=ak _ _ zOm kb;clear ad ak;clear bo bT;rw[it,pa (dt i n),show dR i n++d::List.replicate (15-i) 0=dR (i+1) n++List.replicate (16-(i+1)) 0 by rw[zt.out,zA16,show 16-(i+1)=15-i by omega];rfl]at k3;go_wp2_with fail;exact⟨⟨i+1,by omega,by go_num,k1,k2,k3,kb⟩,by simp[intOf];omega⟩
  ·obtain rfl:i=16:=zOm;rw[show dR 16 n++List.replicate (16-16) (0:Int)=dQ n by rw[QZ.out];simp]at k3;go_wp2_with(first|refine aR ?_|refine aU ?_);exact bodyPost_ret (aj Tryz.results111 _ _ _ rfl zKr _ zaE zLn) rfl ⟨by rw[QZ.out],ah kb zOm _⟩
theorem Fw {α:Type} {xs:List α} {i:Nat} (h:i<xs.length):xs[i]? =some xs[i]:=zA7 h
theorem zG:∀(xs ys:List Int),xs.length=ys.length→cz (List.zipWith (fun x y=>x+y) xs ys)=cz xs+cz ys
 | [],[],_=>rfl
 | [],_::_,h=>by simp at h
 |_::_,[],h=>by simp at h
 |x::xs,y::ys,h=>by
  simp only[List.length_cons,Nat.add_right_cancel_iff]at h;rw[List.zipWith_cons_cons,cz,cz,cz,zG xs ys h];omega
theorem SF (xs ys:List Int) (hx:xs.length=16) (hy:ys.length=16) (bx:Bd 288230376151711744 xs) (by':Bd 288230376151711744 ys) (w:World):
 CB 112 #[.agg (el xs).toArray,.agg (el ys).toArray] w (.agg (el (dQ (cz xs+cz ys))).toArray):=by
 obtain⟨zs,hz⟩:=zX (List.zipWith (fun x y=>x+y) xs ys);have wJ:zs.length=16:=(by rw[←hz,List.length_zipWith,hx,hy];rfl);have Rm:zs.length=xs.length:=(by rw[wJ,hx]);have J1:∀(i:Nat) (x y:Int),xs[i]? =some x→ys[i]? =some y→zs[i]? =some (x+y):=by
  intro i x y h1 h2;rw[←hz,List.getElem?_zipWith,h1,h2]
 have bz:Bd 1152921504606846976 zs:=by
  intro z hzm;rw[←hz]at hzm;obtain⟨i,hi,rfl⟩:=List.getElem_of_mem hzm;rw[List.getElem_zipWith];rw[List.length_zipWith]at hi;have h1:=bx xs[i] (List.getElem_mem _);have h2:=by' ys[i] (List.getElem_mem _)
  exact zex
 have hv:=zG xs ys (by rw[hx,hy]);rw[hz]at hv;rw[←hv];have cc:=zH (fun w=>ko zs wJ bz w);replace hv:=zH hv;replace hz:=zH hz;replace wJ:=zH wJ;replace hx:=zH hx;replace hy:=zH hy;replace Rm:=zH Rm;replace J1:=zH J1;replace bx:=zH bx;replace by':=zH by'
 clear bz;go_enter Tryz.func112,Tryz.ntmps112;go_upto_region 1 with fail
 refine bZ (fun W aB k1 k2 k3 kb=>?_);have k3:Arr W (w.heap.size+1+1) (el (List.replicate 16 0)):=k3;clear aB;have k1:Arr W w.heap.size (el (ea 0 zs xs)):=(by rw[eO];exact k1);go_wp2_with fail;go_loopw[5] (fun kv wr=>∃i:Nat,i≤16∧kv=.int .i64 i∧Arr wr w.heap.size (el (ea i zs xs))∧Arr wr (w.heap.size+1) (el ys)∧Arr wr (w.heap.size+1+1) (el (List.replicate 16 0))∧Below w.heap.size w wr) (fun kv _=>16-(intOf kv).toNat)
 case atStart=>exact⟨0,by omega,rfl,k1,k2,k3,kb⟩
 case round=>
  clear k1 k2 k3 kb;obtain⟨i,hi,rfl,k1,k2,k3,kb⟩:=hrel
  by_cases bK:i<16
  ·obtain⟨x,gx⟩:∃x,xs[i]? =some x:=⟨_,Fw zct⟩;obtain⟨y,gy⟩:∃y,ys[i]? =some y:=⟨_,Fw (by rw[hy.out];exact bK)⟩;have gz:=J1.out i x y gx gy;have gm:(ea i zs xs)[i]? =some x:=zcu;have GE:=bx.out x (List.mem_of_getElem? gx);have tG:=by'.out y (List.mem_of_getElem? gy)
   have aL:=fE Rm.out gz;replace gx:=zH gx;replace gy:=zH gy;replace gz:=zH gz;replace gm:=zH gm;replace aL:=zH aL;have iw:IntKind.i64.wrap (x+y)=x+y:=i64_in zOm;go_upto_region 4 with(first|refine aR ?_|refine aU ?_)
   refine cH 9 10 fun aP=>?_;refine dz ?_ 1 511 zaD [0,1,2,3,4,5,6,7,8] (fun w' hB=>by have e0:=k1.below hB;have e1:=k2.below hB;have e2:=k3.below hB;have c1:=(k1.below hB).cell (dU gm.out);have c2:=(k2.below hB).cell (dU gy.out);exact zRd) ?_;obtain⟨k1,k2,k3⟩:=dZ k1 k2 k3 aP;have kb:=az kb aP;have bo:=k1.cell (dU gm.out);have bT:=fun j=>k1.frozen j;refine bf 1023 rfl zDk (fun K hK=>?_);go_simp;refine hK (fun _=>True) 9999 _ _ ?_;clear hK K;try simp only[Act.put]
   try simp only[zSa,zSz,zSs]
   refine ap zKr ?_
   first|refine i6 k1 (fun i8 k1 ad ak=>?_)|refine jC k1 (fun i8 k1 ad ak=>?_)
   exact zd4
  ·obtain rfl:i=16:=zOm;have e:ea 16 zs xs=zs:=zcv;rw[e]at k1;have nt:(el zs).length=16:=(by rw[eI,wJ.out]);replace nt:=zH nt;clear e;go_wp2_with(refine ab rfl _ _ rfl _ rfl zKr _ k1 zcw ?_);refine zQ (cc.out _) fun jF dc=>?_;have k3:=k3.below dc;have kb:=az kb dc;clear dc;go_wp2_with(first|refine aR ?_|refine aU ?_);exact bodyPost_ret (aj Tryz.results112 _ _ _ rfl zKr _ zaE zLn) rfl ⟨rfl,ah kb zOm _⟩
theorem ER:∀(xs ys:List Int),xs.length=ys.length→cz (List.zipWith (fun x y=>x-y) xs ys)=cz xs-cz ys
 | [],[],_=>rfl
 | [],_::_,h=>by simp at h
 |_::_,[],h=>by simp at h
 |x::xs,y::ys,h=>by
  simp only[List.length_cons,Nat.add_right_cancel_iff]at h;rw[List.zipWith_cons_cons,cz,cz,cz,ER xs ys h];omega
theorem Td (xs ys:List Int) (hx:xs.length=16) (hy:ys.length=16) (bx:Bd 288230376151711744 xs) (by':Bd 288230376151711744 ys) (w:World):
 CB 113 #[.agg (el xs).toArray,.agg (el ys).toArray] w (.agg (el (dQ (cz xs-cz ys))).toArray):=by
 obtain⟨zs,hz⟩:=zX (List.zipWith (fun x y=>x-y) xs ys);have wJ:zs.length=16:=(by rw[←hz,List.length_zipWith,hx,hy];rfl);have Rm:zs.length=xs.length:=(by rw[wJ,hx]);have J1:∀(i:Nat) (x y:Int),xs[i]? =some x→ys[i]? =some y→zs[i]? =some (x-y):=by
  intro i x y h1 h2;rw[←hz,List.getElem?_zipWith,h1,h2]
 have bz:Bd 1152921504606846976 zs:=by
  intro z hzm;rw[←hz]at hzm;obtain⟨i,hi,rfl⟩:=List.getElem_of_mem hzm;rw[List.getElem_zipWith];rw[List.length_zipWith]at hi;have h1:=bx xs[i] (List.getElem_mem _);have h2:=by' ys[i] (List.getElem_mem _)
  exact zex
 have hv:=ER xs ys (by rw[hx,hy]);rw[hz]at hv;rw[←hv];have cc:=zH (fun w=>ko zs wJ bz w);replace hv:=zH hv;replace hz:=zH hz;replace wJ:=zH wJ;replace hx:=zH hx;replace hy:=zH hy;replace Rm:=zH Rm;replace J1:=zH J1;replace bx:=zH bx;replace by':=zH by'
 clear bz;go_enter Tryz.func113,Tryz.ntmps113;go_upto_region 1 with fail
 refine bZ (fun W aB k1 k2 k3 kb=>?_);have k3:Arr W (w.heap.size+1+1) (el (List.replicate 16 0)):=k3;clear aB;have k1:Arr W w.heap.size (el (ea 0 zs xs)):=(by rw[eO];exact k1);go_wp2_with fail;go_loopw[5] (fun kv wr=>∃i:Nat,i≤16∧kv=.int .i64 i∧Arr wr w.heap.size (el (ea i zs xs))∧Arr wr (w.heap.size+1) (el ys)∧Arr wr (w.heap.size+1+1) (el (List.replicate 16 0))∧Below w.heap.size w wr) (fun kv _=>16-(intOf kv).toNat)
 case atStart=>exact⟨0,by omega,rfl,k1,k2,k3,kb⟩
 case round=>
  clear k1 k2 k3 kb;obtain⟨i,hi,rfl,k1,k2,k3,kb⟩:=hrel
  by_cases bK:i<16
  ·obtain⟨x,gx⟩:∃x,xs[i]? =some x:=⟨_,Fw zct⟩;obtain⟨y,gy⟩:∃y,ys[i]? =some y:=⟨_,Fw (by rw[hy.out];exact bK)⟩;have gz:=J1.out i x y gx gy;have gm:(ea i zs xs)[i]? =some x:=zcu;have GE:=bx.out x (List.mem_of_getElem? gx);have tG:=by'.out y (List.mem_of_getElem? gy)
   have aL:=fE Rm.out gz;replace gx:=zH gx;replace gy:=zH gy;replace gz:=zH gz;replace gm:=zH gm;replace aL:=zH aL;have iw:IntKind.i64.wrap (x-y)=x-y:=i64_in zOm;go_upto_region 4 with(first|refine aR ?_|refine aU ?_)
   refine cH 9 10 fun b9=>?_;refine dz ?_ 1 511 zaJ [0,1,2,3,4,5,6,7,8] (fun w' hB=>by have e0:=k1.below hB;have e1:=k2.below hB;have e2:=k3.below hB;have c1:=(k1.below hB).cell (dU gm.out);have c2:=(k2.below hB).cell (dU gy.out);exact zRd) ?_;obtain⟨k1,k2,k3⟩:=dZ k1 k2 k3 b9;have kb:=az kb b9;have bo:=k1.cell (dU gm.out);have bT:=fun j=>k1.frozen j;refine bf 1023 rfl zDk (fun K hK=>?_);go_simp;refine hK (fun _=>True) 9999 _ _ ?_;clear hK K;try simp only[Act.put]
   try simp only[zSa,zSz,zSs]
   refine ap zKr ?_
   first|refine i6 k1 (fun m9 k1 ad ak=>?_)|refine jC k1 (fun m9 k1 ad ak=>?_)
   exact zd4
  ·obtain rfl:i=16:=zOm;have e:ea 16 zs xs=zs:=zcv;rw[e]at k1;have nt:(el zs).length=16:=(by rw[eI,wJ.out]);replace nt:=zH nt;clear e;go_wp2_with(refine ab rfl _ _ rfl _ rfl zKr _ k1 zcw ?_);refine zQ (cc.out _) fun qD ia=>?_;have k3:=k3.below ia;have kb:=az kb ia;clear ia;go_wp2_with(first|refine aR ?_|refine aU ?_);exact bodyPost_ret (aj Tryz.results113 _ _ _ rfl zKr _ zaE zLn) rfl ⟨rfl,ah kb zOm _⟩
end Go.Proofs.YtgfkgolafkdjfaaGreatDoor
