/- ModelWrong: part 3 of its proof: lemmas and contracts, each with its conditions in its own statement; the last part holds the law itself. -/
import Derived.Test.YtgfkgolafkdjfaaGreatDoorJv02
import Derived.Deep.QuietTactic
import Derived.BigQuiet
import Derived.Laws.Bits64
import Derived.StillTailTactics

set_option maxHeartbeats 4000000
set_option maxRecDepth 100000
namespace Go.Proofs.YtgfkgolafkdjfaaGreatDoor
open Go.RowKit
theorem Cg (a b:Nat) (hb:b<18446744073709551616^4) (w:World):
 Calls Tryz.prog 223 #[.agg (aw 4 a).toArray,.agg (aw 4 b).toArray] w fun e w'=>
  e=.returned (.agg (aw 8 (a%18446744073709551616^4*b)).toArray)∧Below w.heap.size w w':=by
 go_enter Tryz.func223,Tryz.ntmps223;go_upto_region 2 with fail
 refine GB (fun W aB h1 h2 h3 h4 iG=>?_);go_wp2_with fail;go_loopw[12] (fun kv wr=>∃(k:Nat) (ds:List Nat),k≤4∧kv=.int .i64 k∧Arr wr w.heap.size (aw 4 a)∧Arr wr (w.heap.size+1) (aw 4 b)∧Arr wr (w.heap.size+1+1) (List.replicate 8 (.int .u64 0))∧Arr wr (w.heap.size+1+1+1) (us ds)∧Below w.heap.size w wr∧
  ds.length=8∧(∀d∈ds,d<18446744073709551616)∧val 18446744073709551616 ds=a%18446744073709551616^k*b∧(∀p,k+4≤p→p<8→ds[p]? =some 0)) (fun kv _=>4-(intOf kv).toNat)
 case atStart=>exact⟨0,List.replicate 8 0,zA28 _,rfl,h1,h2,h3,h4,iG,rfl,by simp,by rw[qC,Nat.pow_zero,Nat.mod_one,Nat.zero_mul],fun p h0 hp=>by rw[List.getElem?_replicate,if_pos hp]⟩
 case round=>
  obtain⟨k,ds,hk,rfl,k1,k2,k3,k4,kb,aI,bK,oQ,hz⟩:=hrel;clear h1 h2 h3 h4 iG aB
  by_cases hlt4:k<4
  ·have hdk:decide ((k:Int)<4)=true:=zab;obtain⟨x,hx⟩:=zX (a/18446744073709551616^k%18446744073709551616);have vR:x<18446744073709551616:=(by rw[←hx];exact zA1 _ zDc);have JY:=zH hx;have X4:=zH oQ;have hz':=zH hz;have XT:=zH aI;have NI:=zH bK;clear oQ hz aI bK;go_wp2_with fail;go_loopw[7,15] (fun cv jv wr=>∃(j c:Nat) (es:List Nat),j≤4∧c<18446744073709551616∧cv=.int .u64 (c:Int)∧jv=.int .i64 j∧Arr wr w.heap.size (aw 4 a)∧Arr wr (w.heap.size+1) (aw 4 b)∧Arr wr (w.heap.size+1+1) (List.replicate 8 (.int .u64 0))∧Arr wr (w.heap.size+1+1+1) (us es)∧Below w.heap.size w wr∧
    es.length=8∧(∀d∈es,d<18446744073709551616)∧val 18446744073709551616 es+18446744073709551616^(k+j)*c=a%18446744073709551616^k*b+18446744073709551616^k*(x*(b%18446744073709551616^j))∧(∀p,k+4≤p→p<8→es[p]? =some 0)) (fun _ jv _=>4-(intOf jv).toNat)
   case atStart=>exact⟨0,0,ds,zA28 _,by decide,rfl,rfl,k1,k2,k3,k4,kb,XT.out,NI.out,by rw[X4.out,Nat.pow_zero,Nat.mod_one,Nat.mul_zero,Nat.mul_zero,Nat.mul_zero],hz'.out⟩
   case round=>
    obtain⟨j,c,es,hj,hc,rfl,rfl,j1,j2,j3,j4,jb,jlen,jlt,jval,jz⟩:=hrel;clear k1 k2 k3 k4 kb XT NI X4 hz'
    by_cases hj4:j<4
    ·obtain⟨y,hy⟩:∃y,b/18446744073709551616^j%18446744073709551616=y:=⟨_,rfl⟩;have IX:y<18446744073709551616:=(by rw[←hy];exact zA1 _ zDc);have ha:=j1.cell (bQ 4 a k hlt4);have kK:=j2.cell (bQ 4 b j hj4);rw[hx]at ha;rw[hy]at kK;obtain⟨d,hd⟩:∃d,es[k+j]? =some d:=⟨_,zA7 zOm⟩;have Ur:d<18446744073709551616:=jlt d (List.mem_of_getElem? hd);have hdc:=j4.cell (Gz es (k+j) d hd);have oZ:=j4.frozen (k+j);have IW:=zH hy;have Uq:=zH hd;have jlen':=zH jlen;have jlt':=zH jlt;have jval':=zH jval;have jz':=zH jz;clear hx hy hd jlen jlt jval jz;obtain⟨p0,ZP⟩:=zX (x*y%18446744073709551616);obtain⟨p1,Dt⟩:=zX (x*y/18446744073709551616);obtain⟨s1,kQ⟩:=zX ((p0+d)%18446744073709551616);obtain⟨t1,vE⟩:=zX ((p0+d)/18446744073709551616);obtain⟨s2,Dv⟩:=zX ((s1+c)%18446744073709551616);obtain⟨t2,AQ⟩:=zX ((s1+c)/18446744073709551616);have qk:x*y≤18446744073709551615*18446744073709551615:=Nat.mul_le_mul zOm zOm
     have hm:=fun w=>HW x y vR IX w;rw[ZP,Dt]at hm;have a1:=fun w=>Be p0 d w;rw[kQ,vE]at a1;have a2:=fun w=>Be s1 c w;rw[Dv,AQ]at a2;have hm:=zH hm;have a1:=zH a1;have a2:=zH a2;have q0:p0<18446744073709551616:=zOm;have q1:p1+t1+t2<18446744073709551616:=zOm;have ep:s2+18446744073709551616*(p1+t1+t2)=x*y+d+c:=zOm;have ZU:s2<18446744073709551616:=zOm;have ep:=zH ep;clear ZP Dt kQ vE Dv AQ qk;have ik0:(0:Int)≤(k:Int):=zOm;have ik4:(k:Int)<4:=zOm;have ij0:(0:Int)≤(j:Int):=zOm;have ij4:(j:Int)<4:=zOm;go_upto_region 9 with fail
     refine Txt.start ((fun w'=>w'=wr.drew)) 12 rfl zKr ?_;refine Txt.seg (A:=?_) 6 63 zKr (by exact rfl) [0,1,2,3,4,5] zKr ?_ ?_;rotate_left
     ·intro w' hB;subst hB;iterate 6 (first|(refine db rfl rfl ?_;simp only[Act.put,zSa,zSz,zSs])|fail|(refine cj (v:=?_) rfl rfl ?_ ?_;rotate_left;(focus (go_simp;try(with_reducible rfl)));simp only[Act.put,zSa,zSz,zSs]))
      exact eo
     refine Txt.eff 6 127 rfl zDk (fun K hK=>?_);go_simp;refine(hm.out _).mono ?_;rintro e w1 ⟨rfl,rfl⟩;refine hK (fun w'=>w'=wr.drew) _ _ rfl (fun _ h=>h) ?_;clear hK;try simp only[Act.put,zSa,zSz,zSs]
     refine Txt.seg (A:=?_) 0 4095 zKr (by exact rfl) [7,8,9,10,11] zKr ?_ ?_;rotate_left
     ·intro w' hB;subst hB;iterate 5 (first|(refine db rfl rfl ?_;simp only[Act.put,zSa,zSz,zSs])|fail|(refine cj (v:=?_) rfl rfl ?_ ?_;rotate_left;(focus (go_simp;try(with_reducible rfl)));simp only[Act.put,zSa,zSz,zSs]))
      exact eo
     refine Txt.done zKr ?_;go_wp2_with(simp only[a1.out,a2.out]);go_roundw
     case rel=>
      refine⟨j+1,p1+t1+t2,es.set (k+j) s2,by omega,q1,by go_num,by go_num,j1.other zab _,j2.other zac _,j3.other zac _,?_,(jb.drew).setCell zab _,by rw[zA23];exact jlen'.out,Gn jlt'.out ZU,?_,?_⟩
      ·have:=j4.set (k+j) (.int .u64 (s2:Int));rw[K4]at this;exact this
      ·have h1:=rC 18446744073709551616 es (k+j) d s2 Uq.out;have h2:=jval'.out;have h3:=ep.out;have h4:=dv 18446744073709551616 j b;rw[IW.out]at h4;rw[h4,←Nat.add_assoc,zA24];rw[Nat.pow_add]at h1 h2⊢;clear h4 hm a1 a2 jlen' jlt' jval' jz' ep Uq IW j1 j2 j3 j4 jb ha kK hdc oZ;generalize val 18446744073709551616 (es.set (k+j) s2)=V' at*;generalize val 18446744073709551616 es=V at*;generalize 18446744073709551616^j=J at*;generalize a%18446744073709551616^k*b=A at*;generalize 18446744073709551616^k=K at*;generalize b%J=m at*;generalize p1+t1+t2=t at*;have h5:=congrArg (K*J* ·) h3;simp only[Nat.mul_add]at h5⊢;have e1:K*J*18446744073709551616*t=K*J*(18446744073709551616*t):=(by rw[zA26 (K*J)]);have e2:K*(x*(J*y))=K*J*(x*y):=(by rw[zA26 K J,Nat.mul_left_comm x J y]);omega
      ·intro p h1 h2;rw[List.getElem?_set_ne zOm];exact jz'.out p h1 h2
     case measure=>simp[intOf];omega
    ·obtain rfl:j=4:=zOm;have hjf:decide ((4:Int)<4)=false:=zDc;have hcd:=jz (k+4) zOm zOm;have DK:=j4.cell (Gz es (k+4) 0 hcd);have oZ:=j4.frozen (k+4);have jlen':=zH jlen;have jlt':=zH jlt;have jval':=zH jval;have jz':=zH jz;have afF:=zH hcd;clear hx jlen jlt jval jz hcd;go_wp2_with fail;go_roundw
     case rel=>
      refine⟨k+1,es.set (k+4) c,by omega,by go_num,j1.other zab _,j2.other zac _,j3.other zac _,?_,jb.setCell zab _,by rw[zA23];exact jlen'.out,Gn jlt'.out hc,?_,?_⟩
      ·have:=j4.set (k+4) (.int .u64 (c:Int));rw[K4]at this;exact this
      ·have h1:=rC 18446744073709551616 es (k+4) 0 c afF.out;have h2:=jval'.out;have h4:=dv 18446744073709551616 k a;rw[JY.out]at h4;rw[zA4 hb]at h2;rw[h4,Nat.add_mul,zA26];omega
      ·intro p h1 h2;rw[List.getElem?_set_ne zOm];exact jz'.out p zOm h2
     case measure=>simp[intOf];omega
  ·obtain rfl:k=4:=zOm;have e:us ds=aw 8 (a%18446744073709551616^4*b):=by
    have:=jQ 18446744073709551616 zDc ds bK;rw[aI,oQ]at this;rw[Mf,this]
   rw[e]at k4;clear hb hz oQ bK aI e;go_wp2_with(first|(refine eA rfl 232 _ rfl (w.heap.size+1+1+1) rfl _ Tryz.underlying232 rfl _ k4 zao ?_)|(refine aQ rfl 232 _ _ rfl (w.heap.size+1+1) (aw 8 (a%18446744073709551616^4*b)) rfl rfl _ k3 zao (by rw[aF];rfl) (lw _ _) ?_));refine bodyPost_ret (v:=.agg (aw 8 (a%18446744073709551616^4*b)).toArray) (kF Tryz.results223 _ _ (w.heap.size+1+1) _ rfl Tryz.underlying232 rfl _ (k3.setRow _) zao) rfl ⟨rfl,ah kb zOm _⟩
theorem PF (n k:Nat):n/18446744073709551616^(k/64)%18446744073709551616/2^(k%64)%2=n/2^k%2:=by
 have e:(2:Nat)^k=18446744073709551616^(k/64)*2^(k%64):=by
  rw[show(18446744073709551616:Nat)=2^64 by decide,←Nat.pow_mul,←Nat.pow_add];congr 1;omega
 rw[e,←zA22];generalize n/18446744073709551616^(k/64)=m;have e2:(18446744073709551616:Nat)=2^(k%64)*2^(64-k%64):=by
  rw[←Nat.pow_add,show k%64+(64-k%64)=64 by omega]
 conv=>lhs;rw[e2]
 rw[Nat.mod_mul_right_div_self,Nat.mod_mod_of_dvd];exact⟨2^(63-k%64),by rw[←Nat.pow_succ'];congr 1;omega⟩
theorem ol (n k:Nat) (hk:k<256) (w:World):
 CB 206 #[.agg (aw 4 n).toArray,.int .i64 k] w (.int .u64 (n/2^k%2:Nat)):=by
 have JR:(0:Int)≤(k:Int)/64:=zOm;have wI:(k:Int)/64<4:=zOm;obtain⟨x,hx⟩:=zX (n/18446744073709551616^(k/64)%18446744073709551616);have JY:=zH hx;have hc:=bQ 4 n (k/64) zOm;rw[hx]at hc;clear hx;go_enter Tryz.func206,Tryz.ntmps206;go_upto_region 1 with fail
 refine aH (fun W aB h1 iG=>?_);have jX:=h1.cell hc;go_wp2_with fail;go_ret;refine⟨?_,iG⟩;have e:=bits_and_u64_nat (x/2^(k%64)) 1 (by have:=zA21 x (2^(k%64));have:=JY.out;omega) zDc;rw[Nat.and_one_is_mod]at e;have e2:=PF n k;rw[JY.out]at e2;rw[e2]at e;have e3:((x/2^(k%64):Nat):Int)=(x:Int)/2^(k%64):=zac;rw[e3]at e;have e4:bits BinOp.and IntKind.u64 ((x:Int)/2^(k%64)) 1=((n/2^k%2:Nat):Int):=e;simp[e4]
def ou (s a b:Nat):Nat:=if s=1 then b else a
def ea {α:Type} (k:Nat) (xs ys:List α):List α:=xs.take k++ys.drop k
theorem wT {α:Type} {k:Nat} {xs ys:List α} (h:xs.length=ys.length):(ea k xs ys).length=ys.length:=by
 simp only[ea,zA5,zA15,List.length_drop];omega
theorem eO {α:Type} (xs ys:List α):ea 0 xs ys=ys:=by simp[ea]
theorem ij {α:Type} {xs ys:List α} (h:xs.length=ys.length):ea ys.length xs ys=xs:=by simp[ea,←h]
theorem eh {α:Type} {k j:Nat} {xs ys:List α} (h:xs.length=ys.length) (hj:j<ys.length):(ea k xs ys)[j]? =if j<k then xs[j]? else ys[j]? :=by
 unfold ea
 by_cases e:j<k
 ·rw[if_pos e,zA12 zab,List.getElem?_take,if_pos e]
 ·rw[if_neg e,zA2 zab,List.getElem?_drop];congr 1;simp only[zA15];omega
theorem fE {α:Type} {k:Nat} {xs ys:List α} {u:α} (h:xs.length=ys.length) (hu:xs[k]? =some u):(ea k xs ys).set k u=ea (k+1) xs ys:=by
 have hk:k<xs.length:=(zA18.1 hu).1;apply List.ext_getElem?;intro j
 by_cases hj:j<ys.length
 ·rw[List.getElem?_set,eh h hj,eh h hj,wT h]
  by_cases e:k=j
  ·subst e;rw[if_pos rfl,if_pos hj,if_pos zOm,hu]
  ·rw[if_neg e]
   by_cases h2:j<k
   ·rw[if_pos h2,if_pos zOm]
   ·exact zfz
 ·rw[zA13 (by rw[zA23,wT h];omega),zA13 (by rw[wT h];omega)]
theorem Om (s:Nat) (hs:s≤1):IntKind.u64.wrap (-bits BinOp.and IntKind.u64 (s:Int) 1)=((if s=1 then 18446744073709551615 else 0:Nat):Int):=by
 have h:s=0∨s=1:=zOm;rcases h with rfl|rfl<;>decide
theorem Ol (x y s:Nat) (hx:x<18446744073709551616) (hy:y<18446744073709551616):
 bits .xor .u64 (x:Int) (bits .and .u64 ((if s=1 then 18446744073709551615 else 0:Nat):Int) (bits .xor .u64 (x:Int) (y:Int)))=((if s=1 then y else x:Nat):Int):=by
 have qk:x ^^^y<2^64:=zA29 zOm zOm;have ad0:x ^^^y<18446744073709551616:=zOm;rw[bits_xor_u64_nat x y hx hy,bits_and_u64_nat _ _ (by split<;>omega) ad0]
 by_cases h:s=1
 ·rw[if_pos h,if_pos h,show(18446744073709551615:Nat)=2^64-1 by decide,Nat.and_comm,Nat.and_two_pow_sub_one_eq_mod,zA4 qk,bits_xor_u64_nat _ _ hx ad0,←Nat.xor_assoc,Nat.xor_self,Nat.zero_xor]
 ·rw[if_neg h,if_neg h,Nat.zero_and,bits_xor_u64_nat _ _ hx zDc,Nat.xor_zero]
theorem HF (a b s:Nat) (hs:s≤1) (w:World):
 CB 209 #[.agg (aw 4 a).toArray,.agg (aw 4 b).toArray,.int .u64 s] w (.agg (aw 4 (ou s a b)).toArray):=by
 go_enter Tryz.func209,Tryz.ntmps209;go_upto_region 1 with fail
 refine bZ (fun W aB h1 h2 h3 iG=>?_);go_wp2_with fail;rw[Om s hs];obtain⟨m,hm⟩:∃m:Nat,(if s=1 then 18446744073709551615 else 0)=m:=⟨_,rfl⟩;rw[hm];have hpb:=fun x y hx hy=>Ol x y s hx hy;rw[hm]at hpb;obtain⟨r,hr⟩:=zX (ou s a b);have dF:(aw 4 r).length=(aw 4 a).length:=(by rw[aF,aF]);have Uw:=zH hr;have ZF:=zH dF;clear hm hr dF;go_loopw[12] (fun kv wr=>∃k:Nat,k≤4∧kv=.int .i64 k∧Arr wr w.heap.size (ea k (aw 4 r) (aw 4 a))∧Arr wr (w.heap.size+1) (aw 4 b)∧Arr wr (w.heap.size+1+1) (aw 4 0)∧Below w.heap.size w wr) (fun kv _=>4-(intOf kv).toNat)
 case atStart=>exact⟨0,zA28 _,rfl,by rw[eO];exact h1,h2,h3,iG⟩
 case round=>
  obtain⟨k,hk,rfl,k1,k2,k3,kb⟩:=hrel;clear h1 h2 h3 iG aB
  by_cases bK:k<4
  ·obtain⟨x,hx⟩:∃x,a/18446744073709551616^k%18446744073709551616=x:=⟨_,rfl⟩;obtain⟨y,hy⟩:=zX (b/18446744073709551616^k%18446744073709551616);have vR:x<18446744073709551616:=(by rw[←hx];exact zA1 _ zDc);have IX:y<18446744073709551616:=(by rw[←hy];exact zA1 _ zDc);have ha:=k1.cell (j:=k) (u:=.int .u64 x) (by rw[eh ZF.out (by rw[aF];exact bK),if_neg zOm,bQ _ _ _ bK,hx]);have kK:=k2.cell (bQ 4 b k bK);rw[hy]at kK;have oZ:=k1.frozen k;have JY:=zH hx;have IW:=zH hy;clear hx hy;have ik0:(0:Int)≤(k:Int):=zOm;have ik4:(k:Int)<4:=zOm;go_wp2_with fail;go_still_tail 14,zKr;change wpList _ _ _ _ _ wr.drew;have ha2:wr.drew.cell? ⟨w.heap.size,k,none⟩=some (.int .u64 (x:Int)):=ha;have hf2:wr.drew.frozen? ⟨w.heap.size,k,none⟩=false:=oZ;go_wp2_with fail;refine⟨⟨k+1,by omega,by go_num,?_,k2.other zac _,k3.other zab _,(kb.setCell zac _).drew⟩,by simp[intOf];omega⟩
   have:=k1.set k (.int .u64 ((if s=1 then y else x:Nat):Int));rw[fE ZF.out (by rw[bQ _ _ _ bK,←Uw.out,←JY.out,←IW.out];unfold ou;split<;>rfl)]at this;exact this
  ·obtain rfl:k=4:=zOm;have e:=ij ZF.out;rw[aF]at e;rw[e]at k1;clear e;go_wp2_with(first|(refine eA rfl 240 _ rfl w.heap.size rfl _ Tryz.underlying240 rfl _ k1 zao ?_)|(refine aQ rfl 240 _ _ rfl (w.heap.size+1+1) (aw 4 r) rfl rfl _ k3 zao (by rw[aF,aF]) (lw _ _) ?_));refine bodyPost_ret (v:=.agg (aw 4 r).toArray) (kF Tryz.results209 _ _ (w.heap.size+1+1) _ rfl Tryz.underlying240 rfl _ (k3.setRow _) zao) rfl ⟨by rw[Uw.out],ah kb zOm _⟩
end Go.Proofs.YtgfkgolafkdjfaaGreatDoor
