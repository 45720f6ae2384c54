/- ModelWrong: part 24 of its proof: lemmas and contracts, each with its conditions in its own statement; the last part holds the law itself. -/
import Derived.Test.YtgfkgolafkdjfaaGreatDoorJv23
import Derived.OwnWalk
import Derived.Deep.RegionHeld3
import Derived.Deep.CutRange
import Derived.Deep.CutBlock
import Derived.StillTailTactics

set_option maxHeartbeats 8000000
set_option maxRecDepth 100000
namespace Go.Proofs.YtgfkgolafkdjfaaGreatDoor
open Go.RowKit
theorem Sl.take {w:World} {b o n cap m:Nat} {bs:List UInt8} (hm:m≤n) (hn:bs.length=n) (hc:n≤cap) (hx:cap≤maxLen) (h:∀j u,(aJ bs)[j]? =some u→w.cell? ⟨b,o+j,none⟩=some u):
 Sl w (.slice (some ⟨b,o,none⟩) m cap) (aJ (bs.take m)):=by
 have hl:(bs.take m).length=m:=za6;refine⟨some ⟨b,o,none⟩,cap,by rw[ai,hl],by rw[ai,hl];omega,hx,fun h=>zaa,fun x hx=>?_⟩;cases hx;intro j u hu;rw[Addr.add_lit];refine h j u ?_;have hj:j<m:=by
  exact ze7
 rw[←hu];simp[aJ,hj]
theorem V6 (g:Nat) (w:World) (h0:w.cell? ⟨g,0,none⟩=some (.slice none 0 0)) (h1:w.cell? ⟨g,1,none⟩=some (.bool false)) (f0:w.frozen? ⟨g,0,none⟩=false):
 Calls Tryz.prog 119 #[.pointer (some ⟨g,0,none⟩),.int .i64 0] w fun e w'=>e=.returned (.slice none 0 0)∧w'=w.setCell ⟨g,0,none⟩ (.slice none 0 0):=by
 go_enter Tryz.func119,Tryz.ntmps119;go_wp2_with fail;refine uJ ?_;go_wp2_with fail;refine(D8 w).mono ?_;rintro e w1 ⟨rfl,rfl⟩;go_wp2_with fail;try rw[Exit.noGoto_ret]
 go_ret;exact⟨rfl,rfl⟩
def UH (w:World) (g b o cap m:Nat) (rest:List UInt8) (e:Ending) (w':World):Prop:=
 ∃v w1 ao,e=.returned v∧w1.ownsRow w.heap.size 5 1 v m (aJ (rest.take m))∧Below w.heap.size w w1∧(m<rest.length→ao=some ⟨b,o+m,none⟩)∧(∃o',ao=some ⟨b,o',none⟩)∧
  w'=w1.setCell ⟨g,0,none⟩ (.slice ao (rest.length-m) (cap-m))
theorem SI (g b o cap m:Nat) (rest:List UInt8) (w:World) (h0:w.cell? ⟨g,0,none⟩=some (.slice (some ⟨b,o,none⟩) rest.length cap)) (h1:w.cell? ⟨g,1,none⟩=some (.bool false)) (f0:w.frozen? ⟨g,0,none⟩=false)
 (hc:rest.length≤cap) (hx:cap≤maxLen) (hm:m≤rest.length) (hr:rest.length≤140737488355328) (nq:Hid (∀j u,(aJ rest)[j]? =some u→w.cell? ⟨b,o+j,none⟩=some u)):
 Calls Tryz.prog 119 #[.pointer (some ⟨g,0,none⟩),.int .i64 m] w (UH w g b o cap m rest):=by
 have bK:=zA11 w _ h0;have hs:=zH (Sl.take hm rfl hc hx nq.out);have e1:(0:Int)≤(m:Int):=zOm;have e2:(m:Int)≤(rest.length:Int):=zOm;have e3:(rest.length:Int)≤(cap:Int):=zOm;go_enter Tryz.func119,Tryz.ntmps119;go_wp2_with fail;refine uJ ?_;go_wp2_with fail;refine(jy _ (rest.take m) w hs.out za6).mono ?_;rintro e w1 ⟨v1,rfl,cf,ak,-⟩;have g0:=ak.cell (p:=⟨g,0,none⟩) bK;have g1:=ak.frozen (p:=⟨g,0,none⟩) bK;have B9:=zH cf;clear cf;go_wp2_with fail
 all_goals (try rw[Exit.noGoto_ret])
 all_goals go_ret
 ·refine⟨v1,w1,some ⟨b,o,none⟩,rfl,?_,ak,fun h=>by omega,⟨o,rfl⟩,by simp⟩;have:=B9.out;rwa[zA15,Nat.min_eq_left hm]at this
 ·refine⟨v1,w1,some ⟨b,o+m,none⟩,rfl,?_,ak,fun h=>rfl,⟨o+m,rfl⟩,rfl⟩;have:=B9.out;rwa[zA15,Nat.min_eq_left hm]at this
def AF (rest:List UInt8) (bad:Bool) (n:Int):List UInt8×List UInt8×Bool:=
 if bad=true then([],rest,true)else if n<0∨(rest.length:Int)<n then([],[],true)else(rest.take n.toNat,rest.drop n.toNat,false)
def UF (w:World) (g:Nat) (r:List UInt8×List UInt8×Bool) (e:Ending) (w':World):Prop:=
 ∃v,e=.returned v∧w'.ownsRow w.heap.size 5 1 v r.1.length (aJ r.1)∧w.grownBy w' (some g)∧Cur w' g r.2.1 r.2.2
theorem VN {w:World} {base:Nat} {e:TypeId} {size:Nat} {v:Value} {n:Nat} {xs:List Value} {g o:Nat} {u:Value} (h:w.ownsRow base e size v n xs) (hg:g<base):(w.setCell ⟨g,o,none⟩ u).ownsRow base e size v n xs:=
 ownsRow_setCell_below h (by simpa using hg) u
theorem Mx (g:Nat) (rest:List UInt8) (bad:Bool) (n:Int) (w:World) (hc:Cur w g rest bad) (hr:rest.length≤140737488355328):
 Calls Tryz.prog 119 #[.pointer (some ⟨g,0,none⟩),.int .i64 n] w (UF w g (AF rest bad n)):=by
 cases bad with
 |true=>
  refine(AV g rest n w hc).mono ?_;rintro e w' ⟨rfl,rfl⟩;exact⟨_,rfl,World.ownsRow_nil _ _ _ _,World.grownBy.refl _ _,hc⟩
 |false=>
  by_cases hn:n<0∨(rest.length:Int)<n
  ·refine(SH g rest n w hc hn).mono ?_;rintro e w' ⟨rfl,h1,h2⟩;have e1:AF rest false n=([],[],true):=(by simp[AF,hn]);rw[e1];exact⟨_,rfl,World.ownsRow_nil _ _ _ _,h1,h2⟩
  ·have e1:AF rest false n=(rest.take n.toNat,rest.drop n.toNat,false):=(by simp[AF,hn]);rw[e1];obtain⟨m,rfl⟩:∃m:Nat,n=m:=⟨n.toNat,by omega⟩;have hm:m≤rest.length:=zOm;have bK:=hc.lt;obtain⟨v,h0,h1,f0,f1,hb⟩:=hc;rcases hb with⟨rfl,rfl⟩|⟨b,o,cap,rfl,h2,h3,h4,h5,h6⟩
   ·obtain rfl:m=0:=(by simpa using hm);refine(V6 g w h0 h1 f0).mono ?_;rintro e w' ⟨rfl,rfl⟩;refine⟨_,rfl,World.ownsRow_nil _ _ _ _,oW (World.grownBy.refl _ _),.slice none 0 0,?_,?_,?_,?_,.inl ⟨rfl,rfl⟩⟩
    ·rw[World.cell?_setCell_same _ _ _ h0]
    ·rw[World.cell?_setCell_other _ _ _ _ zac];exact h1
    ·rw[World.frozen?_setCell];exact f0
    ·rw[World.frozen?_setCell];exact f1
   ·refine(SI g b o cap m rest w h0 h1 f0 h2 h3 hm hr h6).mono ?_;rintro e w' ⟨v,w1,ao,rfl,k1,k2,k3,⟨o',k4⟩,rfl⟩;simp only[Int.toNat_natCast];have Zn:w1.cell? ⟨g,0,none⟩=some (.slice (some ⟨b,o,none⟩) rest.length cap):=(by rw[k2.cell (p:=⟨g,0,none⟩) bK];exact h0);have aI:(rest.drop m).length=rest.length-m:=List.length_drop;refine⟨v,rfl,?_,oW (DC k2 _),.slice ao (rest.length-m) (cap-m),?_,?_,?_,?_,.inr ⟨b,o',cap-m,by rw[k4,aI],by show(rest.drop m).length≤_;omega,by unfold maxLen at*;omega,h4,?_,?_⟩⟩
    ·rw[zA15,Nat.min_eq_left hm];exact VN k1 bK
    ·rw[World.cell?_setCell_same _ _ _ Zn]
    ·rw[World.cell?_setCell_other _ _ _ _ zac,k2.cell (p:=⟨g,1,none⟩) bK];exact h1
    ·rw[World.frozen?_setCell,k2.frozen (p:=⟨g,0,none⟩) bK];exact f0
    ·rw[World.frozen?_setCell,k2.frozen (p:=⟨g,1,none⟩) bK];exact f1
    ·have:=k2.size;simp only[World.setCell,Array.size_modify];omega
    ·intro j u hu;have hj:j<rest.length-m:=by
      have:=(zA18.1 hu).1;rwa[ai,aI]at this
     have e2:=k3 zOm;rw[k4]at e2;cases e2;rw[World.cell?_setCell_other _ _ _ _ zac,k2.cell (p:=⟨b,o+m+j,none⟩) h5,Nat.add_assoc];refine h6 (m+j) u ?_;rw[←hu];simp[aJ]
theorem SK (bs:List UInt8):IY bs<256^bs.length:=by
 suffices h:∀(bs:List UInt8) (a:Nat),bs.foldl (fun a b=>a*256+b.toNat) a<(a+1)*256^bs.length by simpa[IY]using h bs 0
 intro bs
 induction bs with
 |nil=>intro a;simp
 |cons b bs ih=>
  intro a;simp only[List.foldl_cons,List.length_cons];have h1:=ih (a*256+b.toNat);have h2:=b.toNat_lt;refine zA3 h1 ?_;rw[zA24,Nat.mul_comm (256^bs.length) 256,←zA26];exact Nat.mul_le_mul_right _ zOm
def sgn (n:Nat):Int:=if n<9223372036854775808 then n else(n:Int)-18446744073709551616
theorem aaS {u c:Nat} (hu:u<72057594037927936) (hc:c<256):bits .or .u64 ((u:Int)*256) (c:Int)=((u*256+c:Nat):Int):=by
 have e:((u:Int)*256)=((u*256:Nat):Int):=zOm;rw[e,u64_or_nat _ _ zOm zOm];congr 1;exact nat_join 8 _ _ zOm zOm
theorem Ld {n:Nat} (h:n<18446744073709551616):wrap64 (n:Int)=sgn n:=by
 unfold wrap64 sgn;split<;>omega
def Rr (rest:List UInt8) (bad:Bool):Int×List UInt8×Bool:=(sgn (IY (AF rest bad 8).1),(AF rest bad 8).2)
theorem SG (rest:List UInt8) (bad:Bool) (n:Int):(AF rest bad n).1.length≤n.toNat:=by
 unfold AF;split
 ·simp
 ·split
  ·simp
  ·simp only[zA15];omega
def UG (w:World) (g:Nat) (r:Int×List UInt8×Bool) (e:Ending) (w':World):Prop:=
 e=.returned (.int .i64 r.1)∧w.grownBy w' (some g)∧Cur w' g r.2.1 r.2.2
theorem Ma (g:Nat) (rest:List UInt8) (bad:Bool) (w:World) (hc:Cur w g rest bad) (hr:rest.length≤140737488355328):
 Calls Tryz.prog 120 #[.pointer (some ⟨g,0,none⟩)] w (UG w g (Rr rest bad)):=by
 have hl8:=SG rest bad 8;unfold Rr;generalize hR:AF rest bad 8=R at*;have hR':=zH hR;clear hR;obtain⟨bs,rest',bad'⟩:=R;simp only at hl8⊢;go_enter Tryz.func120,Tryz.ntmps120;go_wp2_with fail;refine(Mx g rest bad 8 w hc hr).mono ?_;rintro e w1 ⟨v1,rfl,cf,hg,Nn⟩;rw[hR'.out]at cf Nn;simp only at cf Nn;have dI:=zH (Sl.of_own cf);have Uy:∃a c,v1=.slice a bs.length c:=by
  obtain⟨a,c,h,_⟩:=Sl.of_own cf;exact⟨a,c,by rw[h,ai]⟩
 obtain⟨a,c,rfl⟩:=Uy;have acX:=zH Nn;have XP:=zH hg;clear cf Nn hg hc hR';have fP:bs.length≤8:=(by simpa using hl8);clear hl8;go_wp2_with fail;go_loop[3,9] (fun uv kv=>∃k:Nat,k≤bs.length∧kv=.int .i64 k∧uv=.int .u64 (IY (bs.take k))) (fun _ kv=>bs.length-(intOf kv).toNat)
 case atStart=>exact⟨0,zA28 _,rfl,rfl⟩
 case round=>
  obtain⟨k,hk,rfl,rfl⟩:=hrel
  by_cases bK:k<bs.length
  ·obtain⟨b,o,rfl,-,-,-,nq⟩:=dI.out.at zaV;have cZ:=nq k _ (eY bs k bK);clear nq;have NH:IY (bs.take k)<72057594037927936:=by
    have h1:=SK (bs.take k);have h2:(bs.take k).length≤7:=za6;have h3:256^(bs.take k).length≤256^7:=Nat.pow_le_pow_right zDc h2;have h4:(256:Nat)^7=72057594037927936:=zDc;omega
   have acS:=bs[k].toNat_lt;have aiz:(IY (bs.take k):Int)<72057594037927936:=zOm;have fA:Hid (IY (bs.take (k+1))=IY (bs.take k)*256+bs[k].toNat):=by
    show _=_
    rw[List.take_add_one,zA7 bK,Option.toList,Ig]
   go_wp2_with fail;exact⟨⟨k+1,by omega,by go_num,by rw[aaS NH acS,fA.out]⟩,by simp[intOf];omega⟩
  ·have hk':k=bs.length:=zOm;subst hk';rw[zA8 (zA0 _)];have FA:IY bs<18446744073709551616:=by
    have h1:=SK bs;have h3:256^bs.length≤256^8:=Nat.pow_le_pow_right zDc fP;have h4:(256:Nat)^8=18446744073709551616:=zDc;omega
   have afy:=zH FA;clear FA;go_wp2_with fail;go_ret;refine⟨?_,XP.out,acX.out⟩;rw[←Ld afy.out];rfl
theorem gL {w w':World} {base:Nat} {v:Value} {n g:Nat} {xs:List Value} {e:TypeId} {size:Nat} (h:w.ownsRow base e size v n xs) (hg:w.grownBy w' (some g)) (hb:g<base):w'.ownsRow base e size v n xs:=
 h.kept hg (by
  cases hv:v.ownBlock with
  |none=>exact .inl rfl
  |some k=>
   have:=(h.lt k hv).1;exact .inr zaf)
def U2 (rest:List UInt8) (bad:Bool):Bool:=!bad&&rest.length==0
theorem Ly (g:Nat) (rest:List UInt8) (bad:Bool) (w:World) (hc:Cur w g rest bad):
 Calls Tryz.prog 123 #[.pointer (some ⟨g,0,none⟩)] w fun e w'=>e=.returned (.bool (U2 rest bad))∧w'=w:=by
 obtain⟨v,h0,h1,f0,f1,hb⟩:=hc;have Uy:∃a c,v=.slice a rest.length c:=zb3;obtain⟨a,c,rfl⟩:=Uy;clear hb;cases bad with
 |true=>
  go_enter Tryz.func123,Tryz.ntmps123;exact zdA
 |false=>
  go_enter Tryz.func123,Tryz.ntmps123;go_wp2_with fail;go_ret;have e:(!false&&rest.length==0)=((rest.length:Int)==0):=(by rw[Bool.eq_iff_iff];simp);exact⟨by rw[U2,e];rfl,rfl⟩
theorem WA {n:Int} (h: -9223372036854775808≤n∧n≤9223372036854775807):sgn (IY (jG n))=n:=by
 rw[Wb];unfold sgn;split<;>omega
theorem Sl.shape {w:World} {v:Value} {bs:List UInt8} (h:Sl w v (aJ bs)):∃a c,v=.slice a bs.length c∧bs.length≤c:=by
 obtain⟨a,c,h1,h2,_⟩:=h;rw[ai]at h1 h2;exact⟨a,c,h1,h2⟩
theorem Sl.cut {w:World} {a:Option Addr} {n c k:Nat} {bs:List UInt8} (h:Sl w (.slice a n c) (aJ bs)) (hk:k≤bs.length):Sl w (.slice a k c) (aJ (bs.take k)):=by
 obtain⟨a',c',h1,h2,h3,h4,h5⟩:=h;simp only[Value.slice.injEq]at h1;obtain⟨rfl,rfl,rfl⟩:=h1;rw[ai]at h2;have hl:(bs.take k).length=k:=za6;refine⟨a,c,by rw[ai,hl],by rw[ai,hl];omega,h3,h4,fun x hx j u hu=>h5 x hx j u ?_⟩;have hj:j<k:=by
  exact ze7
 rw[←hu];simp[aJ,hj]
theorem aeD {w:World} {v:Value} {bs:List UInt8} (h:Sl w v (aJ bs)):(convert 24 9 v).run Tryz.prog w=.ok (.string ⟨bs.toArray⟩) w:=
 mH h _ _ _ Tryz.underlying24 Tryz.underlying5 Tryz.underlying9
def hJ (w:World) (a':Act) (w':World):Prop:=a'.defers=[]∧a'.tmps.size=84∧Below w.heap.size w w'
def bkv (p q:Nat) (kept:Value) (Jo:Int) (dead:Bool):List Value:=[.pointer (some ⟨p,0,none⟩),.pointer (some ⟨q,0,none⟩),kept,.int .i64 Jo,.bool dead]
theorem C3 {P:Program} {f:FuncId} {args:Array Value} {E:Ending} {w:World} (h:Calls P f args w fun e w'=>e=E∧w'=w):Calls P f args w fun e w'=>e=E∧Below w.heap.size w w':=
 h.mono fun _ _ h=>⟨h.1,by rw[h.2];exact zA6 _ _⟩
structure BkAt (w:World) (b p q g r s:Nat) (c m:Int) (kept:Value) (Jo:Nat) (dead:Bool) (F:Fl):Prop where
 bk:Arr w b (bkv p q kept Jo dead)
 ot:Arr w q (VK (some ⟨p,0,none⟩) r s c m)
 fl:FlAt w p g F
 bp:b≠p
 bq:b≠q
 bg:b≠g
 qp:q≠p
 qg:q≠g
 h2:Jo<2
 len:16384≤F.b.length
theorem BkAt.below {w w':World} {b p q g r s:Nat} {c m:Int} {kept:Value} {Jo:Nat} {dead:Bool} {F:Fl} (h:BkAt w b p q g r s c m kept Jo dead F) (hb:Below w.heap.size w w'):BkAt w' b p q g r s c m kept Jo dead F:=
 ⟨h.bk.below hb,h.ot.below hb,h.fl.below hb,h.bp,h.bq,h.bg,h.qp,h.qg,h.h2,h.len⟩
def RCur (w:World) (g:Nat) (v:Value) (bs rest:List UInt8) (bad:Bool):Prop:=
 ∃k:Nat,k≤bs.length∧rest=(if bad=true then[]else bs.drop k)∧w.cell? ⟨g,0,none⟩=some v∧w.cell? ⟨g,1,none⟩=some (.int .i64 k)∧w.cell? ⟨g,2,none⟩=some (.bool bad)∧
  w.frozen? ⟨g,1,none⟩=false∧w.frozen? ⟨g,2,none⟩=false∧Sl w v (aJ bs)∧(0<bs.length→∀a n c,v=.slice (some a) n c→a.block<g)
theorem RCur.lt {w:World} {g:Nat} {v:Value} {bs rest:List UInt8} {bad:Bool} (h:RCur w g v bs rest bad):g<w.heap.size:=by
 obtain⟨k,-,-,h1,_⟩:=h;exact zA11 w _ h1
theorem RCur.below {w w':World} {g:Nat} {v:Value} {bs rest:List UInt8} {bad:Bool} (h:RCur w g v bs rest bad) (hg:Below w.heap.size w w'):RCur w' g v bs rest bad:=by
 have bK:=h.lt;obtain⟨k,h1,h2,h3,h4,h5,h6,h7,h8,h9⟩:=h;exact⟨k,h1,h2,by rw[hg.cell (p:=⟨g,0,none⟩) bK];exact h3,by rw[hg.cell (p:=⟨g,1,none⟩) bK];exact h4,by rw[hg.cell (p:=⟨g,2,none⟩) bK];exact h5,
  by rw[hg.frozen (p:=⟨g,1,none⟩) bK];exact h6,by rw[hg.frozen (p:=⟨g,2,none⟩) bK];exact h7,h8.below hg,h9⟩
theorem Sl.kept {w w':World} {g:Nat} {v:Value} {xs:List Value} (h:Sl w v xs) (hg:w.grownBy w' (some g)) (hv:0<xs.length→∀a n c,v=.slice (some a) n c→a.block<g):Sl w' v xs:=by
 obtain⟨a,c,rfl,h2,h3,h4,h5⟩:=h;refine⟨a,c,rfl,h2,h3,h4,fun x hx j u hu=>?_⟩;subst hx;have hj:=(zA18.1 hu).1;have:=hv zOm x _ _ rfl;refine hg.cell (h5 x rfl j u hu) ?_;have e:(x.add j).block=x.block:=zaP;simp only[ne_eq,Option.some.injEq];rw[e];omega
theorem PO {w:World} {g o j:Nat} {u u0:Value} (h:w.cell? ⟨g,o,none⟩=some u0):(w.setCell ⟨g,o,none⟩ u).cell? ⟨g,j,none⟩=if j=o then some u else w.cell? ⟨g,j,none⟩:=by
 by_cases hj:j=o
 ·subst hj;rw[if_pos rfl,World.cell?_setCell_same _ _ _ h]
 ·rw[if_neg hj,World.cell?_setCell_other _ _ _ _ (fun e=>hj (by cases e;rfl))]
theorem we (n:Int):bits .and .i64 n 255=n%256:=by
 unfold bits;simp only[BitVec.toNat_and];have e:(BitVec.ofInt IntKind.i64.bits 255).toNat=255:=zDc;rw[e];have e2:(BitVec.ofInt IntKind.i64.bits n).toNat=(n%18446744073709551616).toNat:=(by simp[IntKind.bits]);rw[e2,show(255:Nat)=2^8-1 from rfl,Nat.and_two_pow_sub_one_eq_mod _ 8];have h0:0≤n%18446744073709551616:=zOm;rw[IntWalk.i64_in _ zOm];omega
theorem Li (N:Int) (k:Nat) (hk:k<8):bits .and .i64 (N/2^(8*k)) 255%256=(((jG N).getD (7-k) 0).toNat:Int):=by
 rw[we];have hl:7-k<(jG N).length:=(by rw[cg];omega);have e:(jG N).getD (7-k) 0=(jG N)[7-k]:=(by simp[List.getD,zA7 hl]);rw[e];simp only[jG,List.getElem_map,List.getElem_range];rw[show 7-(7-k)=k by omega];have h0:0≤N%18446744073709551616:=zOm;have e3:(UInt8.ofNat ((N%18446744073709551616).toNat/2^(8*k)%256)).toNat=(N%18446744073709551616).toNat/2^(8*k)%256:=zac;rw[e3];have uA:k=0∨k=1∨k=2∨k=3∨k=4∨k=5∨k=6∨k=7:=zOm;rcases uA with rfl|rfl|rfl|rfl|rfl|rfl|rfl|rfl<;>simp only[Nat.reduceMul,Nat.reducePow,Int.reducePow,Nat.mul_zero,Nat.pow_zero,Int.pow_zero]<;>omega
def XAt (w:World) (g:Nat) (N:Int) (k:Nat):Prop:=∀m,m<8→w.cell? ⟨g,m,none⟩=some (.int .u8 (if 8-k≤m then(((jG N).getD m 0).toNat:Int)else 0))∧w.frozen? ⟨g,m,none⟩=false
theorem XAt.start (w:World) (N:Int):XAt (w.alloc (.cells #[.int .u8 0,.int .u8 0,.int .u8 0,.int .u8 0,.int .u8 0,.int .u8 0,.int .u8 0,.int .u8 0] 148)) w.heap.size N 0:=by
 intro m hm;refine⟨?_,World.frozen?_alloc_at _ _ _ _ rfl⟩;rw[if_neg zOm,World.cell?_alloc_at _ _ _ _ rfl];have uA:m=0∨m=1∨m=2∨m=3∨m=4∨m=5∨m=6∨m=7:=zOm;rcases uA with rfl|rfl|rfl|rfl|rfl|rfl|rfl|rfl<;>rfl
theorem XAt.step {w:World} {g:Nat} {N:Int} {k:Nat} (h:XAt w g N k) (hk:k<8):
 XAt (w.setCell ⟨g,7-k,none⟩ (.int .u8 (bits .and .i64 (N/2^(8*k)) 255%256))) g N (k+1):=by
 intro m hm;obtain⟨h1,h2⟩:=h (7-k) zOm;obtain⟨h3,h4⟩:=h m hm;refine⟨?_,(World.frozen?_setCell _ _ _ _).trans h4⟩;rw[PO h1];split
 ·rename_i e;subst e;rw[if_pos zOm,Li N k hk]
 ·rename_i e;rw[h3]
  by_cases h5:8-k≤m
  ·rw[if_pos h5,if_pos zOm]
  ·rw[if_neg h5,if_neg zOm]
theorem XAt.done {w:World} {g:Nat} {N:Int} (h:XAt w g N 8):Sl w (.slice (some ⟨g,0,none⟩) 8 8) (aJ (jG N)):=by
 refine⟨some ⟨g,0,none⟩,8,by rw[ai,cg],by rw[ai,cg];decide,by decide,fun h=>zaa,fun x hx=>?_⟩;cases hx;intro j u hu;have hj:j<8:=by
  have:=(zA18.1 hu).1;rwa[ai,cg]at this
 have hl:j<(jG N).length:=(by rw[cg];exact hj);have h1:=(h j hj).1;rw[if_pos zOm]at h1;rw[Addr.add_lit,Nat.zero_add,h1];rw[eY _ _ hl]at hu;simpa[List.getD,zA7 hl]using hu
theorem agI (N:Int) (k:Nat):N/2^(8*k)/256=N/2^(8*(k+1)):=by
 rw[Int.ediv_ediv_of_nonneg (Int.pow_nonneg zDc),show 8*(k+1)=8*k+8 by omega,Int.pow_add];rfl
theorem OE (vb:Value) (bs:List UInt8) (an:Option Addr) (cn:Nat) (ns:List Int) (w:World) (hb:Sl w vb (aJ bs)) (hn:Sl w (.slice an ns.length cn) (ns.map (.int .i64)))
 (hr:bs.length+8*ns.length≤140737488355328):
 Calls Tryz.prog 41 #[vb,.slice an ns.length cn] w fun e w'=>
  ∃v,e=.returned v∧w'.ownsRow w.heap.size 5 1 v (bs++bS ns).length (aJ (bs++bS ns))∧Below w.heap.size w w':=by
 obtain⟨i,hi,jN,jA,jB⟩:=info_parts ig;have hn':=zH hn;have jW:=zH hb;have Uw:=zH hr;have aI:ns.length≤9223372036854775807:=zOm;clear hn hb hr;go_enter Tryz.func41,Tryz.ntmps41;go_wp2_with(at_builtin;refine dO rfl _ _ 24 rfl w.heap.size 5 Tryz.underlying24 hi jN jA jB rfl _ 0 [] rfl (World.ownsRow_nil _ _ _ _) _ (aJ bs) rfl jW.out (dr _) ?c2 ?c3 (zA0 _) ?_)
 case c2=>have:=Uw.out;unfold maxLen;rw[ai];omega
 case c3=>have:=Uw.out;rw[ai];omega
 intro v1 w1 cf hg;have ak:Below w.heap.size w w1:=(zA6 _ _).grown hg (zA0 _) (fun k hk=>by simp[Value.ownBlock]at hk);have cf:w1.ownsRow w.heap.size 5 1 v1 bs.length (aJ bs):=(by simpa[ai]using cf);clear hg;go_wp2_with fail;go_loopw[5,6] (fun v kv wr=>∃j:Nat,j≤ns.length∧kv=.int .i64 j∧Below w.heap.size w wr∧wr.ownsRow w.heap.size 5 1 v (bs++bS (ns.take j)).length (aJ (bs++bS (ns.take j)))) (fun _ kv _=>ns.length-(intOf kv).toNat)
 case atStart=>exact⟨0,zA28 _,rfl,ak,by simpa[bS]using cf⟩
 case round=>
  obtain⟨j,hj,rfl,Nl,Ei⟩:=hrel;clear ak cf
  by_cases bK:j<ns.length
  ·obtain⟨b,o,rfl,-,-,Nm,nq⟩:=(hn'.out.below Nl).at zab;have cZ:=nq j (.int .i64 ns[j]) (by simp[zA7 bK]);clear nq;obtain⟨wo,rfl⟩:∃wo:World,wo=wr:=⟨_,rfl⟩;have Vh:=zH Ei;clear Ei;go_wp2_with fail;go_loopw[7,9] (fun nv kv wr=>∃k:Nat,k≤8∧kv=.int .i64 (7-(k:Int))∧nv=.int .i64 (ns[j]/2^(8*k))∧Below wo.heap.size wo wr∧wo.heap.size<wr.heap.size∧XAt wr wo.heap.size ns[j] k) (fun _ kv _=>(intOf kv+1).toNat)
   case atStart=>exact⟨0,zA28 _,rfl,by simp,ae _ _,by simp,XAt.start _ _⟩
   case round=>
    obtain⟨k,hk,rfl,rfl,Un,hsi,hx⟩:=hrel
    by_cases Zz:k<8
    ·have h1:(0:Int)≤7-(k:Int):=zOm;have X9:=hx (7-k) zOm;rw[if_neg zOm]at X9;obtain⟨qU,Po⟩:=X9;go_wp2_with fail;refine⟨⟨k+1,by omega,by congr 1;omega,by rw[agI],Un.setCell (zA0 _) _,by simpa using hsi,hx.step Zz⟩,by simp[intOf];omega⟩
    ·have hk:k=8:=zOm;subst hk;have hX:=zH hx.done;have hT1:(bs++bS (ns.take j)).length+8≤140737488355328:=by
      have:=Uw.out;simp only[zA5,de,zA15];omega
     have hT2:=zH hT1;have adt:=zH (dg Vh.out Un);have aB:w.heap.size≤wr.heap.size:=zA14 Nl.size Un.size;have nj:Below w.heap.size w wr:=Nl.trans (Un.mono Nl.size);clear hT1 hx Vh Un;go_wp2_with(at_builtin;refine dO rfl _ _ 24 rfl w.heap.size 5 Tryz.underlying24 hi jN jA jB rfl _ _ _ rfl adt.out _ (aJ (jG ns[j])) rfl hX.out (dr _) ?c2 ?c3 aB ?_)
     case c2=>have:=hT2.out;unfold maxLen;simp[cg,ai]at*;omega
     case c3=>have:=hT2.out;simp[cg,ai]at*;omega
     intro v' w4 QW mT;have Pj:=f9 nj adt.out aB mT;clear nj Nl mT;go_wp2;go_roundw
     case rel=>
      refine⟨j+1,by omega,by go_num,Pj,?_⟩;rw[Lj ns j bK,←zA16,bE _ (jG ns[j]),zA5];rw[ai]at QW;simp only[zA5]at QW⊢;exact QW
     case measure=>simp[intOf];omega
  ·have LY:j=ns.length:=zOm;subst LY;rw[zA8 (zA0 _)]at Ei;go_wp2;go_ret;exact⟨_,rfl,Ei,Nl⟩
theorem rj (vb vn:Value) (bs:List UInt8) (ns:List Int) (w:World) (hb:Sl w vb (aJ bs)) (hn:Sl w vn (ns.map (.int .i64)))
 (hr:bs.length+8*ns.length≤140737488355328):
 Calls Tryz.prog 41 #[vb,vn] w fun e w'=>
  ∃v,e=.returned v∧w'.ownsRow w.heap.size 5 1 v (bs++bS ns).length (aJ (bs++bS ns))∧Below w.heap.size w w':=by
 obtain⟨a,cap,rfl,h⟩:=id hn;rw[List.length_map]at*;exact OE vb bs a cap ns w hb hn hr
theorem oy (n:Int) (w:World):
 Calls Tryz.prog 19 #[.int .i64 n] w fun e w'=>
  ∃v,e=.returned v∧w'.ownsRow w.heap.size 5 1 v 8 (aJ (jG n))∧Below w.heap.size w w':=by
 go_enter Tryz.func19,Tryz.ntmps19;go_wp2_with fail;refine(rj _ _ [] [n] _ (Sl.nil _) (Sl.new1 _ _ _) zac).mono ?_;rintro e w2 ⟨v2,rfl,Hu,XG⟩;have nj:Below w.heap.size w w2:=(ae _ _).trans (XG.mono zac);have adu:w2.ownsRow w.heap.size 5 1 v2 8 (aJ (jG n)):=ej (by simpa[bS,cg]using Hu) zac;clear Hu XG;go_wp2;go_ret;exact⟨_,rfl,adu,nj⟩
structure Stt where
 floor:Int
 rev:List Int
 m0:List UInt8
 d0:Bool
 t0:Int
 m1:List UInt8
 d1:Bool
 t1:Int
 act:Int
structure Sv where
 rv:Value
 m0:Value
 m1:Value
def uf (l:List Int):List Value:=l.map (.int .i64)
theorem s7 (l:List Int):(uf l).length=l.length:=by simp[uf]
theorem HA {l:List Int} {j:Nat} (h:j<l.length):(uf l)[j]? =some (.int .i64 l[j]):=by simp[uf,h]
theorem Ru (l:List Int):∀u∈uf l,u.oneCell'=true:=by
 intro u hu;simp only[uf,List.mem_map]at hu;obtain⟨x,-,rfl⟩:=hu;rfl
def Stt.cs (S:Stt) (v:Sv):List Value:=[.int .i64 S.floor,v.rv,v.m0,.bool S.d0,.int .i64 S.t0,v.m1,.bool S.d1,.int .i64 S.t1,.int .i64 S.act]
structure StOk (w:World) (S:Stt) (v:Sv):Prop where
 rv:Sl w v.rv (uf S.rev)
 m0:Sl w v.m0 (aJ S.m0)
 m1:Sl w v.m1 (aJ S.m1)
theorem StOk.below {w w':World} {S:Stt} {v:Sv} (h:StOk w S v) (hb:Below w.heap.size w w'):StOk w' S v:=⟨h.rv.below hb,h.m0.below hb,h.m1.below hb⟩
structure StOwn (B:Nat) (w:World) (S:Stt) (v:Sv):Prop where
 rv:w.ownsRow B 3 1 v.rv S.rev.length (uf S.rev)
 m0:w.ownsRow B 5 1 v.m0 S.m0.length (aJ S.m0)
 m1:w.ownsRow B 5 1 v.m1 S.m1.length (aJ S.m1)
theorem StOwn.ok {B:Nat} {w:World} {S:Stt} {v:Sv} (h:StOwn B w S v):StOk w S v:=⟨Sl.of_own h.rv,Sl.of_own h.m0,Sl.of_own h.m1⟩
theorem StOwn.below {B:Nat} {w w':World} {S:Stt} {v:Sv} (h:StOwn B w S v) (hb:Below w.heap.size w w'):StOwn B w' S v:=⟨dg h.rv hb,dg h.m0 hb,dg h.m1 hb⟩
theorem StOwn.mono {B B':Nat} {w:World} {S:Stt} {v:Sv} (h:StOwn B w S v) (hb:B'≤B):StOwn B' w S v:=⟨ej h.rv hb,ej h.m0 hb,ej h.m1 hb⟩
theorem StOk.one {w:World} {S:Stt} {v:Sv} (h:StOk w S v):∀u∈S.cs v,u.oneCell'=true:=by
 obtain⟨⟨_,_,h1,-⟩,⟨_,_,h2,-⟩,⟨_,_,h3,-⟩⟩:=h;intro u hu;simp only[Stt.cs,List.mem_cons,List.not_mem_nil,or_false]at hu;rcases hu with rfl|rfl|rfl|rfl|rfl|rfl|rfl|rfl|rfl<;>first|rfl|(rw[h1];rfl)|(rw[h2];rfl)|(rw[h3];rfl)
theorem YB (S:Stt) (v:Sv):(S.cs v).length=9:=rfl
def zw (n:Int):Bool:=decide (0≤n)&&decide (n≤2147483647)
def l5 (m:List UInt8) (d:Bool) (t:Int):Bool:=if m.length=0 then(!d&&decide (t=0))else(decide ((m.length:Int)=300)&&decide (0≤t)&&decide (t≤3))
def Wc (l:List Int) (j:Nat):Prop:=∀i (h:i<l.length),i<j→zw l[i]=true∧∀h0:0<i,l[i-1]<l[i]
structure mayP (S:Stt):Prop where
 floor:zw S.floor=true
 len:S.rev.length≤32
 lo: -1≤S.act
 hi:S.act≤1
 rev:Wc S.rev S.rev.length
 a0:S.act=0→S.m0.length≠0∧S.d0=true
 a1:S.act=1→S.m1.length≠0∧S.d1=true
 s0:l5 S.m0 S.d0 S.t0=true
 s1:l5 S.m1 S.d1 S.t1=true
theorem xl {a b:Bool} (h:a=true↔b=true):Ending.returned (.bool a)=.returned (.bool b):=by rw[Bool.eq_iff_iff.2 h]
theorem vI (n:Int) (w:World):Calls Tryz.prog 148 #[.int .i64 n] w fun e w'=>e=.returned (.bool (zw n))∧w'=w:=by
 unfold zw
 by_cases h:0≤n
 ·exact zfc
 ·exact zfc
theorem qA (v:Value) (m:List UInt8) (d:Bool) (t:Int) (w:World) (hm:Sl w v (aJ m)):
 CB 179 #[.agg #[v,.bool d,.int .i64 t]] w (.bool (l5 m d t)):=by
 obtain⟨x,cap,rfl,h2,h3,-,-⟩:=hm;rw[ai]at*;unfold maxLen at h3
 by_cases h:m.length=0
 ·have hr:l5 m d t=(!d&&decide (t=0)):=(by unfold l5;rw[if_pos h]);rw[hr];have iw:((m.length:Nat):Int)=0:=zOm;rw[h];go_enter Tryz.func179,Tryz.ntmps179;go_upto_region 1 with fail
  refine aH (fun W aB k1 kb=>?_);have e1:=k1.cell (j:=0) rfl;have e2:=k1.cell (j:=1) rfl;have e3:=k1.cell (j:=2) rfl;clear aB;cases d with
  |true=>
   exact zc4
  |false=>
   go_wp2_with fail;go_ret;exact⟨xl zac,kb⟩
 ·have hr:l5 m d t=(decide ((m.length:Int)=300)&&decide (0≤t)&&decide (t≤3)):=(by unfold l5;rw[if_neg h]);rw[hr];have iw:¬((m.length:Nat):Int)=0:=zOm;generalize m.length=n at*;clear hr h;go_enter Tryz.func179,Tryz.ntmps179;go_upto_region 1 with fail
  refine aH (fun W aB k1 kb=>?_);have e1:=k1.cell (j:=0) rfl;have e2:=k1.cell (j:=1) rfl;have e3:=k1.cell (j:=2) rfl;clear aB
  by_cases c1:(n:Int)=300
  ·by_cases c2:0≤t
   ·exact zfn
   ·exact zfn
  ·exact zfn
theorem acg {w:World} {g:Nat} {S:Stt} {v:Sv} (k:Arr w g (S.cs v)):w.rangeAt g 2 [v.m0,.bool S.d0,.int .i64 S.t0]:=
 k.range (fun j hj=>by rcases j with _|_|_|j<;>first|rfl|(simp only[List.length_cons,List.length_nil]at hj;omega))
theorem Lp {w:World} {g:Nat} {S:Stt} {v:Sv} (k:Arr w g (S.cs v)):w.rangeAt g 5 [v.m1,.bool S.d1,.int .i64 S.t1]:=
 k.range (fun j hj=>by rcases j with _|_|_|j<;>first|rfl|(simp only[List.length_cons,List.length_nil]at hj;omega))
theorem OG {l:List Int} {j:Nat} (h:Wc l j) (hj:j<l.length) (h1:zw l[j]=true) (h2:∀h0:0<j,l[j-1]<l[j]):Wc l (j+1):=by
 intro i hi xN
 by_cases e:i=j
 ·subst e;exact⟨h1,h2⟩
 ·exact h i hi zOm
theorem Vq {n m:Int} (e:n=m) (h: -9223372036854775808≤m∧m≤9223372036854775807):IntKind.i64.wrap n=m:=by rw[e];exact i64_in h
theorem xw {w:World} {v:Value} {xs:List Value} (h:Sl w v xs):∃a cap,v=.slice a xs.length cap∧xs.length≤cap∧cap≤9223372036854775807:=by
 obtain⟨a,cap,h1,h2,h3,-⟩:=h;exact⟨a,cap,h1,h2,by unfold maxLen at h3;omega⟩
def EX (S:Stt) (w:World) (e:Ending) (w':World):Prop:=∃r,e=.returned (.bool r)∧(r=true↔mayP S)∧Below w.heap.size w w'
theorem Vw (S:Stt) (v:Sv) (w:World) (h:StOk w S v):
 Calls Tryz.prog 133 #[.agg (S.cs v).toArray] w (EX S w):=by
 obtain⟨f,l,m0,d0,t0,m1,d1,t1,a⟩:=S;obtain⟨vr,v0,v1⟩:=v;obtain⟨hr,h0,h1⟩:=h;simp only at hr h0 h1;obtain⟨ar,cr,rfl,jX,pH⟩:=xw hr;obtain⟨a0,c0,rfl,IR,hc4⟩:=xw h0;obtain⟨a1,c1,rfl,hc5,hc6⟩:=xw h1;rw[s7]at hr jX;rw[ai]at h0 IR h1 hc5;simp only[s7,ai];have vC:∀(w':World),¬mayP ⟨f,l,m0,d0,t0,m1,d1,t1,a⟩→Below w.heap.size w w'→EX ⟨f,l,m0,d0,t0,m1,d1,t1,a⟩ w (.returned (.bool false)) w':=fun w' h1 h2=>⟨false,rfl,by simp[h1],h2⟩;have ud:=fun b c d e u g i j k=>(mayP.mk (S:=⟨f,l,m0,d0,t0,m1,d1,t1,a⟩) b c d e u g i j k);simp only at ud;replace hr:=zH hr;replace h0:=zH h0;replace h1:=zH h1;replace vC:=zH vC;replace ud:=zH ud;go_enter Tryz.func133,Tryz.ntmps133;go_upto_region 1 with fail
 refine aH (fun W aB k1 kb=>?_);have k1:Arr W w.heap.size (Stt.cs ⟨f,l,m0,d0,t0,m1,d1,t1,a⟩ ⟨.slice ar l.length cr,.slice a0 m0.length c0,.slice a1 m1.length c1⟩):=k1;have x0:=k1.cell (j:=0) rfl;have x1:=k1.cell (j:=1) rfl;have x2:=k1.cell (j:=2) rfl;have x3:=k1.cell (j:=3) rfl;have x5:=k1.cell (j:=5) rfl;have x6:=k1.cell (j:=6) rfl;have x8:=k1.cell (j:=8) rfl;simp only at x0 x1 x2 x3 x5 x6 x8;have r0:=acg k1;have r1:=Lp k1;simp only at r0 r1;clear aB;replace k1:=zH k1;replace r0:=zH r0;replace r1:=zH r1;go_wp2_with fail;refine(vI _ _).mono ?_;rintro e w' ⟨rfl,hw⟩;rw[hw];clear hw w'
 by_cases q1:zw f=true
 rotate_left
 ·rw[show zw f=false by simpa using q1];go_wp2_with fail;go_ret;exact vC.out _ (fun h=>q1 h.floor) kb
 rw[q1];have q1:=zH q1
 by_cases q2:32<l.length
 ·have iw:(32:Int)<(l.length:Int):=zOm;go_wp2_with fail;go_ret;exact vC.out _ (fun h=>by have:=h.len;simp only at this;omega) kb
 by_cases q3:a< -1
 ·have iw:¬(32:Int)<(l.length:Int):=zOm;go_wp2_with fail;go_ret;exact vC.out _ (fun h=>by have:=h.lo;simp only at this;omega) kb
 by_cases q4:2≤a
 ·have iw:¬(32:Int)<(l.length:Int):=zOm;go_wp2_with fail;go_ret;exact vC.out _ (fun h=>by have:=h.hi;simp only at this;omega) kb
 have iw:¬(32:Int)<(l.length:Int):=zOm;have aI:l.length≤32:=zOm;have iw2:¬a< -1:=q3;have iw3:¬2≤a:=q4;go_wp2_with fail;go_loopw[28] (fun jv wr=>wr=W∧∃j:Nat,j≤l.length∧jv=.int .i64 j∧Wc l j) (fun jv _=>l.length-(intOf jv).toNat)
 case atStart=>exact⟨rfl,0,by omega,rfl,fun i _ h=>absurd h zOm⟩
 case round=>
  obtain⟨hwr,j,hj,rfl,Q7⟩:=hrel;rw[hwr];clear hwr wr;have Q7:=zH Q7
  by_cases bK:j<l.length
  ·obtain⟨b,o,rfl,-,-,-,np⟩:=hr.out.at (by rw[s7];omega);have Aa:=np j _ (HA bK);have hw0:W.cell? ⟨b,o+j,none⟩=some (.int .i64 l[j]):=(by rw[kb.cell (zA11 w _ Aa)];exact Aa);have fA:=zH (OG Q7.out bK);have Jp:¬(zw l[j]=true∧∀h0:0<j,l[j-1]<l[j])→¬mayP ⟨f,l,m0,d0,t0,m1,d1,t1,a⟩:=fun h1 h2=>h1 (h2.rev j bK bK);replace Jp:=zH Jp;cases j with
   |zero=>
    obtain⟨z,hz⟩:=zX (l[0]);simp only[hz,Nat.add_zero]at hw0 fA Jp;clear Aa np;replace hz:=zH hz;go_wp2_with fail;refine(vI _ _).mono ?_;rintro e w' ⟨rfl,hw⟩;rw[hw];clear hw w'
    by_cases q5:zw z=true
    ·rw[q5];go_wp2_with fail;refine⟨⟨by trivial,1,by omega,rfl,?_⟩,by simp[intOf];omega⟩;exact fA.out q5 (fun h=>absurd h zOm)
    ·exact zeT
   |succ i=>
    have Qp:=np i _ (HA (show i<l.length by omega));have Rf:W.cell? ⟨b,o+i,none⟩=some (.int .i64 l[i]):=(by rw[kb.cell (zA11 w _ Qp)];exact Qp);obtain⟨z,hz⟩:=zX (l[i+1]);obtain⟨y,hy⟩:=zX (l[i]);simp only[Nat.add_sub_cancel,hz,hy]at hw0 Rf fA Jp;clear Aa np Qp;replace hz:=zH hz;replace hy:=zH hy;have iwj:IntKind.i64.wrap ((i:Int)+1-1)=(i:Int):=Vq zOm zOm;go_wp2_with fail;refine(vI _ _).mono ?_;rintro e w' ⟨rfl,hw⟩;rw[hw];clear hw w'
    by_cases q5:zw z=true
    ·rw[q5]
     by_cases q6:y<z
     ·have q7:¬z≤y:=zOm;go_wp2_with fail;refine⟨⟨by trivial,i+1+1,by omega,by go_num,?_⟩,by simp[intOf];omega⟩;exact fA.out q5 (fun _=>q6)
     ·have q7:z≤y:=zOm;go_wp2_with fail;go_ret;exact vC.out _ (Jp.out (fun h=>by have:=h.2 zOm;omega)) kb
    ·exact zeT
  ·obtain rfl:j=l.length:=zOm;go_upto_region 9 with fail
   clear bK hj;have ha:a= -1∨a=0∨a=1:=zOm;clear q2 q3 q4 iw iw2 iw3;rcases ha with rfl|rfl|rfl
   ·have BX:=zH (fun b0 b1=>ud.out q1.out aI zDc zDc Q7.out (fun h=>absurd h zac) (fun h=>absurd h zac) b0 b1);clear ud;go_upto_region 11 with fail
    go_wp2_with(first|(refine aE rfl _ _ rfl _ _ rfl zKr _ r0.out zLn ?_)|fail);refine zQ (qA _ _ _ _ _ (h0.out.below kb)) fun w3 nj=>?_;have r1:=zH (Lp (k1.out.below nj));have kb:=az kb nj;clear nj x0 x1 x2 x3 x5 x6 x8 r0 k1;cases s0:l5 m0 d0 t0 with
    |false=>
     exact zdM
    |true=>
     have s0:=zH s0;go_wp2_with(first|(refine aE rfl _ _ rfl _ _ rfl zKr _ r1.out zLn ?_)|fail);refine zQ (qA _ _ _ _ _ (h1.out.below kb)) fun w4 Pj=>?_;have kb:=az kb Pj;clear Pj r1;cases s1:l5 m1 d1 t1 with
     |false=>
      exact zd7
     |true=>
      exact zdS
   ·by_cases q2:m0.length=0
    ·have iw:((m0.length:Nat):Int)=0:=zOm;go_wp2_with fail;go_ret;exact vC.out _ (fun h=>(h.a0 rfl).1 q2) kb
    have iw:¬((m0.length:Nat):Int)=0:=zOm;cases d0 with
    |false=>
     go_wp2_with fail;go_ret;exact vC.out _ (fun h=>by have:=(h.a0 rfl).2;simp at this) kb
    |true=>
     have BX:=zH (fun b0 b1=>ud.out q1.out aI zDc zDc Q7.out (fun _=>⟨q2,rfl⟩) (fun h=>absurd h zDc) b0 b1);clear ud;go_upto_region 11 with fail
     go_wp2_with(first|(refine aE rfl _ _ rfl _ _ rfl zKr _ r0.out zLn ?_)|fail);refine zQ (qA _ _ _ _ _ (h0.out.below kb)) fun w3 nj=>?_;have r1:=zH (Lp (k1.out.below nj));have kb:=az kb nj;clear nj x0 x1 x2 x3 x5 x6 x8 r0 k1;cases s0:l5 m0 true t0 with
     |false=>
      exact zdM
     |true=>
      have s0:=zH s0;go_wp2_with(first|(refine aE rfl _ _ rfl _ _ rfl zKr _ r1.out zLn ?_)|fail);refine zQ (qA _ _ _ _ _ (h1.out.below kb)) fun w4 Pj=>?_;have kb:=az kb Pj;clear Pj r1;cases s1:l5 m1 d1 t1 with
      |false=>
       exact zd7
      |true=>
       exact zdS
   ·by_cases q2:m1.length=0
    ·have iw:((m1.length:Nat):Int)=0:=zOm;go_wp2_with fail;go_ret;exact vC.out _ (fun h=>(h.a1 rfl).1 q2) kb
    have iw:¬((m1.length:Nat):Int)=0:=zOm;cases d1 with
    |false=>
     go_wp2_with fail;go_ret;exact vC.out _ (fun h=>by have:=(h.a1 rfl).2;simp at this) kb
    |true=>
     have BX:=zH (fun b0 b1=>ud.out q1.out aI zDc zDc Q7.out (fun h=>absurd h zDc) (fun _=>⟨q2,rfl⟩) b0 b1);clear ud;go_upto_region 11 with fail
     go_wp2_with(first|(refine aE rfl _ _ rfl _ _ rfl zKr _ r0.out zLn ?_)|fail);refine zQ (qA _ _ _ _ _ (h0.out.below kb)) fun w3 nj=>?_;have r1:=zH (Lp (k1.out.below nj));have kb:=az kb nj;clear nj x0 x1 x2 x3 x5 x6 x8 r0 k1;cases s0:l5 m0 d0 t0 with
     |false=>
      exact zdM
     |true=>
      have s0:=zH s0;go_wp2_with(first|(refine aE rfl _ _ rfl _ _ rfl zKr _ r1.out zLn ?_)|fail);refine zQ (qA _ _ _ _ _ (h1.out.below kb)) fun w4 Pj=>?_;have kb:=az kb Pj;clear Pj r1;cases s1:l5 m1 true t1 with
      |false=>
       exact zd7
      |true=>
       exact zdS
end Go.Proofs.YtgfkgolafkdjfaaGreatDoor
