/- ModelWrong: part 42 of its proof: lemmas and contracts, each with its conditions in its own statement; the last part holds the law itself. -/
import Derived.Test.YtgfkgolafkdjfaaGreatDoorJv41

set_option maxHeartbeats 4000000
set_option maxRecDepth 100000
namespace Go.Proofs.YtgfkgolafkdjfaaGreatDoor
open Go.RowKit
def OBs (B:Nat) (w:World) (v:Value) (ls:List (List UInt8)):Prop:=∃us,w.ownsRow B 24 1 v ls.length us∧∀(j:Nat) (x:Value) (b:List UInt8),us[j]? =some x→ls[j]? =some b→OB B w x b
theorem OBs.below {B:Nat} {w w':World} {v:Value} {ls:List (List UInt8)} (h:OBs B w v ls) (hb:Below w.heap.size w w'):OBs B w' v ls:=by
 obtain⟨us,h1,h2⟩:=h;exact⟨us,dg h1 hb,fun j x b hx hl=>(h2 j x b hx hl).below hb⟩
theorem OBs.mono {B C:Nat} {w:World} {v:Value} {ls:List (List UInt8)} (h:OBs B w v ls) (hb:C≤B):OBs C w v ls:=by
 obtain⟨us,h1,h2⟩:=h;exact⟨us,ej h1 hb,fun j x b hx hl=>(h2 j x b hx hl).mono hb⟩
theorem OBs.nil (B:Nat) (w:World):OBs B w (.slice none 0 0) []:=⟨[],World.ownsRow_nil _ _ _ _,fun j x b hx=>by simp at hx⟩
theorem OBs.sls {B:Nat} {w:World} {v:Value} {ls:List (List UInt8)} (h:OBs B w v ls):Sls w v ls:=by
 obtain⟨us,h1,h2⟩:=h;exact⟨us,Sl.of_own h1,by have:=h1.1;omega,fun j a b ha hb=>(h2 j a b ha hb).sl⟩
theorem OBs.shp {B:Nat} {w:World} {v:Value} {ls:List (List UInt8)} (h:OBs B w v ls):∃a c,v=.slice a ls.length c:=by
 obtain⟨us,h1,-⟩:=h;exact rc h1
theorem IM {W w:World} {ops:Array Oper} {rest:List Oper} {o:Oper} {a:Act} {Q:Exit→Act→World→Prop} {v u:Value} {ls:List (List UInt8)} {b:List UInt8} {n:Nat} {T:TypeId} (qi:o.guard=none) (s x:Operand)
 (ho:o.op=.call {callee:=.builtin .append,args:=#[s,x],argTypes:=#[25,25]}) (hs:a.eval s=v) (hx:a.eval x=.slice (some ⟨n,0,none⟩) 1 1) (hn:w.heap.size=n) (cf:OBs W.heap.size w v ls) (hu:OB W.heap.size w u b) (kb:Below W.heap.size W w) (hl:ls.length≤1000)
 (h:∀v' w',OBs W.heap.size w' v' (ls++[b])→Below W.heap.size W w'→wpList Tryz.prog ops Q rest (a.put o.dst v') w'):wpList Tryz.prog ops Q (o::rest) a (w.alloc (.cells #[u] T)):=by
 subst hn;obtain⟨us,h1,h2⟩:=cf;obtain⟨i0,hi,jN,jA,jB⟩:=info_parts wO;obtain⟨du,cu,rfl⟩:=hu.shp;have BG:=ae w (.cells #[.slice du b.length cu] T);have h1a:=dg h1 BG;have Z0:us.length=ls.length:=(by have:=h1.1;omega);refine dO qi s x 25 ho W.heap.size 24 Tryz.underlying25 hi jN jA jB rfl v ls.length us hs h1a _ [.slice du b.length cu] hx (Sl.new1 w _ _) (fun y hy=>by rw[List.mem_singleton.1 hy];rfl) (by unfold maxLen;simp;omega) zab (by have:=kb.size;simp;omega) (fun v' w' h3 hg=>?_);have hk:=kb.alloc kb.size (.cells #[.slice du b.length cu] T);refine h v' w' ⟨us++[.slice du b.length cu],by rw[zA5];exact h3,fun j y c hy hc=>?_⟩ (f9 hk h1a hk.size hg)
 by_cases hj:j<ls.length
 ·rw[zA12 zOm]at hy;rw[zA12 hj]at hc;have h4:=(h2 j y c hy hc).below BG;exact h4.kept hg (Si zDc h4 h1a)
 ·have Av:j=ls.length:=by
   have:=(zA18.1 hc).1;simp at this;omega
  subst Av;rw[zA2 zOm,Z0,Nat.sub_self]at hy;rw[zA2 zOm,Nat.sub_self]at hc;cases hy;cases hc;have h4:=hu.below BG;exact h4.kept hg (Si zDc h4 h1a)
theorem Lc {w:World} {ops:Array Oper} {rest:List Oper} {o:Oper} {a:Act} {Q:Exit→Act→World→Prop} {B g n:Nat} {vs:Value} {bs cs:List UInt8} (hw:Region.wanted o (yielded ops a.tmps)=true) (d s:Operand)
 (ho:o.op=.call {callee:=.builtin .copy,args:=#[d,s],argTypes:=#[24,24]}) (hd:a.eval d=.slice (some ⟨g,0,none⟩) n n) (hs:a.eval s=vs) (cf:OB B w (.slice (some ⟨g,0,none⟩) n n) bs) (hn:bs.length=n) (dI:Sl w vs (aJ cs))
 (h:∀W m,OB B W (.slice (some ⟨g,0,none⟩) n n) (cs.take n++bs.drop (cs.take n).length)→w.grownBy W (some g)→wpList Tryz.prog ops Q rest (a.put o.dst m) W):wpList Tryz.prog ops Q (o::rest) a w:=by
 subst hn;obtain⟨h1,⟨h2,-⟩|⟨g',cap,cur,h2,h3,h4,h5,h6,h7,h8⟩⟩:=cf
 ·cases h2
 cases h2;rw[Nat.mul_one]at h7 h8;have Nn:cur.toList=aJ bs:=(by rw[←h8,zA8 zab]);have hA:Arr w g (aJ bs):=⟨5,by rw[h4,←Nn,Array.toArray_toList]⟩;refine nc hw d s 24 24 ho 5 Tryz.underlying24 zKr g 0 bs.length bs.length hd (aJ bs) hA zaV vs hs (aJ cs) dI (dr _) ?_;have e:(aJ bs).take 0++(aJ cs).take bs.length++(aJ bs).drop (0+((aJ cs).take bs.length).length)=aJ (cs.take bs.length++bs.drop (cs.take bs.length).length):=by
  rw[List.take_zero,List.nil_append,Nat.zero_add,bE];simp[aJ,List.map_take,List.map_drop]
 have hl:(cs.take bs.length++bs.drop (cs.take bs.length).length).length=bs.length:=zab;rw[e];refine h _ _ ⟨by rw[ai,hl,Nat.mul_one],.inr ⟨g,_,_,by rw[hl],h3,setRow_heap w g cur _ _ _ h4,by rw[hl];exact zA0 _,h6,by simp[ai];omega,?_⟩⟩ (mW w g _);rw[Nat.mul_one,zA8 (by simp[ai])]
theorem M4 (bs:List UInt8) (i:Nat):(bs.drop (64*i)).take 64++(List.replicate 64 (0:UInt8)).drop ((bs.drop (64*i)).take 64).length=jP bs i:=by
 rw[List.drop_replicate];rfl
theorem SJ (a:Option Addr) (c:Nat) (bs:List UInt8) (h0:0<bs.length) (hL:bs.length≤2048) (w:World) (h:Sl w (.slice a bs.length c) (aJ bs)):
 Calls Tryz.prog 54 #[.slice a bs.length c] w fun e w'=>∃v,e=.returned (.tuple #[v,.int .i64 0])∧OBs w.heap.size w' v ((List.range (mr bs.length)).map (jP bs))∧Below w.heap.size w w':=by
 have ud:∀w:World,(Instr.makeSlice 24 (.int .i64 64) (.int .i64 64)).run Tryz.prog w=.ok (.slice (some ⟨w.heap.size,0,none⟩) 64 64) (w.alloc (.cells (aJ (List.replicate 64 0)).toArray 5)):=fun w=>mN 64 zDc w;obtain⟨n,hn⟩:=zX (mr bs.length);have L5:1≤n∧n≤32∧bs.length≤64*n∧64*n<bs.length+64:=(by rw[←hn,mr,if_neg zOm,xd];omega);obtain⟨b,o,rfl,-,NF,ye,-⟩:=h.at (by rw[ai];exact h0);rw[hn];have aI:=h.len;rw[ai]at aI;clear NF ye;have hT:=zH (fun w' m (hb:Below w.heap.size w w') (hm:m≤bs.length)=>(h.below hb).tail (m:=m) hm);have np:=zH (M4 bs);obtain⟨L,hLe⟩:=zX bs.length;rw[hLe]at hT L5 h0 hL aI⊢;have hL2:¬(2048:Int)<(L:Int):=zOm;clear h hn hLe;go_enter Tryz.func54,Tryz.ntmps54;go_wp2_with fail;go_loopw[4,5] (fun ov fv wr=>∃i:Nat,i≤n∧fv=.int .i64 ((64*i:Nat):Int)∧OBs w.heap.size wr ov ((List.range i).map (jP bs))∧Below w.heap.size w wr) (fun _ fv _=>64*n-(intOf fv).toNat)
 case atStart=>exact⟨0,by omega,rfl,OBs.nil _ _,zA6 _ _⟩
 case round=>
 obtain⟨i,hi,rfl,ho,kb⟩:=hrel;obtain⟨f,hf⟩:=zX (64*i);rw[hf]
 by_cases iS:i<n
 ·have hp:f<L:=zOm;have hfc:(0:Int)≤(f:Int)∧¬(f:Int)<0∧(f:Int)≤(L:Int):=zOm;have aik:¬c=f:=zOm;have dF:=zH (show(List.replicate 64 (0:UInt8)).length=64 by simp);have hT2:=zH (fun w' hb=>hT.out w' f hb zOm);have hci:=np.out i;rw[hf]at hci;replace hci:=zH hci;replace hf:=zH hf;go_upto_region 8 with fail
  have o6:=OB.new (B:=w.heap.size) wr (List.replicate 64 0) kb.size zac;rw[dF.out]at o6;have BG:=ae wr (.cells (aJ (List.replicate 64 0)).toArray 5);go_upto_region 9 with(refine Lc rfl _ _ rfl rfl rfl o6 dF.out (hT2.out _ (az kb BG)) (fun w3 m o6 hg=>?_))
  rw[hci.out]at o6;have hb:=aq BG hg (zA0 _) BG.size;replace ho:=ho.below hb;replace kb:=az kb hb;replace o6:OB w.heap.size w3 _ (jP bs i):=o6;clear BG hg hb hT2;go_wp2_with(at_builtin;refine IM (W:=w) rfl _ _ rfl rfl rfl rfl ho o6 kb zab (fun v w4 ho kb=>?_));have e:(List.range i).map (jP bs)++[jP bs i]=(List.range (i+1)).map (jP bs):=(by rw[List.range_succ,List.map_append];rfl);rw[e]at ho;have:=hf.out;exact⟨⟨i+1,by omega,by congr 1;omega,ho,kb⟩,by simp[intOf];omega⟩
 ·have hp:¬f<L∧¬f=0:=zOm;have jM:Hid (i=n):=zH zOm;rw[jM.out]at ho;go_wp2_with fail;go_ret2;exact⟨_,rfl,ho,kb⟩
theorem OI (K:Nat) (v:Int) (a:Option Addr) (c:Nat) (bs:List UInt8) (h0:0<bs.length) (hL:bs.length≤2048) (hv:0≤v∧v≤2147483647) (w:World) (h:Sl w (.slice a bs.length c) (aJ bs)):
 Calls Tryz.prog 31 #[.agg (ag 32 K).toArray,.int .i64 v,.slice a bs.length c] w fun e w'=>∃u,e=.returned (.tuple #[u,.int .i64 0])∧OBs w.heap.size w' u (oN K v bs)∧Below w.heap.size w w':=by
 have cC:=zH (fun w h=>SJ a c bs h0 hL w h);have cS:=zH (fun(i:Nat) (hi:i<32) a c w h=>Kw K v i a c (jP bs i) (xU bs i) hv zOm w h);obtain⟨n,hn⟩:=zX (mr bs.length);have L5:n≤32:=(by rw[←hn,mr,if_neg zOm,xd];omega);have hE:Hid ((List.range n).map (fun(i:Nat)=>kd K v i (jP bs i))=oN K v bs):=zH (by rw[oN,hn]);rw[hn]at cC;have vA:Hid (((List.range n).map (jP bs)).length=n∧∀i (h:i<((List.range n).map (jP bs)).length),((List.range n).map (jP bs))[i]=jP bs i):=zH ⟨by simp,fun i h=>by simp⟩;obtain⟨ls,adj⟩:=zX ((List.range n).map (jP bs));rw[adj]at cC vA;obtain⟨E,hEe⟩:=zX (oN K v bs);rw[hEe]at hE⊢;have lU:=zH (xU bs);obtain⟨L,hLe⟩:=zX bs.length;rw[hLe]at cC h⊢;replace h:=zH h;clear h0 hL hv hn adj hEe hLe;go_enter Tryz.func31,Tryz.ntmps31;go_upto_region 1 with fail
 refine aH (fun W aB k3 kb=>?_);replace k3:Arr W w.heap.size (ag 32 K):=k3;clear aB;go_wp2_with fail;refine(cC.out _ (h.out.below kb)).mono ?_;rintro e w1 ⟨d,rfl,hS,hb⟩;obtain⟨a1,c1,rfl⟩:=hS.shp;have hSl:=hS.sls;rw[vA.out.1]at hSl⊢;replace k3:=zH (k3.below hb);replace kb:=az kb hb;replace hSl:=zH hSl;clear hb cC h hS;go_wp2_with fail;go_loopw[10,11] (fun ov iv wr=>∃i:Nat,i≤n∧iv=.int .i64 (i:Int)∧OBs w1.heap.size wr ov ((List.range i).map (fun(i:Nat)=>kd K v i (jP bs i)))∧Below w1.heap.size w1 wr) (fun _ iv _=>n-(intOf iv).toNat)
 case atStart=>exact⟨0,by omega,rfl,OBs.nil _ _,zA6 _ _⟩
 case round=>
 obtain⟨i,hi,rfl,ho,hB⟩:=hrel
 by_cases bK:i<n
 ·have i0':(0:Int)≤(i:Int):=zOm;have i1':(i:Int)<(n:Int):=zOm;obtain⟨b',o',x',cx,hE2,cZ,hLs⟩:=(hSl.out.below hB).at (j:=i) (by rw[vA.out.1];exact bK);cases hE2;rw[vA.out.2 i,lU.out]at cZ hLs;have hLs:=zH hLs;have k3r:=k3.out.below hB;have cSi:=zH (fun w' hb=>cS.out i zOm x' cx w' (hLs.out.below hb));clear hLs;go_upto_region 8 with fail
  refine cH 9999 13 fun aP=>?_;refine dz ?_ 6 127 zaD [0,1,2,3,4,5,6] (fun w' hB=>by have y3:=k3r.below hB;have yc:w'.cell? ⟨b',o'+i,none⟩=some (.slice x' 64 cx):=(by rw[hB.cell (zA11 _ _ cZ)];exact cZ);exact zRd) ?_;have hM:=(az hB aP).size;refine aY 7 255 rfl zDk (fun K hK=>?_);go_simp;refine(cSi.out _ aP).mono ?_;rintro e i8 ⟨x,rfl,hx,dA⟩;have bn:=aW aP (zA0 _) dA;refine hK (fun w'=>Below (wr).heap.size (wr) w') _ _ bn (fun _ h=>h) ?_;clear hK K aP;try simp only[Act.put,zSa,zSz,zSs]
  refine dz ?_ 0 8191 za0 [8,9,10,11,12] (fun _ _=>zRd) ?_;refine ap zKr ?_;replace ho:=ho.below bn;replace hB:=az hB bn;replace hx:=hx.mono hM;obtain⟨dx,cx2,rfl⟩:=hx.shp;clear bn k3r cZ cSi hM;go_wp2_with(at_builtin;refine IM (W:=w1) rfl _ _ rfl rfl rfl rfl ho hx hB zab (fun u w4 ho hB=>?_));have e:(List.range i).map (fun(i:Nat)=>kd K v i (jP bs i))++[kd K v i (jP bs i)]=(List.range (i+1)).map (fun(i:Nat)=>kd K v i (jP bs i)):=(by rw[List.range_succ,List.map_append];rfl);exact⟨⟨i+1,by omega,by simp,by rw[←e];exact ho,hB⟩,by simp[intOf];omega⟩
 ·have i1':¬(i:Int)<(n:Int):=zOm;have jM:Hid (i=n):=zH zOm;rw[jM.out,hE.out]at ho;go_wp2_with fail;go_ret2;exact⟨_,rfl,ho.mono kb.size,az kb hB⟩
def gS (k n:Nat):List Int:=(bF 256 k n).map fun(x:Nat)=>(x:Int)
theorem fW (k n:Nat):(gS k n).length=k:=by simp[gS,bj]
theorem my (k n i:Nat) (h:i<k):(gS k n)[i]? =some ((n/256^i%256:Nat):Int):=by simp[gS,eG _ _ _ _ h]
theorem U0 (k n c:Nat):gS k (n+256^k*c)=gS k n:=by
 unfold gS bF;congr 1;apply List.map_congr_left;intro i hi;simp only[List.mem_range]at hi;have e:(256:Nat)^k*c=256^i*(256*(256^(k-i-1)*c)):=by
  rw[←zA26,←zA26,zA26 _ 256,←Nat.pow_succ',←Nat.pow_add,show i+(k-i-1).succ=k by omega]
 rw[e,zA30 _ _ (Nat.pow_pos zDc),zA27]
theorem C2 (R:Nat) (hR:R<256^33) (w:World) (kG:Arr w 7 (el (gS 32 qN))):
 CB 192 #[.agg (el (gS 33 R)).toArray] w (.agg (el (gS 33 (if R<qN then R else R-qN))).toArray):=by
 have hG1:=kG.lt;obtain⟨M,hM⟩:=zX (R+256^33-qN);have adx:qN<256^33:=zDc;have mL:∀k,k<33→M/256^k%256=(R/256^k%256+256-qN/256^k%256-fg 256 k R qN)%256:=by
  intro k hk;rw[←hM];exact wh 256 k 33 R qN zDc hk zOm
 have ua:∀k,fg 256 (k+1) R qN=if R/256^k%256<qN/256^k%256+fg 256 k R qN then 1 else 0:=fun k=>zN 256 k R qN zDc
 have fP:fg 256 33 R qN=if R<qN then 1 else 0:=(by unfold fg;rw[zA4 hR,zA4 adx])
 have ZR:qN/256^32%256=0:=zDc;have lO:¬R<qN→gS 33 M=gS 33 (R-qN):=by
  intro h;have:=U0 33 (R-qN) 1;have e:R+256^33-qN=R-qN+256^33*1:=(by rw[Nat.mul_one];omega);rw[←this,←hM,e]
 have aI:=eh (k:=0) (j:=0) (xs:=gS 33 M) (ys:=gS 33 R) (by rw[fW,fW]) (by rw[fW];decide);clear aI;have dF:(gS 33 M).length=(gS 33 R).length:=(by rw[fW,fW]);have nt:(el (gS 33 R)).length=33:=(by rw[eI,fW]);have pI:(el (gS 33 M)).length=33:=(by rw[eI,fW]);have lZ:=eO (gS 33 M) (gS 33 R);clear hM;replace mL:=zH mL;replace ua:=zH ua;replace fP:=zH fP;replace ZR:=zH ZR;replace lO:=zH lO;replace dF:=zH dF;replace nt:=zH nt;replace pI:=zH pI;replace lZ:=zH lZ;obtain⟨Z,hZ⟩:=zX (if R<qN then R else R-qN);rw[hZ];replace hZ:=zH hZ;clear hR adx;go_enter Tryz.func192,Tryz.ntmps192;go_upto_region 1 with fail
 refine be (fun W aB k1 k2 kb=>?_);have kG:Arr W _ (el (gS 32 qN)):=kG.below kb;have k2:Arr W (w.heap.size+1) (el (List.replicate 33 0)):=k2;clear aB;go_upto_region 2 with(first|refine aR ?_|refine aU ?_)
 obtain⟨nZ,jp,QB⟩:=GD k1 k2 kG;refine aK (fun mU k3 aA=>?_);obtain⟨k1,k2,kG⟩:=dZ k1 k2 kG aA;have kb:=az kb aA;clear aA;generalize (W).heap.size=sm at k3 nZ jp QB⊢;have k3:Arr mU sm (el (ea 0 (gS 33 M) (gS 33 R))):=zcJ;go_wp2_with fail;go_loopw[5,4] (fun kv cv wr=>∃k c:Nat,k≤33∧kv=.int .i64 k∧cv=.int .i64 c∧c=fg 256 k R qN∧Arr wr w.heap.size (el (gS 33 R))∧Arr wr (w.heap.size+1) (el (List.replicate 33 0))∧Arr wr sm (el (ea k (gS 33 M) (gS 33 R)))∧Arr wr 7 (el (gS 32 qN))∧Below w.heap.size w wr) (fun kv _ _=>33-(intOf kv).toNat)
 case atStart=>exact⟨0,0,by omega,rfl,rfl,by rw[zO],k1,k2,k3,kG,kb⟩
 case round=>
  clear k1 k2 k3 kG kb;obtain⟨k,c,hk,rfl,rfl,hc,k1,k2,k3,kG,kb⟩:=hrel;have jX:c≤1:=(by rw[hc];exact D1 _ _ _ _)
  by_cases bK:k<33
  ·obtain⟨d,hd⟩:∃d,R/256^k%256=d:=⟨_,rfl⟩;obtain⟨q,hq⟩:=zX (qN/256^k%256);have Ur:d<256:=hd▸zA1 _ zDc;have hql:q<256:=hq▸zA1 _ zDc;have hMk:=mL.out k bK;have qR:=ua.out k;rw[hd,hq,←hc]at hMk qR;have gm:(ea k (gS 33 M) (gS 33 R))[k]? =some (d:Int):=by
    exact zel
   have gr:(gS 33 R)[k]? =some (d:Int):=(by rw[my _ _ _ bK,hd]);have gM:=my 33 M k bK;rw[hMk]at gM;have aL:=fE dF.out gM;have afG:=k1.cell (dU gr);have oZ:=k3.frozen k;have Qr:=k3.cell (dU gm)
   by_cases hk32:k<32
   ·have gq:(gS 32 qN)[k]? =some (q:Int):=(by rw[my _ _ _ hk32,hq]);have afH:=kG.cell (dU gq);replace gq:=zH gq;replace gr:=zH gr;replace gm:=zH gm;replace gM:=zH gM;replace aL:=zH aL;replace hMk:=zH hMk;replace hd:=zH hd;replace hq:=zH hq;replace hc:=zH hc
    by_cases hx:d<q+c
    ·rw[if_pos hx]at qR;replace qR:=zH qR;go_wp2_with fail;refine⟨⟨k+1,1,by omega,by go_num,rfl,qR.out.symm,k1.other zab _,k2.other zab _,?_,kG.other zab _,kb.setCell zab _⟩,by simp[intOf];omega⟩;have:=k3.set k (.int .i64 ((d:Int)-c-q+256));rw[show(d:Int)-c-q+256=(((d+256-q-c)%256:Nat):Int) by omega,it,aL.out]at this;rw[show(d:Int)-c-q+256=(((d+256-q-c)%256:Nat):Int) by omega];exact this
    ·rw[if_neg hx]at qR;replace qR:=zH qR;go_wp2_with fail;refine⟨⟨k+1,0,by omega,by go_num,rfl,qR.out.symm,k1.other zab _,k2.other zab _,?_,kG.other zab _,kb.setCell zab _⟩,by simp[intOf];omega⟩;have:=k3.set k (.int .i64 ((d:Int)-c-q));rw[show(d:Int)-c-q=(((d+256-q-c)%256:Nat):Int) by omega,it,aL.out]at this;rw[show(d:Int)-c-q=(((d+256-q-c)%256:Nat):Int) by omega];exact this
   ·obtain rfl:k=32:=zOm;obtain rfl:q=0:=(by rw[←hq,ZR.out]);replace gr:=zH gr;replace gm:=zH gm;replace gM:=zH gM;replace aL:=zH aL;replace hMk:=zH hMk;replace hd:=zH hd;replace hq:=zH hq;replace hc:=zH hc
    by_cases hx:d<0+c
    ·rw[if_pos hx]at qR;replace qR:=zH qR;go_wp2_with fail;refine⟨⟨33,1,by omega,by go_num,rfl,qR.out.symm,k1.other zab _,k2.other zab _,?_,kG.other zab _,kb.setCell zab _⟩,by simp[intOf]⟩;have:=k3.set 32 (.int .i64 ((d:Int)-c+256));rw[show(d:Int)-c+256=(((d+256-0-c)%256:Nat):Int) by omega,it,aL.out]at this;rw[show(d:Int)-c+256=(((d+256-0-c)%256:Nat):Int) by omega];exact this
    ·rw[if_neg hx]at qR;replace qR:=zH qR;go_wp2_with fail;refine⟨⟨33,0,by omega,by go_num,rfl,qR.out.symm,k1.other zab _,k2.other zab _,?_,kG.other zab _,kb.setCell zab _⟩,by simp[intOf]⟩;have:=k3.set 32 (.int .i64 ((d:Int)-c));rw[show(d:Int)-c=(((d+256-0-c)%256:Nat):Int) by omega,it,aL.out]at this;rw[show(d:Int)-c=(((d+256-0-c)%256:Nat):Int) by omega];exact this
  ·obtain rfl:k=33:=zOm;have dB:ea 33 (gS 33 M) (gS 33 R)=gS 33 M:=zcN;rw[dB]at k3;clear dB;rw[fP.out]at hc
   by_cases hq:R<qN
   ·have hZ1:=hZ.out;rw[if_pos hq]at hc hZ1;subst hZ1;subst hc;go_wp2_with(first|(refine ab rfl _ _ rfl _ rfl zKr _ k1 zcw ?_)|(refine aQ rfl _ _ _ rfl _ _ rfl rfl _ k2 zcw (by rw[nt.out];rfl) (qG _) ?_));exact bodyPost_ret (aj Tryz.results192 _ _ _ rfl zKr _ (k2.setRow _) zcw) rfl ⟨rfl,ah kb zOm _⟩
   ·have hZ1:=hZ.out;rw[if_neg hq]at hc hZ1;subst hZ1;subst hc;go_wp2_with(first|(refine ab rfl _ _ rfl _ rfl zKr _ k3 zcO ?_)|(refine aQ rfl _ _ _ rfl _ _ rfl rfl _ k2 zcO (by rw[pI.out];rfl) (qG _) ?_));exact bodyPost_ret (aj Tryz.results192 _ _ _ rfl zKr _ (k2.setRow _) zcO) rfl ⟨by rw[lO.out hq],ah kb zOm _⟩
theorem Ea {N R k c:Nat} (h:N/256^k=2*(R/256^k)+c):N/256^k%256=(2*(R/256^k%256)+c)%256∧N/256^(k+1)=2*(R/256^(k+1))+(2*(R/256^k%256)+c)/256:=by
 rw[zA24,←zA22,←zA22,h];omega
theorem xp (d:Option Addr) (n cap:Nat) (bs:List UInt8) (w:World) (hs:Sl w (.slice d n cap) (aJ bs)) (kG:Arr w 7 (el (gS 32 qN))):
 Calls Tryz.prog 157 #[.slice d n cap] w fun e w'=>e=.returned (.agg (ay (val 256 ((bs.take 64).map (·.toNat))%qN)).toArray)∧Below w.heap.size w w':=by
 have hG1:=kG.lt;have aI:=hs.len;rw[ai]at aI;obtain⟨rfl,NF,ye⟩:=aI;unfold maxLen at ye;obtain⟨V,hV⟩:=zX (val 256 ((bs.take 64).map (·.toNat)));have XK:∀k (h:k<bs.length),k<64→V/256^k%256=(bs[k]).toNat:=by
  intro k h1 h2;have h3:=jQ 256 zDc ((bs.take 64).map (·.toNat)) za5;rw[hV]at h3;have h4:=eG 256 ((bs.take 64).map (·.toNat)).length V k zab;rw[h3]at h4;simp[h1,h2]at h4;exact h4.symm
 have hmV:V<256^min 64 bs.length:=by
  have h3:=zI 256 zDc ((bs.take 64).map (·.toNat)) za5;rw[hV]at h3;simpa using h3
 rw[hV];obtain⟨Y,hY⟩:=zX (Ending.returned (.agg (ay (V%qN)).toArray));rw[hY];have lO:=hY;replace lO:∀Z,V%qN=Z→Ending.returned (.agg (ay Z).toArray)=Y:=(by rintro Z rfl;exact hY);have L7:=zH hs;replace XK:=zH XK;clear hV hs hY;have hR:∀m,min 64 bs.length=m→V/2^(8*m)%qN=0:=by
  rintro m rfl;rw[show(2:Nat)^(8*min 64 bs.length)=256^min 64 bs.length by rw[Nat.pow_mul],zA32 hmV,Nat.zero_mod]
 by_cases h64:64<bs.length
 ·have hR0:=hR 64 zOm;obtain⟨bb,oo,rfl,-⟩:=L7.out.at zaV;replace lO:=zH lO;clear hR;go_enter Tryz.func157,Tryz.ntmps157;replace hR0:=zH hR0;clear hmV;go_upto_region 4 with fail
  refine be (fun W aB k2 k3 kb=>?_);have kG:Arr W _ (el (gS 32 qN)):=kG.below kb;have k2:Arr W w.heap.size (ay 0):=k2;have k3:Arr W (w.heap.size+1) (el (gS 33 0)):=k3;clear aB;go_wp2_with fail;go_loopw[4] (fun kv wr=>∃j:Nat,j≤8*64∧kv=.int .i64 ((j:Int)-1)∧Arr wr w.heap.size (ay 0)∧Arr wr (w.heap.size+1) (el (gS 33 (V/2^j%qN)))∧Arr wr 7 (el (gS 32 qN))∧Below w.heap.size w wr) (fun kv _=>(intOf kv+1).toNat)
  case atStart=>exact⟨8*64,zA0 _,(by first|rfl|(rw[show(8:Int)*(64:Int)-1=((8*64:Nat):Int)-1 by omega])),k2,by rw[hR0.out];exact k3,kG,kb⟩
  case round=>
   clear k2 k3 kG kb;obtain⟨j,hj,rfl,k2,k3,kG,kb⟩:=hrel;rcases Nat.eq_zero_or_pos j with rfl|uz
   ·have e:((0:Nat):Int)-1= -1:=rfl;rw[e];rw[Nat.pow_zero,Nat.div_one]at k3;obtain⟨Z,hZ⟩:=zX (V%qN);rw[hZ]at k3;have lO:=zH (lO.out Z hZ);clear e hZ hR0;go_upto_region 16 with fail
    refine aH (fun w9 ie k8 fO=>?_);have lt2:=k2.lt;have lt3:=k3.lt;have ltG:=kG.lt;obtain⟨k2,k3⟩:=fZ k2 k3 fO;have kb:=az kb fO;generalize wr.heap.size=g8 at k8 lt2 lt3 ltG⊢;have k8:Arr w9 g8 (ea 0 (ay Z) (ay 0)):=(by rw[eO];exact k8);clear ie fO;have dF:(ay Z).length=(ay 0).length:=(by rw[aZ,aZ]);replace dF:=zH dF;go_wp2_with fail;go_loopw[9] (fun kv wr=>∃k:Nat,k≤32∧kv=.int .i64 k∧Arr wr w.heap.size (ay 0)∧Arr wr (w.heap.size+1) (el (gS 33 Z))∧Arr wr g8 (ea k (ay Z) (ay 0))∧Below w.heap.size w wr) (fun kv _=>32-(intOf kv).toNat)
    case atStart=>exact⟨0,by omega,rfl,k2,k3,k8,kb⟩
    case round=>
     clear k2 k3 k8 kb kG;obtain⟨k,hk,rfl,k2,k3,k8,kb⟩:=hrel
     by_cases bK:k<32
     ·have g1:=dU (my 33 Z k zOm);have g2:=bH Z k bK;obtain⟨x,hx⟩:=zX (Z/256^k%256);have vR:x<256:=hx▸zA1 _ zDc;rw[hx]at g1 g2;have g0:(ea k (ay Z) (ay 0))[k]? =some (.int .u8 0):=by
       exact zfh
      exact zdk
     ·exact zdE
   ·obtain⟨m,rfl⟩:∃m,j=m+1:=⟨j-1,by omega⟩;have e:((m+1:Nat):Int)-1=(m:Int):=zOm;rw[e];clear e;have hm8:m/8<64:=zOm;have Us:m/8<bs.length:=zOm;obtain⟨x,hx⟩:∃x:Nat,(bs[m/8]).toNat=x:=⟨_,rfl⟩;have vR:x<256:=(by rw[←hx];exact(bs[m/8]).toNat_lt);obtain⟨bb,oo,GF,-,-,-,np⟩:=L7.out.at zaV
    first|subst GF|(simp only[Option.some.injEq,Addr.mk.injEq,and_true]at GF;obtain⟨rfl,rfl⟩:=GF)
    have cZ:=np (m/8) _ (eY bs (m/8) Us);rw[hx]at cZ;have Qn:=zA11 w _ cZ;have sq:wr.cell? ⟨bb,oo+m/8,none⟩=some (.int .u8 (x:Int)):=zbV;have Au:=sc V m;rw[XK.out (m/8) Us zOm,hx]at Au;obtain⟨t,ht⟩:=zX (V/2^m%2);have vE:t≤1:=zOm;rw[ht]at Au;obtain⟨R,hR⟩:=zX (V/2^(m+1)%qN);rw[hR]at k3;have hRq:R<qN:=hR▸zA1 _ vK;have fA:=CR V m _ t R rfl ht hR;obtain⟨N,hN⟩:=zX (2*R+t);rw[hN]at fA;have hN33:N<256^33:=by
     exact zfD
    have c1:=zH (fun w kG=>C2 N hN33 w kG);have hN0:N/256^0=2*(R/256^0)+t:=zcP;have mJ:bits BinOp.and IntKind.i64 ((x:Int)/2^(m%8)) 1=(t:Int):=by
     rw[EZ,←Au];simp
    have BI:=fun z=>nC z;have dF:(gS 33 N).length=(gS 33 R).length:=(by rw[fW,fW]);have nt:(el (gS 33 N)).length=33:=(by rw[eI,fW]);have lZ:=eO (gS 33 N) (gS 33 R);have im0:(0:Int)≤(m:Int)/8:=zOm;have im1:(m:Int)/8<(64:Int):=zOm;have im3:((m:Int)/8).toNat=m/8:=zOm;have im6:(0:Int)≤(m:Int)%8:=zOm;have im8:(m:Int)%8<8:=zOm;have im7:((m:Int)%8).toNat=m%8:=zOm;replace dF:=zH dF;replace nt:=zH nt;replace lZ:=zH lZ;replace hN0:=zH hN0;replace fA:=zH fA;replace hx:=zH hx;replace BI:=zH BI;replace np:=zH np;replace cZ:=zH cZ;clear hN hR ht Au hN33;have k3:Arr wr (w.heap.size+1) (el (ea 0 (gS 33 N) (gS 33 R))):=zcJ;go_wp2_with fail
    go_loopw[6,5] (fun kv cv wr=>∃k c:Nat,k≤33∧kv=.int .i64 k∧cv=.int .i64 c∧c≤1∧N/256^k=2*(R/256^k)+c∧Arr wr w.heap.size (ay 0)∧Arr wr (w.heap.size+1) (el (ea k (gS 33 N) (gS 33 R)))∧Arr wr 7 (el (gS 32 qN))∧Below w.heap.size w wr) (fun kv _ _=>33-(intOf kv).toNat)
    case atStart=>exact⟨0,t,by omega,rfl,rfl,vE,hN0.out,k2,k3,kG,kb⟩
    case round=>
     clear k2 k3 kG kb sq mJ;obtain⟨k,c,hk,rfl,rfl,jX,hNk,k2,k3,kG,kb⟩:=hrel
     by_cases bK:k<33
     ·obtain⟨tH,xM⟩:=Ea hNk;obtain⟨d,hd⟩:=zX (R/256^k%256);have Ur:d<256:=hd▸zA1 _ zDc;rw[hd]at tH xM;have gm:(ea k (gS 33 N) (gS 33 R))[k]? =some (d:Int):=by
       exact zel
      exact zc3
     ·obtain rfl:k=33:=zOm;have dB:ea 33 (gS 33 N) (gS 33 R)=gS 33 N:=zcN;rw[dB]at k3;clear dB hNk;go_wp2_with(refine ab rfl _ _ rfl _ rfl zKr _ k3 zcw ?_);refine zQ (c1.out _ kG) fun mU dG=>?_;obtain⟨k2,k3,kG⟩:=dZ k2 k3 kG dG;have kb:=az kb dG;clear dG;exact zej
 ·have hR0:=hR bs.length zOm;replace lO:=zH lO;clear hR;go_enter Tryz.func157,Tryz.ntmps157;replace hR0:=zH hR0;clear hmV;go_upto_region 4 with fail
  refine be (fun W aB k2 k3 kb=>?_);have kG:Arr W _ (el (gS 32 qN)):=kG.below kb;have k2:Arr W w.heap.size (ay 0):=k2;have k3:Arr W (w.heap.size+1) (el (gS 33 0)):=k3;clear aB;go_wp2_with fail;go_loopw[4] (fun kv wr=>∃j:Nat,j≤8*bs.length∧kv=.int .i64 ((j:Int)-1)∧Arr wr w.heap.size (ay 0)∧Arr wr (w.heap.size+1) (el (gS 33 (V/2^j%qN)))∧Arr wr 7 (el (gS 32 qN))∧Below w.heap.size w wr) (fun kv _=>(intOf kv+1).toNat)
  case atStart=>exact⟨8*bs.length,zA0 _,(by first|rfl|(rw[show(8:Int)*(bs.length:Int)-1=((8*bs.length:Nat):Int)-1 by omega])),k2,by rw[hR0.out];exact k3,kG,kb⟩
  case round=>
   clear k2 k3 kG kb;obtain⟨j,hj,rfl,k2,k3,kG,kb⟩:=hrel;rcases Nat.eq_zero_or_pos j with rfl|uz
   ·have e:((0:Nat):Int)-1= -1:=rfl;rw[e];rw[Nat.pow_zero,Nat.div_one]at k3;obtain⟨Z,hZ⟩:=zX (V%qN);rw[hZ]at k3;have lO:=zH (lO.out Z hZ);clear e hZ hR0;go_upto_region 16 with fail
    refine aH (fun w9 ie k8 fO=>?_);have lt2:=k2.lt;have lt3:=k3.lt;have ltG:=kG.lt;obtain⟨k2,k3⟩:=fZ k2 k3 fO;have kb:=az kb fO;generalize wr.heap.size=g8 at k8 lt2 lt3 ltG⊢;have k8:Arr w9 g8 (ea 0 (ay Z) (ay 0)):=(by rw[eO];exact k8);clear ie fO;have dF:(ay Z).length=(ay 0).length:=(by rw[aZ,aZ]);replace dF:=zH dF;go_wp2_with fail;go_loopw[9] (fun kv wr=>∃k:Nat,k≤32∧kv=.int .i64 k∧Arr wr w.heap.size (ay 0)∧Arr wr (w.heap.size+1) (el (gS 33 Z))∧Arr wr g8 (ea k (ay Z) (ay 0))∧Below w.heap.size w wr) (fun kv _=>32-(intOf kv).toNat)
    case atStart=>exact⟨0,by omega,rfl,k2,k3,k8,kb⟩
    case round=>
     clear k2 k3 k8 kb kG;obtain⟨k,hk,rfl,k2,k3,k8,kb⟩:=hrel
     by_cases bK:k<32
     ·have g1:=dU (my 33 Z k zOm);have g2:=bH Z k bK;obtain⟨x,hx⟩:=zX (Z/256^k%256);have vR:x<256:=hx▸zA1 _ zDc;rw[hx]at g1 g2;have g0:(ea k (ay Z) (ay 0))[k]? =some (.int .u8 0):=by
       exact zfh
      exact zdk
     ·exact zdE
   ·obtain⟨m,rfl⟩:∃m,j=m+1:=⟨j-1,by omega⟩;have e:((m+1:Nat):Int)-1=(m:Int):=zOm;rw[e];clear e;have hm8:m/8<bs.length:=zOm;have Us:m/8<bs.length:=zOm;obtain⟨x,hx⟩:∃x:Nat,(bs[m/8]).toNat=x:=⟨_,rfl⟩;have vR:x<256:=(by rw[←hx];exact(bs[m/8]).toNat_lt);obtain⟨bb,oo,GF,-,-,-,np⟩:=L7.out.at zaV
    first|subst GF|(simp only[Option.some.injEq,Addr.mk.injEq,and_true]at GF;obtain⟨rfl,rfl⟩:=GF)
    have cZ:=np (m/8) _ (eY bs (m/8) Us);rw[hx]at cZ;have Qn:=zA11 w _ cZ;have sq:wr.cell? ⟨bb,oo+m/8,none⟩=some (.int .u8 (x:Int)):=zbV;have Au:=sc V m;rw[XK.out (m/8) Us zOm,hx]at Au;obtain⟨t,ht⟩:=zX (V/2^m%2);have vE:t≤1:=zOm;rw[ht]at Au;obtain⟨R,hR⟩:=zX (V/2^(m+1)%qN);rw[hR]at k3;have hRq:R<qN:=hR▸zA1 _ vK;have fA:=CR V m _ t R rfl ht hR;obtain⟨N,hN⟩:=zX (2*R+t);rw[hN]at fA;have hN33:N<256^33:=by
     exact zfD
    have c1:=zH (fun w kG=>C2 N hN33 w kG);have hN0:N/256^0=2*(R/256^0)+t:=zcP;have mJ:bits BinOp.and IntKind.i64 ((x:Int)/2^(m%8)) 1=(t:Int):=by
     rw[EZ,←Au];simp
    have BI:=fun z=>nC z;have dF:(gS 33 N).length=(gS 33 R).length:=(by rw[fW,fW]);have nt:(el (gS 33 N)).length=33:=(by rw[eI,fW]);have lZ:=eO (gS 33 N) (gS 33 R);have im0:(0:Int)≤(m:Int)/8:=zOm;have im1:(m:Int)/8<(bs.length:Int):=zOm;have im3:((m:Int)/8).toNat=m/8:=zOm;have im6:(0:Int)≤(m:Int)%8:=zOm;have im8:(m:Int)%8<8:=zOm;have im7:((m:Int)%8).toNat=m%8:=zOm;replace dF:=zH dF;replace nt:=zH nt;replace lZ:=zH lZ;replace hN0:=zH hN0;replace fA:=zH fA;replace hx:=zH hx;replace BI:=zH BI;replace np:=zH np;replace cZ:=zH cZ;clear hN hR ht Au hN33;have k3:Arr wr (w.heap.size+1) (el (ea 0 (gS 33 N) (gS 33 R))):=zcJ;go_wp2_with fail
    go_loopw[6,5] (fun kv cv wr=>∃k c:Nat,k≤33∧kv=.int .i64 k∧cv=.int .i64 c∧c≤1∧N/256^k=2*(R/256^k)+c∧Arr wr w.heap.size (ay 0)∧Arr wr (w.heap.size+1) (el (ea k (gS 33 N) (gS 33 R)))∧Arr wr 7 (el (gS 32 qN))∧Below w.heap.size w wr) (fun kv _ _=>33-(intOf kv).toNat)
    case atStart=>exact⟨0,t,by omega,rfl,rfl,vE,hN0.out,k2,k3,kG,kb⟩
    case round=>
     clear k2 k3 kG kb sq mJ;obtain⟨k,c,hk,rfl,rfl,jX,hNk,k2,k3,kG,kb⟩:=hrel
     by_cases bK:k<33
     ·obtain⟨tH,xM⟩:=Ea hNk;obtain⟨d,hd⟩:=zX (R/256^k%256);have Ur:d<256:=hd▸zA1 _ zDc;rw[hd]at tH xM;have gm:(ea k (gS 33 N) (gS 33 R))[k]? =some (d:Int):=by
       exact zel
      exact zc3
     ·obtain rfl:k=33:=zOm;have dB:ea 33 (gS 33 N) (gS 33 R)=gS 33 N:=zcN;rw[dB]at k3;clear dB hNk;go_wp2_with(refine ab rfl _ _ rfl _ rfl zKr _ k3 zcw ?_);refine zQ (c1.out _ kG) fun i8 dA=>?_;obtain⟨k2,k3,kG⟩:=dZ k2 k3 kG dA;have kb:=az kb dA;clear dA;exact zej
theorem An (a:Nat) (ha:a<256^64) (g:Nat) (w:World) (h:Arr w g (ag 64 a)) (kG:Arr w 7 (el (gS 32 qN))):
 CB 157 #[.slice (some ⟨g,0,none⟩) 64 64] w (.agg (ay (a%qN)).toArray):=by
 have hs:=Sl.of_arr h zb8;rw[aa,sd]at hs;have:=xp _ _ _ _ w hs kG;rwa[Uh 64 a zDc ha]at this
theorem OP (a b:Nat) (ha:a<256^32) (hb:b<256^32) (w:World) (kG:Arr w 7 (el (gS 32 qN))):
 CB 99 #[.agg (ay a).toArray,.agg (ay b).toArray] w (.agg (ay ((a+b)%qN)).toArray):=by
 have hG1:=kG.lt;obtain⟨N,hN⟩:=zX (a+b);have hN33:N<256^33:=zOm;have mL:=fun k=>sf 256 k a b zDc;have nq:=fun k=>uL 256 k a b zDc;rw[hN]at mL;have Y8:a/256^32%256=0:=(by rw[zA32 ha]);have Ze:b/256^32%256=0:=(by rw[zA32 hb]);have ZK:=GS (k:=33) hN33;have lZ:=eO (ag 64 N) (ag 64 0);have Aa:=uM 256 a b;have lU:=fun k=>sh 256 k a b zDc;have c1:=fun g w h kG=>An N (zA25 hN33 zDc) g w h kG;rw[hN];clear ha hb hN hN33;obtain⟨R,hR⟩:=zX (N%qN);rw[hR]at c1⊢;replace mL:=zH mL;replace nq:=zH nq;replace Y8:=zH Y8;replace Ze:=zH Ze;replace ZK:=zH ZK;replace lZ:=zH lZ;replace Aa:=zH Aa;replace lU:=zH lU;replace c1:=zH c1;clear hR;go_enter Tryz.func99,Tryz.ntmps99;go_upto_region 1 with fail
 refine bZ (fun W aB k1 k2 k4 kb=>?_);have k4:Arr W (w.heap.size+1+1) (ay 0):=k4;have lt1:=k1.lt;have lt2:=k2.lt;have lt4:=k4.lt;have kG:Arr W _ (el (gS 32 qN)):=kG.below kb;have ltG:=kG.lt;clear aB;go_upto_region 2 with fail
 refine aH (fun w9 ie k5 fO=>?_);obtain⟨k1,k2,k4,kG⟩:=kJ k1 k2 k4 kG fO;have kb:=az kb fO;generalize W.heap.size=g at k5 lt1 lt2 lt4 ltG⊢;have k5:Arr w9 g (ea 0 (ag 64 N) (ag 64 0)):=(by rw[lZ.out];exact k5);clear ie fO;go_wp2_with fail;go_loopw[7,6] (fun kv cv wr=>∃k c:Nat,k≤33∧kv=.int .i64 k∧cv=.int .i64 c∧jH 256 k a b=c∧Arr wr w.heap.size (ay a)∧Arr wr (w.heap.size+1) (ay b)∧Arr wr (w.heap.size+1+1) (ay 0)∧Arr wr g (ea k (ag 64 N) (ag 64 0))∧Arr wr 7 (el (gS 32 qN))∧Below w.heap.size w wr) (fun kv _ _=>33-(intOf kv).toNat)
 case atStart=>exact⟨0,0,by omega,rfl,rfl,Aa.out,k1,k2,k4,k5,kG,kb⟩
 case round=>
  clear k1 k2 k4 k5 kG kb;obtain⟨k,c,hk,rfl,rfl,hc,k1,k2,k4,k5,kG,kb⟩:=hrel;have jX:c≤1:=(by have:=lU.out k;omega)
  by_cases bK:k<33
  ·obtain⟨x,hx⟩:∃x,a/256^k%256=x:=⟨_,rfl⟩;obtain⟨y,hy⟩:=zX (b/256^k%256);have vR:x<256:=hx▸zA1 _ zDc;have IX:y<256:=hy▸zA1 _ zDc;have hd:=mL.out k;have hs:=nq.out k;rw[hx,hy,hc]at hd hs;have dF:(ag 64 N).length=(ag 64 0).length:=za3;have g5:(ea k (ag 64 N) (ag 64 0))[k]? =some (.int .u8 0):=by
    exact zfA
   have gN:=bX 64 N k zOm;rw[hd]at gN;have aL:=fE dF gN;have bo:=k5.cell g5;have bT:=k5.frozen k;have mJ:=fun z=>nC z;replace g5:=zH g5;replace gN:=zH gN;replace aL:=zH aL;replace hd:=zH hd;replace hs:=zH hs;replace hc:=zH hc;replace mJ:=zH mJ
   by_cases iF:k<32
   ·have g1:=bH a k iF;have g2:=bH b k iF;rw[hx]at g1;rw[hy]at g2;replace g1:=zH g1;replace g2:=zH g2;replace hx:=zH hx;replace hy:=zH hy;have iw1:IntKind.i64.wrap ((c:Int)+(x:Int))=(c:Int)+(x:Int):=i64_in zOm;have iw2:IntKind.i64.wrap ((c:Int)+(x:Int)+(y:Int))=(c:Int)+(x:Int)+(y:Int):=i64_in zOm;have iw3:(k:Int)<32:=zOm;clear bo bT;go_upto_region 7 with(first|refine aR ?_|refine aU ?_)
    refine cH 9999 12 fun aP=>?_;refine dz ?_ 0 4095 zaD [0,1,2,3,4,5,6,7,8,9,10,11] (fun w' hB=>by have e0:=k1.below hB;have e1:=k2.below hB;have e2:=k4.below hB;have e3:=k5.below hB;have e4:=kG.below hB;have c1:=(k1.below hB).cell g1.out;have c2:=(k2.below hB).cell g2.out;exact zRd) ?_;refine ap zKr ?_;obtain⟨k1,k2,k4,k5,kG⟩:=uk k1 k2 k4 k5 kG aP;have kb:=az kb aP;clear aP;clear iw1 iw2;have bo:=k5.cell g5.out;have bT:=k5.frozen k;have LH:=mJ.out ((c:Int)+(x:Int)+(y:Int));have e9:((c:Int)+x+y)%256=(((x+y+c)%256:Nat):Int):=zOm;replace e9:=zH e9;go_wp2_with fail;refine⟨⟨k+1,(x+y+c)/256,by omega,by go_num,by rw[show((c:Int)+x+y)/256=(((x+y+c)/256:Nat):Int) by omega],hs.out,k1.other zab _,k2.other zab _,k4.other zab _,?_,kG.other zab _,kb.setCell zab _⟩,by simp[intOf];omega⟩;have:=k5.set k (.int .u8 (((c:Int)+x+y)%256))
    exact zfi
   ·obtain rfl:k=32:=zOm;obtain rfl:x=0:=(by rw[←hx,Y8.out]);obtain rfl:y=0:=(by rw[←hy,Ze.out]);have LH:=mJ.out (c:Int);have e9:(c:Int)%256=(((0+0+c)%256:Nat):Int):=zOm;replace e9:=zH e9;go_wp2_with fail;refine⟨⟨33,(0+0+c)/256,by omega,rfl,by rw[show(c:Int)/256=(((0+0+c)/256:Nat):Int) by omega],hs.out,k1.other zab _,k2.other zab _,k4.other zab _,?_,kG.other zab _,kb.setCell zab _⟩,by simp[intOf]⟩;have:=k5.set 32 (.int .u8 ((c:Int)%256));exact zfi
  ·obtain rfl:k=33:=zOm;rw[ZK.out]at k5;go_wp2_with fail;refine zQ (c1.out _ _ k5 kG) fun i8 dA=>?_;have k4:=k4.below dA;have kb:=az kb dA;clear dA;go_wp2_with(refine aU ?_);exact bodyPost_ret (aj Tryz.results99 _ _ _ rfl zKr _ zaE zLn) rfl ⟨rfl,ah kb zOm _⟩
end Go.Proofs.YtgfkgolafkdjfaaGreatDoor
