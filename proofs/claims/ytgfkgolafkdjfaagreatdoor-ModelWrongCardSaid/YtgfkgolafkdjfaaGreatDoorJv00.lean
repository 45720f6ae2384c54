/- Steps of the proofs that stand in many places, each said once: the premise is proved where the step is used. No condition. -/
import Derived.ProofKit
import Derived.Test.YtgfkgolafkdjfaaGreatDoorProg
import Derived.WalkKit
import Derived.WalkSpells
import Derived.WalkLawsBesides
import Derived.Deep.DeepFit
import Derived.Deep.LoopGhost
import Derived.Lib.Hide
namespace Go.Proofs.YtgfkgolafkdjfaaGreatDoor
open Go.RowKit
theorem zH {p : Prop} (h : p) : Hid p := Lib.hid h
theorem zDk {p : Prop} (h : p := by decide +kernel) : p := h
theorem zKr {p : Prop} (h : p := by kernel_rfl) : p := h
theorem zOm {p : Prop} (h : p := by omega) : p := h
theorem zDc {p : Prop} (h : p := by decide) : p := h
theorem zAm {p : Prop} (h : p := by assumption) : p := h
theorem zLn {p : Prop} (h : p := by first | (rw [aF]; kernel_rfl) | (rw [Fp]; kernel_rfl) | (rw [eI]; kernel_rfl) | (rw [aZ]; kernel_rfl) | (rw [agM]; kernel_rfl) | (rw [aa]; kernel_rfl) | (rw [mz, bj]; kernel_rfl) | (rw [ph]; kernel_rfl) | (rw [VR]; kernel_rfl) | (rw [fI]; kernel_rfl) | (rw [nO]; kernel_rfl) | kernel_rfl) : p := h
theorem zLm {p : Prop} (h : p := by first | (rw [aF, aF]) | (rw [Fp, Fp]) | (rw [Fp, eI]; rfl) | (rw [eI, Fp]; rfl) | (rw [eI, eI]; rfl) | (rw [aZ, aZ]) | (rw [aF]; rfl) | (rw [aZ]; rfl) | (rw [agM, agM]; rfl) | (rw [aa, aa]) | (rw [aa]; rfl) | (rw [ph, ph]) | (rw [VR, VR]) | (rw [ph, VR]) | (rw [VR, ph]) | (rw [fI, fI]) | (rw [nO, nO]) | (rw [mz, mz, bj, bj]) | rfl) : p := h
theorem zOn {p : Prop} (h : p := by first | exact lw _ _ | exact qG _ | exact jO _ | exact agN _ | exact bm _ _ | exact tE _ | exact Mu _ _ _ _ | exact afh _ | exact tR _ _ | exact PU _ _ _ _ | (intro v hv; simp at hv; rcases hv with rfl | rfl | rfl | rfl <;> rfl)) : p := h
theorem zSa {α : Type} (l : List α) (i : Nat) (a : α) : l.toArray.setIfInBounds i a = (l.set i a).toArray := List.setIfInBounds_toArray _ _ _
theorem zSz {α : Type} (a b : α) (l : List α) : (a :: l).set 0 b = b :: l := rfl
theorem zSs {α : Type} (a b : α) (l : List α) (n : Nat) : (a :: l).set (n + 1) b = a :: l.set n b := rfl
theorem zRd {p : Prop} (h : p := by
  repeat (first | (refine db rfl rfl ?_; simp only [Act.put, zSa, zSz, zSs]) | (refine bN rfl rfl _ _ rfl _ rfl (by decide +kernel) _ (by assumption) zLn ?_; simp only [Act.put, zSa, zSz, zSs]) | (refine cj (v := ?_) rfl rfl ?_ ?_; rotate_left; (focus (go_simp; try (with_reducible rfl))); simp only [Act.put, zSa, zSz, zSs]))
  exact eo) : p := h
theorem zRm {p : Prop} (h : p := by
  repeat (first | (refine db rfl rfl ?_; simp only [Act.put, zSa, zSz, zSs]) | (refine Yj rfl rfl _ _ rfl _ _ rfl (by decide +kernel) _ (by assumption) zLn ?_; simp only [Act.put, zSa, zSz, zSs]) | (refine bN rfl rfl _ _ rfl _ rfl (by decide +kernel) _ (by assumption) zLn ?_; simp only [Act.put, zSa, zSz, zSs]) | (refine cj (v := ?_) rfl rfl ?_ ?_; rotate_left; (focus (go_simp; try (with_reducible rfl))); simp only [Act.put, zSa, zSz, zSs]))
  exact eo) : p := h
theorem zLe {a b : Nat} (h : a ≤ b := by first | exact Nat.le_refl _ | omega | (simp; omega)) : a ≤ b := h
theorem zQ {P : Program} {f : FuncId} {args : Array Value} {w : World} {v : Value} {R0 : World → Prop} {R : Ending → World → Prop} (hc : Calls P f args w fun e w' => e = .returned v ∧ R0 w') (h : ∀ w', R0 w' → R (.returned v) w') : Calls P f args w R := hc.mono (by rintro e w' ⟨rfl, hb⟩; exact h w' hb)
theorem zX {α : Sort _} (a : α) : ∃ x, a = x := ⟨_, rfl⟩
abbrev CB (f : FuncId) (a : Array Value) (w : World) (v : Value) : Prop := Calls Tryz.prog f a w fun e w' => e = .returned v ∧ Below w.heap.size w w'
theorem zA0:∀ (n : Nat), n ≤ n:=@Nat.le_refl
theorem zA1:∀ (x : Nat) {y : Nat}, 0 < y → x % y < y:=@Nat.mod_lt
theorem zA2.{u_1}:∀ {α : Type u_1} {l₁ l₂ : List α} {i : Nat}, List.length l₁ ≤ i → (l₁ ++ l₂)[i]? = l₂[i - List.length l₁]?:=@List.getElem?_append_right
theorem zA3:∀ {n m k : Nat}, n < m → m ≤ k → n < k:=@Nat.lt_of_lt_of_le
theorem zA4:∀ {a b : Nat}, a < b → a % b = a:=@Nat.mod_eq_of_lt
theorem zA5.{u_1}:∀ {α : Type u_1} {xs bs : List α}, List.length (xs ++ bs) = List.length xs + List.length bs:=@List.length_append
theorem zA6:∀ (B : Nat) (w : World), Below B w w:=@Below.refl
theorem zA7.{u_1}:∀ {α : Type u_1} {l : List α} {i : Nat} (h : i < List.length l), l[i]? = some l[i]:=@List.getElem?_eq_getElem
theorem zA8.{u_1}:∀ {α : Type u_1} {i : Nat} {l : List α}, List.length l ≤ i → List.take i l = l:=@List.take_of_length_le
theorem zA9:∀ {n m k : Nat}, n ≤ m → m < k → n < k:=@Nat.lt_of_le_of_lt
theorem zA10.{u_1}:∀ {α : Type u_1} {l : List α} {i : Nat} {a : α}, List.getD l i a = Option.getD l[i]? a:=@List.getD_eq_getElem?_getD
theorem zA11:∀ (w : World) (a : Addr) {u : Value}, World.cell? w a = some u → Addr.block a < Array.size (World.heap w):=@World.block_lt_of_cell?
theorem zA12.{u_1}:∀ {α : Type u_1} {l₁ l₂ : List α} {i : Nat}, i < List.length l₁ → (l₁ ++ l₂)[i]? = l₁[i]?:=@List.getElem?_append_left
theorem zA13.{u_1}:∀ {α : Type u_1} {l : List α} {i : Nat}, List.length l ≤ i → l[i]? = none:=@List.getElem?_eq_none
theorem zA14:∀ {n m k : Nat}, n ≤ m → m ≤ k → n ≤ k:=@Nat.le_trans
theorem zA15.{u_1}:∀ {α : Type u_1} {i : Nat} {l : List α}, List.length (List.take i l) = min i (List.length l):=@List.length_take
theorem zA16.{u_1}:∀ {α : Type u_1} (xs bs cs : List α), xs ++ bs ++ cs = xs ++ (bs ++ cs):=@List.append_assoc
theorem zA17:∀ {a b : Int}, 0 ≤ a → Int.tmod a b = a % b:=@Int.tmod_eq_emod_of_nonneg
theorem zA18.{u_1}:∀ {α : Type u_1} {i : Nat} {a : α} {l : List α}, l[i]? = some a ↔ ∃ (h : i < List.length l), l[i] = a:=@List.getElem?_eq_some_iff
theorem zA19.{u_1}:∀ {α : Type u_1} {p : α → Bool} {l : List α}, List.all l p = true ↔ ∀ (x : α), x ∈ l → p x = true:=@List.all_eq_true
theorem zA21:∀ (n k : Nat), n / k ≤ n:=@Nat.div_le_self
theorem zA22:∀ (m n k : Nat), m / n / k = m / (n * k):=@Nat.div_div_eq_div_mul
theorem zA23.{u_1}:∀ {α : Type u_1} {xs : List α} {i : Nat} {a : α}, List.length (List.set xs i a) = List.length xs:=@List.length_set
theorem zA24:∀ (n m : Nat), n ^ Nat.succ m = n ^ m * n:=@Nat.pow_succ
theorem zA25:∀ {n m k : Nat}, n < m → m < k → n < k:=@Nat.lt_trans
theorem zA26:∀ (n m k : Nat), n * m * k = n * (m * k):=@Nat.mul_assoc
theorem zA27:∀ (x y z : Nat), (x + y * z) % y = x % y:=@Nat.add_mul_mod_self_left
theorem zA28:∀ (n : Nat), 0 ≤ n:=@Nat.zero_le
theorem zA29:∀ {x y n : Nat}, x < 2 ^ n → y < 2 ^ n → x ^^^ y < 2 ^ n:=@Nat.xor_lt_two_pow
theorem zA30:∀ (x z : Nat) {y : Nat}, 0 < y → (x + y * z) / y = x / y + z:=@Nat.add_mul_div_left
theorem zA31.{u_1}:∀ {α : Type u_1} (xs : List α), xs ++ [] = xs:=@List.append_nil
theorem zA32:∀ {a b : Nat}, a < b → a / b = 0:=@Nat.div_eq_of_lt
theorem zA33.{u_1}:∀ {α : Type u_1} {a : α} {i : Nat} {l : List α}, (a :: l)[i + 1]? = l[i]?:=@List.getElem?_cons_succ
section
variable {p : Prop}
theorem zaa(h:p:=by cases h):p:=h
theorem zab(h:p:=by simp;omega):p:=h
theorem zac(h:p:=by simp):p:=h
theorem zad(h:p:=by simp[Region.wanted,qi]):p:=h
theorem zae(h:p:=by rw[Nat.pow_mul]):p:=h
theorem zaf(h:p:=by simp only[ne_eq,Option.some.injEq];omega):p:=h
theorem zag(h:p:=by simpa using hi):p:=h
theorem zah(h:p:=by simpa[Array.all_eq_true_iff_forall_mem]using h1):p:=h
theorem zai(h:p:=by simpa using ho):p:=h
theorem zaj(h:p:=by rw[hl];kernel_rfl):p:=h
theorem zak(h:p:=by simp[IntKind.wrap,IntKind.bits,IntKind.signed];omega):p:=h
theorem zal(h:p:=by rw[aF];omega):p:=h
theorem zam(h:p:=by rw[aZ];kernel_rfl):p:=h
theorem zan(h:p:=by rw[te k k _ _ (by rw[aB];exact bK),if_neg zOm]):p:=h
theorem zao(h:p:=by rw[aF];kernel_rfl):p:=h
theorem zap(h:p:=by rw[h]at hr;cases hr):p:=h
theorem zaq(h:p:=by cases d<;>first|rfl|cases hd):p:=h
theorem zar(h:p:=by simpa using h):p:=h
theorem zas(h:p:=by simpa using h3.1.1):p:=h
theorem zat(h:p:=by unfold gd;rw[sS];rfl):p:=h
theorem zau(h:p:=by rw[aM,decide_eq_false e,Bool.or_false]):p:=h
theorem zav(h:p:=by rw[←e];exact iO):p:=h
theorem zaw(h:p:=by have:=(Array.getElem?_eq_some_iff.1 hj).1;simpa using this):p:=h
theorem zax(h:p:=by simpa using hj):p:=h
theorem zay(h:p:=by have:=(Array.getElem?_eq_some_iff.1 Ae).1;simpa using this):p:=h
theorem zaz(h:p:=by exact(zA6 _ _).drew):p:=h
theorem zaA(h:p:=by first|assumption|exact(zA6 _ _).drew):p:=h
theorem zaB(h:p:=by first|(go_simp;done)|(go_simp;rfl)):p:=h
theorem zaC(h:p:=by exact trivial):p:=h
theorem zaD(h:p:=by exact aP):p:=h
theorem zaE(h:p:=by first|assumption|exact Arr.setRow zAm _):p:=h
theorem zaF(h:p:=by exact hU):p:=h
theorem zaG(h:p:=by exact gZ):p:=h
theorem zaH(h:p:=by simp[bj]):p:=h
theorem zaI(h:p:=by exact bB):p:=h
theorem zaJ(h:p:=by exact b9):p:=h
theorem zaK(h:p:=by exact di):p:=h
theorem zaL(h:p:=by exact dV):p:=h
theorem zaM(h:p:=by first|(rw[aF];kernel_rfl)|kernel_rfl):p:=h
theorem zaN(h:p:=by exact iU):p:=h
theorem zaO(h:p:=by have:=List.length_take_le dLen full;simp only[List.size_toArray];omega):p:=h
theorem zaP(h:p:=by unfold Addr.add;split<;>rfl):p:=h
theorem zaQ(h:p:=by simp[World.setRow]):p:=h
theorem zaR(h:p:=by simp[World.setCell]):p:=h
theorem zaS(h:p:=by rw[a7];omega):p:=h
theorem zaT(h:p:=by rw[a7,im.1];omega):p:=h
theorem zaU(h:p:=by rw[ai];exact hj):p:=h
theorem zaV(h:p:=by rw[ai];omega):p:=h
theorem zaW(h:p:=by rw[←hx];exact(bs[i]).toNat_lt):p:=h
theorem zaX(h:p:=by rw[ok.1];omega):p:=h
theorem zaY(h:p:=by rw[i64_in zOm];omega):p:=h
theorem zaZ(h:p:=by rw[hl.out];kernel_rfl):p:=h
theorem za0(h:p:=by exact bn):p:=h
theorem za1(h:p:=by rw[show((x:Int)+(y:Int))=((x+y:Nat):Int) by omega,dW,hz]):p:=h
theorem za2(h:p:=by rw[List.length_drop];omega):p:=h
theorem za3(h:p:=by rw[aa,aa]):p:=h
theorem za4(h:p:=by rw[aa];omega):p:=h
theorem za5(h:p:=by intro x hx;simp only[List.mem_map]at hx;obtain⟨y,-,rfl⟩:=hx;exact y.toNat_lt):p:=h
theorem za6(h:p:=by rw[zA15];omega):p:=h
theorem za7(h:p:=by rw[kb.cell (zA11 w _ kW)];exact kW):p:=h
theorem za8(h:p:=by rw[kb.cell (zA11 w _ bo)];exact bo):p:=h
theorem za9(h:p:=by rw[List.take_succ_eq_append_getElem hltj,zA16]):p:=h
theorem zba(h:p:=by rw[ph];kernel_rfl):p:=h
theorem zbb(h:p:=by exact iB):p:=h
theorem zbc(h:p:=by rw[bV];omega):p:=h
theorem zbd(h:p:=by rw[bV,ip.1];omega):p:=h
theorem zbe(h:p:=by rw[aI.out];exact ha):p:=h
theorem zbf(h:p:=by rw[aI.out];exact hb):p:=h
theorem zbg(h:p:=by rw[a7,aI.out];exact ha):p:=h
theorem zbh(h:p:=by rw[aI.out];exact hd):p:=h
theorem zbi(h:p:=by rw[←hx];exact iF.out.get _):p:=h
theorem zbj(h:p:=by rw[←hy];exact iF.out.get _):p:=h
theorem zbk(h:p:=by rw[←hz];exact rF lx ly):p:=h
theorem zbl(h:p:=by rw[a7,aI.out];exact hd):p:=h
theorem zbm(h:p:=by rw[aI.out];exact hc):p:=h
theorem zbn(h:p:=by rw[a7,aI.out];exact hc):p:=h
theorem zbo(h:p:=by rw[a7,aI.out];exact hb):p:=h
theorem zbp(h:p:=by rw[hB.cell (p:=⟨g,o,none⟩) (zA11 _ _ c0)];exact c0):p:=h
theorem zbq(h:p:=by rw[hB.cell (p:=⟨g,o+1,none⟩) (zA11 _ _ c1)];exact c1):p:=h
theorem zbr(h:p:=by rw[hB.cell (p:=⟨g,o+2,none⟩) (zA11 _ _ c2)];exact c2):p:=h
theorem zbs(h:p:=by rw[hB.cell (p:=⟨g,o+3,none⟩) (zA11 _ _ c3)];exact c3):p:=h
theorem zbt(h:p:=by rw[eX,←hx,←hm.out];rfl):p:=h
theorem zbu(h:p:=by rw[a7,aI.out];omega):p:=h
theorem zbv(h:p:=by rw[kZ.out];omega):p:=h
theorem zbw(h:p:=by rw[a7,aI.out];kernel_rfl):p:=h
theorem zbx(h:p:=by rw[aa];kernel_rfl):p:=h
theorem zby(h:p:=by rw[a7,hs.out.1];kernel_rfl):p:=h
theorem zbz(h:p:=by rw[a7,hs.out.1];rfl):p:=h
theorem zbA(h:p:=by rw[zA17 zOm];omega):p:=h
theorem zbB(h:p:=by rw[Z5.out.1];exact wI):p:=h
theorem zbC(h:p:=by rw[hs.out.1];exact wI):p:=h
theorem zbD(h:p:=by rw[DD,Yv,hq,NK.out,hv.out,MS (by rw[Z5.out.1];exact wI) (by rw[hs.out.1];exact wI),hx,hy,hz]):p:=h
theorem zbE(h:p:=by rw[zA17 uz];omega):p:=h
theorem zbF(h:p:=by rw[zA5];omega):p:=h
theorem zbG(h:p:=by rw[fC];omega):p:=h
theorem zbH(h:p:=by rw[Hz]at hz⊢;omega):p:=h
theorem zbI(h:p:=by rw[List.replicate_succ',zA16]):p:=h
theorem zbJ(h:p:=by rw[zA8 (by rw[hEl.out];exact zA0 _),←hP.out,←hE.out];rfl):p:=h
theorem zbK(h:p:=by rw[zA17 mA];omega):p:=h
theorem zbL(h:p:=by rw[mT.out];omega):p:=h
theorem zbM(h:p:=by rw[←Aw];exact Cf _ _ _ _):p:=h
theorem zbN(h:p:=by rw[hX.out zOm,r8 k _ n 64 m lm,←Aw,J2,hm]):p:=h
theorem zbO(h:p:=by rw[aa];exact iS):p:=h
theorem zbP(h:p:=by rw[hg.out];exact zA0 _):p:=h
theorem zbQ(h:p:=by rw[ai];unfold maxLen;omega):p:=h
theorem zbR(h:p:=by rw[aa];rfl):p:=h
theorem zbS(h:p:=by first|exact .inl rfl|exact .inr rfl):p:=h
theorem zbT(h:p:=by rw[oO.out];exact FH.out):p:=h
theorem zbU(h:p:=by rw[oO.out];exact hK.out.below hb):p:=h
theorem zbV(h:p:=by rw[kb.cell Qn];exact cZ):p:=h
theorem zbW(h:p:=by unfold maxLen;omega):p:=h
theorem zbX(h:p:=by rw[aC];exact h1):p:=h
theorem zbY(h:p:=by rw[nu.out];omega):p:=h
theorem zbZ(h:p:=by rw[nu.out];exact hd.out.below hb):p:=h
theorem zb0(h:p:=by rw[zA15];simp[aJ];omega):p:=h
theorem zb1(h:p:=by rw[List.take_zero,List.nil_append,zA8 (by simp[aJ];omega)];rfl):p:=h
theorem zb2(h:p:=by simp[aJ];omega):p:=h
theorem zb3(h:p:=by rcases hb with⟨rfl,rfl⟩|⟨b,o,cap,rfl,_⟩<;>exact⟨_,_,rfl⟩):p:=h
theorem zb4(h:p:=by simp;try omega):p:=h
theorem zb5(h:p:=by rw[hG.out];omega):p:=h
theorem zb6(h:p:=by rw[Up.out];exact⟨_,rfl,(show StOwn w.heap.size W6 (F S) v5 from Ht.mono (by rw[hG.out];omega)),kb6⟩):p:=h
theorem zb7(h:p:=by rw[QY.out];exact⟨_,rfl,Ht.mono (show w.heap.size≤W.heap.size by rw[hG.out];omega),kb6⟩):p:=h
theorem zb8(h:p:=by rw[aa];decide):p:=h
theorem zb9(h:p:=by rw[aI.out];kernel_rfl):p:=h
theorem zca(h:p:=by rw[aa,aI.out];decide):p:=h
theorem zcb(h:p:=by simp[aa]):p:=h
theorem zcc(h:p:=by rw[aC];exact h2):p:=h
theorem zcd(h:p:=by exact hS0):p:=h
theorem zce(h:p:=by rw[fI];kernel_rfl):p:=h
theorem zcf(h:p:=by rw[a8];kernel_rfl):p:=h
theorem zcg(h:p:=by grind -lia-linarith):p:=h
theorem zch(h:p:=by clear hx hy;grind -lia-linarith):p:=h
theorem zci(h:p:=by clear hu hv h l1 l3 r1 r3 a1 a2 n1 n2;grind -lia-linarith):p:=h
theorem zcj(h:p:=by clear hu hv h l1 l3 r1 r3 a1 a2 n1 n2 b1;grind -lia-linarith):p:=h
theorem zck(h:p:=by rw[aC];decide):p:=h
theorem zcl(h:p:=by rw[hZ];exact fh _ _ _ _ (a8 _ _ _ _ _ _ _ _ _ _)):p:=h
theorem zcm(h:p:=by rw[fh _ _ _ _ (a8 _ _ _ _ _ _ _ _ _ _)];kernel_rfl):p:=h
theorem zcn(h:p:=by rw[hHl.out];kernel_rfl):p:=h
theorem zco(h:p:=by rw[i7];omega):p:=h
theorem zcp(h:p:=by simp[Value.ownBlock];omega):p:=h
theorem zcq(h:p:=by rw[hB.cell (p:=⟨g,i,none⟩) (zA11 _ _ dP)];exact dP):p:=h
theorem zcr(h:p:=by exact hS):p:=h
theorem zcs(h:p:=by rw[eI,aI.out];kernel_rfl):p:=h
theorem zct(h:p:=by rw[hx.out];exact bK):p:=h
theorem zcu(h:p:=by rw[eh Rm.out (by rw[hx.out];exact bK),if_neg (Nat.lt_irrefl i),gx]):p:=h
theorem zcv(h:p:=by have:=ij Rm.out;rw[hx.out]at this;exact this):p:=h
theorem zcw(h:p:=by rw[nt.out];kernel_rfl):p:=h
theorem zcx(h:p:=by rw[hlR.out];kernel_rfl):p:=h
theorem zcy(h:p:=by have:=zA21 b (2^(m%8));omega):p:=h
theorem zcz(h:p:=by rw[Int.natCast_emod,Int.natCast_mul,Int.emod_emod]):p:=h
theorem zcA(h:p:=by rw[Int.natCast_emod,Int.natCast_pow,Int.emod_emod]):p:=h
theorem zcB(h:p:=by rw[rH];omega):p:=h
theorem zcC(h:p:=by rw[eI];kernel_rfl):p:=h
theorem zcD(h:p:=by rw[hN.out];exact hj):p:=h
theorem zcE(h:p:=by rw[okw.1];omega):p:=h
theorem zcF(h:p:=by rw[(lI bs _).1];omega):p:=h
theorem zcG(h:p:=by rw[hl.out];omega):p:=h
theorem zcH(h:p:=by rw[Qw.out];kernel_rfl):p:=h
theorem zcI(h:p:=by rw[←hp];exact(Int.natCast_mul x y).symm):p:=h
theorem zcJ(h:p:=by rw[lZ.out];exact k3):p:=h
theorem zcK(h:p:=by rw[dK];kernel_rfl):p:=h
theorem zcL(h:p:=by rw[fP.out];exact hltj):p:=h
theorem zcM(h:p:=by rw[hDl.out];exact hlti):p:=h
theorem zcN(h:p:=by have:=ij dF.out;rwa[fW]at this):p:=h
theorem zcO(h:p:=by rw[pI.out];kernel_rfl):p:=h
theorem zcP(h:p:=by rw[Nat.pow_zero,Nat.div_one,Nat.div_one];exact hN.symm):p:=h
theorem zcQ(h:p:=by rw[aZ];exact zA0 _):p:=h
theorem zcR(h:p:=by first|exact⟨_,rfl,kb⟩|exact⟨⟨_,rfl⟩,kb⟩):p:=h
theorem zcS(h:p:=by rw[dS];kernel_rfl):p:=h
theorem zcT(h:p:=by have:=GG.out;omega):p:=h
theorem zcU(h:p:=by rw[hNb.out];omega):p:=h
theorem zcV(h:p:=by intro vs w1 hS hE hD K hK;clear hD;simp only[aG,Act.put,zSa,zSz,zSs]at hK⊢;go_simp;exact hK _ _ ⟨_,rfl,zA14 zLe hE.size,Arr.new _ _ _⟩ (ae _ _) (fun _=>⟨_,rfl,zA0 _⟩)):p:=h
theorem zcW(h:p:=by replace he:=zH he;clear hb;go_wp2_with(refine bM rfl _ _ _ rfl g i (.int .u8 (b:Int)) rfl rfl _ k3 zKr zbO rfl (fun w7 k3 j9 aB=>?_));rw[aL.out]at k3;have qb:=aq kb j9 zbP kb.size;go_wp2_with fail;exact⟨⟨i+1,by omega,by go_num,k3,qb⟩,by simp[intOf];omega⟩):p:=h
theorem zcX(h:p:=by go_wp2_with fail;go_ret;exact⟨rfl,zA6 _ _⟩):p:=h
theorem zcY(h:p:=by go_wp2_with fail;refine zQ (iW _ _) fun wq hw=>?_;obtain rfl:=hw;go_wp2_with fail;refine zQ (iW _ _) fun wq hw=>?_;obtain rfl:=hw;go_wp2_with fail;refine zQ (iW _ _) fun wq hw=>?_;obtain rfl:=hw;go_wp2_with fail;refine zQ (iW _ _) fun wq hw=>?_;obtain rfl:=hw;go_wp2_with fail;refine zQ (iW _ _) fun wq hw=>?_;obtain rfl:=hw;go_wp2_with fail;go_ret;exact⟨rfl,kb⟩):p:=h
theorem zcZ(h:p:=by intro vs w1 hS hE hD;obtain⟨q7,-⟩:=hD;simp only[aG,Act.put,zSa,zSz,zSs]at⊢;rw[show vs 7=_ from q7]at⊢;clear q7;refine⟨_,rfl,fun w'=>zaB,rfl,nofun⟩):p:=h
theorem zc0(h:p:=by intro vs w1 hS hE hD;obtain⟨q3,-⟩:=hD;simp only[aG,Act.put,zSa,zSz,zSs]at⊢;rw[show vs 3=_ from q3]at⊢;clear q3;refine⟨_,rfl,fun w'=>zaB,rfl,nofun⟩):p:=h
theorem zc1(h:p:=by clear Jr;go_wp2_with(refine bM rfl _ _ _ rfl g11 j (.int .u8 (bv:Int)) rfl rfl _ k11 zKr za4 rfl (fun w6 k11 hg aB=>?_));rw[aL.out]at k11;replace k6:=k6.kept hg zOm;replace k7:=k7.kept hg zOm;replace k8:=k8.kept hg zOm;replace kb:=aq kb hg zOm kb.size;go_wp2_with fail;exact⟨⟨j+1,by omega,by go_num,k6,k7,k8,k11,kb⟩,by simp[intOf];omega⟩):p:=h
theorem zc2(h:p:=by have LX:P++E.take (k+1)=P++E.take k++[c]:=(by rw[jX,zA16]);rw[←LX]at c3;obtain⟨q,hq⟩:=zX (7-k);have hq7:7-(k:Int)=(q:Int):=zOm;have JR:(0:Int)≤(q:Int):=zOm;have wI:(q:Int)≤7:=zOm;obtain⟨s,hs⟩:=zX (8*q);have hs8:8*(q:Int)=(s:Int):=zOm;have xO:(0:Int)≤(s:Int):=zOm;have kQ:(s:Int)<64:=zOm;rw[hq,hs]at pH;obtain⟨y,hy⟩:=zX c.toNat;rw[hy]at pH c3;have ly:y<256:=(by rw[←hy];exact c.toNat_lt);obtain⟨rI,-⟩:=k0.l;clear jX LX hy;replace hq:=zH hq;replace hs:=zH hs;go_wp2_with fail;refine c3.out.mono ?_;rintro e w5 ⟨rfl,k0',hg⟩;replace k2:=k2.kept hg zOm;replace kb:=aq kb hg zOm kb.size;clear c3 hg k0 pH rI;go_wp2_with fail;exact⟨⟨k+1,by omega,by congr 1;omega,k2,k0',kb⟩,by simp[intOf];omega⟩):p:=h
theorem zc3(h:p:=by have gN:=my 33 N k bK;rw[tH]at gN;have aL:=fE dF.out gN;have Qr:=k3.cell (dU gm);have oZ:=k3.frozen k;have LH:=BI.out (2*(d:Int)+(c:Int));replace gm:=zH gm;replace gN:=zH gN;replace aL:=zH aL;replace tH:=zH tH;replace xM:=zH xM;replace hd:=zH hd;replace hNk:=zH hNk;go_wp2_with fail;refine⟨⟨k+1,(2*d+c)/256,by omega,by go_num,by rw[show(2*(d:Int)+c)/256=(((2*d+c)/256:Nat):Int) by omega],by omega,xM.out,k2.other zac _,?_,kG.other zb4 _,kb.setCell zac _⟩,by simp[intOf];omega⟩;have:=k3.set k (.int .i64 ((2*(d:Int)+c)%256));rw[show(2*(d:Int)+c)%256=(((2*d+c)%256:Nat):Int) by omega,it,aL.out]at this;rw[show(2*(d:Int)+c)%256=(((2*d+c)%256:Nat):Int) by omega];exact this):p:=h
theorem zc4(h:p:=by go_wp2_with fail;go_ret;exact⟨rfl,kb⟩):p:=h
theorem zc5(h:p:=by grind -lia-linarith):p:=h
theorem zc6(h:p:=by have gc0:=eH gc0;have bo:=k11.cell gc0;have bT:=k11.frozen j;obtain⟨v,hv⟩:=zX y.toNat;rw[hv]at Qq aL IX;have iw1:IntKind.i64.wrap (16*(k:Int)+(j:Int))=16*(k:Int)+(j:Int):=i64_in zOm;have iw2:(16*(k:Int)+(j:Int)).toNat=16*k+j:=zOm;have iw3:(0:Int)≤16*(k:Int)+(j:Int):=zOm;have iw4:16*(k:Int)+(j:Int)<(L.length:Int):=zOm;clear np kW hy hyL;replace aL:=zH aL;replace gc0:=zH gc0;replace hv:=zH hv;go_wp2_with fail;refine⟨⟨j+1,by omega,by go_num,k2.other zab _,k4.other zab _,k5.other zab _,k6.other zab _,?_,kb.setCell zab _⟩,by simp[intOf];omega⟩;have:=k11.set j (.int .i64 (v:Int));rw[iD,aL.out]at this;exact this):p:=h
theorem zc7(h:p:=by rw[nI is a (fun j hj _ BV=>hex ⟨j,hj,BV⟩),mf ds a];rintro⟨j,e⟩ hp rfl;have h3:=zA19.1 tH _ hp;simp only[Bool.and_eq_true,beq_iff_eq]at h3;exact hex ⟨j,by simpa using h3.1.1,h3.1.2⟩):p:=h
theorem zc8(h:p:=by rw[hr]at h2;clear hr;go_enter Tryz.func247,Tryz.ntmps247;exact zcX):p:=h
theorem zc9(h:p:=by rw[hr]at h2;clear hr;go_enter Tryz.func240,Tryz.ntmps240;exact zcX):p:=h
theorem zda(h:p:=by go_wp2_with(first|(refine aE rfl _ _ rfl _ _ rfl zKr _ JT zLn ?_)|(refine aU ?_));exact bodyPost_ret (aj Tryz.results212 _ _ _ rfl zKr _ zaE zLn) rfl ⟨hX.out,ah kb zOm _⟩):p:=h
theorem zdb(h:p:=by subst e;have e2:¬k=j:=fun h=>AP h.symm;rw[if_pos rfl,if_neg e2];rw[aM,decide_eq_false (fun h=>e2 h.symm),Bool.or_false]at sH;exact(hN _ _ _ _ w1 AP hNv (hP k hk sH)).1):p:=h
theorem zdc(h:p:=by subst he;clear ha;go_wp2_with fail;refine Ab.out.mono ?_;rintro e w5 ⟨rfl,v5,k5,FI,hg⟩;have k2:=k2.out.kept hg zOm;have kb:=zH (aq kb.out hg zb5 kb.out.size);have fQ:=zH (StOk.one FI.ok);have FI:=zH FI;clear hg Ab;go_wp2_with(first|(refine aR ?_)|(refine aD rfl _ _ _ rfl _ _ rfl rfl _ k2 zKr rfl fQ.out (fun W6 k2 hg aB=>?_)));have Ht:=FI.out.grown hg zOm;have kb6:=aq kb.out hg zb5 kb.out.size;exact bodyPost_ret (aj Tryz.results135 _ _ _ rfl zKr _ zaE zLn) rfl zb6):p:=h
theorem zdd(h:p:=by replace hq:=zH hq;replace hr:=zH hr;replace hs:=zH hs;clear hx hB;go_wp2_with fail;have e8:((x/2^s%256:Nat):Int)=(x:Int)/2^s%256:=zac;rw[←e8];replace k2:=k2.other (a:=⟨g9,i,none⟩) zab (.int .u8 ((x/2^s%256:Nat):Int));replace k0:=k0.other (a:=⟨g9,i,none⟩) zab (.int .u8 ((x/2^s%256:Nat):Int));replace k9:=k9.set i (.int .u8 ((x/2^s%256:Nat):Int));rw[aL.out]at k9;exact⟨⟨i+1,by omega,by go_num,k2,k0,k9,kb.setCell zab _⟩,by simp[intOf];omega⟩):p:=h
theorem zde(h:p:=by intro vs w1 hS hE hD;obtain⟨q6,-⟩:=hD;simp only[aG,Act.put,zSa,zSz,zSs]at⊢;rw[show vs 6=_ from q6]at⊢;clear q6;refine⟨_,rfl,fun w'=>zaB,rfl,nofun⟩):p:=h
theorem zdf(h:p:=by intro vs w1 hS hE hD;obtain⟨q2,-⟩:=hD;simp only[aG,Act.put,zSa,zSz,zSs]at⊢;rw[show vs 2=_ from q2]at⊢;clear q2;refine⟨_,rfl,fun w'=>zaB,rfl,nofun⟩):p:=h
theorem zdg(h:p:=by have:=fp (a:=x*128%4294967296) (b:=x/33554432) (zA1 _ zDc) (zA9 (zA21 _ _) hx);rw[show((x:Int)*128%4294967296)=((x*128%4294967296:Nat):Int) by omega,show((x:Int)/33554432)=((x/33554432:Nat):Int) by omega];exact this):p:=h
theorem zdh(h:p:=by rintro e w1 ⟨v1,rfl,Ae,hb⟩;have k2:=k2.below hb;have kb:=az kb hb;have kQ:G+3≤W.heap.size:=zOm;have fQ:=zH (StOk.one Ae.ok);clear hb k1 aB c0 kc;have Ae:=zH Ae;go_wp2_with(first|(refine aR ?_)|(refine aD rfl _ _ _ rfl _ _ rfl rfl _ k2 zKr rfl fQ.out (fun W3 k2 hg aB=>?_)));have Ht:=Ae.out.grown hg zOm;have kb6:=aq kb hg zb5 kb.size;exact bodyPost_ret (aj Tryz.results79 _ _ _ rfl zKr _ zaE zLn) rfl zb7):p:=h
theorem zdi(h:p:=by clear fin;go_enter Tryz.func138,Tryz.ntmps138;go_wp2_with fail;go_ret;exact⟨by rw[hv.out];rfl,zA6 _ _⟩):p:=h
theorem zdj(h:p:=by subst e;rw[if_neg vB.1]at h6;rw[List.filter_cons_of_neg zac,List.filter_cons_of_pos (by simp[xP]),List.length_cons,if_pos zac];omega):p:=h
theorem zdk(h:p:=by have aL:=fE dF.out g2;have jX:=k3.cell g1;have pH:=k8.cell g0;have oZ:=k8.frozen k;replace g0:=zH g0;replace g1:=zH g1;replace g2:=zH g2;replace aL:=zH aL;replace hx:=zH hx;go_wp2_with fail;refine⟨⟨k+1,by omega,by go_num,k2.other zab _,k3.other zab _,?_,kb.setCell zab _⟩,by simp[intOf];omega⟩;have:=k8.set k (.int .u8 (x:Int));rw[aL.out]at this;exact this):p:=h
theorem zdl(h:p:=by rw[e2];cases m.testBit j<;>simp only[Bool.not_true,Bool.not_false,Bool.false_eq_true,if_false,if_true,List.length_cons]<;>omega):p:=h
theorem zdm(h:p:=by have Qu:decide (q=a)=false:=decide_eq_false AA;rw[Qu];replace AA:=zH AA;clear Qu;go_wp2_with(first|refine aR ?_|refine aU ?_);exact bodyPost_ret (aT Tryz.results199 _ _ _ _ rfl Tryz.underlying240 rfl _ (k2.setRow _) zaM _ rfl) rfl ⟨by have h1:=hv.out;rw[ee.out,decide_eq_false AA.out,if_neg zDc]at h1;rw[h1,ee.out,decide_eq_false AA.out];rfl,ah kb zOm _⟩):p:=h
theorem zdn(h:p:=by have k2:=ad _ _ zOm k2;have kb:=ak _ _ zOm kb;clear ad ak;go_wp2_with(first|refine aR ?_|refine aU ?_);exact bodyPost_ret (aT Tryz.results199 _ _ _ _ rfl Tryz.underlying240 rfl _ (k2.setRow _) zaM _ rfl) rfl ⟨by have h1:=hv.out;rw[ee.out,AA.out,decide_eq_true rfl,if_pos rfl,if_pos B8.out]at h1;rw[h1,ee.out,AA.out,decide_eq_true rfl];rfl,ah kb zOm _⟩):p:=h
theorem zdo(h:p:=by have hev:X%2=0:=zOm;rw[hev];have B8:=zH sU;clear sU hev;go_wp2_with(first|refine aR ?_|refine aU ?_);exact bodyPost_ret (aT Tryz.results199 _ _ _ _ rfl Tryz.underlying240 rfl _ (k2.setRow _) zaM _ rfl) rfl ⟨by have h1:=hv.out;rw[ee.out,AA.out,decide_eq_true rfl,if_pos rfl,if_neg B8.out]at h1;rw[h1,ee.out,AA.out,decide_eq_true rfl];rfl,ah kb zOm _⟩):p:=h
theorem zdp(h:p:=by have h4:=(mem_ready.1 og).1;obtain⟨o1,Ae,-⟩:=(mem_ready.1 og).2;have nt:i1<l.length:=zay;rw[eM nt,h3]at h4;cases h4):p:=h
theorem zdq(h:p:=by go_wp2_with(refine aU ?_);exact bodyPost_ret (aT Tryz.results165 _ _ _ _ rfl Tryz.underlying242 rfl _ (k2.setRow _) zKr _ rfl) rfl ⟨by rw[hR0.out];rfl,ah kb zOm _⟩):p:=h
theorem zdr(h:p:=by generalize l[j]=y at*;rw[←Re]at c3;clear np bo Re;have jlt:(j:Int)<(l.length:Int):=zOm;go_wp2_with fail;clear Ad;refine c3.out.mono ?_;rintro e w4 ⟨rfl,k0',hg⟩;have k2:=k2.kept hg zOm;have kb:=aq kb hg zOm kb.size;clear c3 hg k0;go_wp2_with fail;exact⟨⟨j+1,by omega,by go_num,k2,k0',kb⟩,by simp[intOf];omega⟩):p:=h
theorem zds(h:p:=by refine ap zKr ?_;go_wp2_with fail;exact⟨⟨j+1,by omega,by go_num,k6,k7,k8,k11,kb⟩,by simp[intOf];omega⟩):p:=h
theorem zdt(h:p:=by have dj:decide ((j:Int)<8)=false:=decide_eq_false zOm;have hje:Hid (j=8):=zH zOm;rw[hje.out,←kQ.out]at z;obtain⟨jc,XR⟩:∃jc:Int,(j:Int)=jc:=⟨_,rfl⟩;rw[XR]at dj⊢;clear XR hje hjn hj mA;go_wp2_with fail;have hf:=hf.out;exact⟨⟨i+1,by omega,by congr 1;omega,z⟩,by simp[intOf];omega⟩):p:=h
theorem zdu(h:p:=by obtain⟨k2,k4,k5,k11⟩:=MQ ad k2 k4 k5 k11;have kb:=ak _ _ zOm kb;clear ad ak;clear bo bT;have e9:(x:Int)+(y:Int)=((x+y:Nat):Int):=(Int.natCast_add x y).symm;rw[e9,iD,aL.out]at k6;clear iw1 e9;go_wp2_with fail;exact⟨⟨i+1,by omega,by go_num,k2,k4,k5,k6,k11,kb⟩,by simp[intOf];omega⟩):p:=h
theorem zdv(h:p:=by go_wp2_with fail;go_ret2;exact⟨K1 hp.out rfl rfl,kb⟩):p:=h
theorem zdw(h:p:=by go_wp2_with(refine aQ rfl _ _ _ rfl _ _ rfl rfl _ k6 zcK (by rw[dK];exact wK.out) (tE _) ?_);refine⟨⟨k+1,V,by omega,by rw[show 16*(k:Int)+16=16*((k+1:Nat):Int) by omega],hVV.out,k2.row_other zOm _,k4.row_other zOm _,k5.row_other zOm _,k6.setRow _,ah kb zOm _⟩,by simp[intOf];omega⟩):p:=h
theorem zdx(h:p:=by rw[if_neg e];rw[aM,decide_eq_false (Ne.symm e),Bool.or_false]at zo;exact hΦ _ _ _ _ (hP j hj zo) hE2):p:=h
theorem zdy(h:p:=by intro vs w1 hS hE hD K hK;obtain⟨q5,-⟩:=hD;simp only[aG,Act.put,zSa,zSz,zSs]at hK⊢;obtain⟨d5,e5,Q8⟩:=q5;rw[e5]at hK⊢;rw[show vs _=_ from e5]at Q8;clear e5;go_simp;refine(cI.out _ _ Q8).mono ?_;rintro e w2 ⟨g,c',rfl,dI,hb2⟩;exact hK _ _ ⟨(g,c'),rfl,dI⟩ hb2 nofun):p:=h
theorem zdz(h:p:=by generalize 2*(z1*z2)*d=w;generalize c+x1*x2*y1*y2=s;generalize c-x1*x2*y1*y2=t;clear hx hy ha hb hk hz he hp hq h1 h2 k1 k2 k3 k4 wn dn;exact zc5):p:=h
theorem zdA(h:p:=by go_wp2_with fail;go_ret;exact⟨rfl,rfl⟩):p:=h
theorem zdB(h:p:=by rw[if_neg e2];rw[aM,decide_eq_false (Ne.symm e2),Bool.or_false]at sH;exact hR j hj k hk zo sH AP):p:=h
theorem zdC(h:p:=by obtain⟨v',w',hr,h2,h3⟩:=mG (P:=P) t o.type e ht hi hz qj tG Pp cf dI h1 Nh mY ut;unfold Oper.wp execOp;simp only[ho,resolve,invoke,builtin,Sem.run_bind,Sem.run_pure,Result.andThen_ok,List.map_toArray,List.map_cons,List.map_nil,hs,hx,hr];exact hK _ _ (h v' w' h2 h3)):p:=h
theorem zdD(h:p:=by exact jl (t:=135) (e:=3) (n:=16) zKr zKr zKr Tryz.underlying135 Tryz.underlying3 zKr zKr zDc h1):p:=h
theorem zdE(h:p:=by obtain rfl:k=32:=zOm;have dB:ea 32 (ay Z) (ay 0)=ay Z:=(by have:=ij dF.out;rwa[aZ]at this);rw[dB]at k8;clear dB;go_wp2_with(first|refine aR ?_|refine aU ?_);exact bodyPost_ret (aj Tryz.results157 _ _ _ rfl zKr _ zaE zLn) rfl ⟨lO.out,ah kb zOm _⟩):p:=h
theorem zdF(h:p:=by go_enter Tryz.func3,Tryz.ntmps3;go_wp2_with fail;refine zQ (vY _) fun w1 kb=>?_;exact zc4):p:=h
theorem zdG(h:p:=by intro k hk;have Zw:¬i=k:=fun e=>hk zav;rw[aM,decide_eq_false Zw,Bool.or_false,hm k hk]):p:=h
theorem zdH(h:p:=by exact hK _ _ rfl hb2 nofun):p:=h
theorem zdI(h:p:=by have fk:IntKind.i64.wrap ((b:Int)+(k:Int))=((b+k:Nat):Int):=zaY;refine eZ ?_ 0 1023 zaC [8,9] (fun _ _=>zRd) ?_;refine ap zKr ?_;go_wp2_with fail;exact⟨⟨b+k,pad',by omega,Uo,by go_num,k9,Ej.out,kb⟩,by simp[intOf];omega⟩):p:=h
theorem zdJ(h:p:=by have vD:is.Nodup:=nX.imp (fun h=>h.1);have:=key is vD;rw[if_pos iO]at this;omega):p:=h
theorem zdK(h:p:=by rintro e w9 ⟨rfl,k8,hg⟩;rw[ep.out]at k8;replace k6:=k6.kept hg zOm;replace k7:=k7.kept hg zOm;replace kb:=aq kb hg zOm kb.size;go_wp2_with fail;exact⟨⟨i+1,by omega,by go_num,k6,k7,k8,kb⟩,by simp[intOf];omega⟩):p:=h
theorem zdL(h:p:=by replace kb:=az kb (a9 hg);have nu:=a8 ver b root (.slice (some ⟨gw,0,none⟩) 80 cw) i k R1 s1 RS SS;obtain⟨g7,lW⟩:=zX w1.heap.size;rw[lW]at k7⊢;clear hg aB lW;have yb:=BM k7 (t:=1) (u:=.int .i64 b) rfl;exact zc4):p:=h
theorem zdM(h:p:=by replace BX:=zH BX;go_wp2_with fail;go_ret;exact vC.out _ (fun h=>by have:=h.s0;simp only[s0]at this;cases this) kb):p:=h
theorem zdN(h:p:=by have:=fp (a:=x*4096%4294967296) (b:=x/1048576) (zA1 _ zDc) (zA9 (zA21 _ _) hx);rw[show((x:Int)*4096%4294967296)=((x*4096%4294967296:Nat):Int) by omega,show((x:Int)/1048576)=((x/1048576:Nat):Int) by omega];exact this):p:=h
theorem zdO(h:p:=by have:=fp (a:=x*256%4294967296) (b:=x/16777216) (zA1 _ zDc) (zA9 (zA21 _ _) hx);rw[show((x:Int)*256%4294967296)=((x*256%4294967296:Nat):Int) by omega,show((x:Int)/16777216)=((x/16777216:Nat):Int) by omega];exact this):p:=h
theorem zdP(h:p:=by have:=fp (a:=x*65536%4294967296) (b:=x/65536) (zA1 _ zDc) (zA9 (zA21 _ _) hx);rw[show((x:Int)*65536%4294967296)=((x*65536%4294967296:Nat):Int) by omega,show((x:Int)/65536)=((x/65536:Nat):Int) by omega];exact this):p:=h
theorem zdQ(h:p:=by go_wp2_with(refine aQ rfl 240 _ _ rfl w2.heap.size (aw 4 (a+18446744073709551616^4-b)) rfl rfl _ (Arr.new _ _ _) zao (by rw[aF];rfl) (lw _ _) ?_);go_ret;exact⟨by simp[bK],ah (nj.out.alloc hz.out _) hz.out _⟩):p:=h
theorem zdR(h:p:=by subst e2;rw[if_pos rfl];exact(hN _ _ _ _ w1 (Ne.symm e) hNv (hP j hj zo)).2):p:=h
theorem zdS(h:p:=by have s1:=zH s1;go_wp2_with fail;go_ret;exact⟨_,rfl,by simp only[true_iff];exact BX.out s0.out s1.out,kb⟩):p:=h
theorem zdT(h:p:=by replace rI:=zH rI;replace FB:=zH FB;clear QS;replace ZH:=zH ZH;go_wp2_with fail;refine⟨⟨z+1,jB,k2,k0',kb⟩,?_⟩;rw[rI.out,FB.out];simp only[Option.getD_some,intOf,Int.toNat_natCast];have:=ZH.out;omega):p:=h
theorem zdU(h:p:=by go_wp2_with fail;go_ret;exact⟨by rw[←hV.out];rfl,kb⟩):p:=h
theorem zdV(h:p:=by replace z:=z.kept (bY wr g9 i (.int .u8 ((x/2^s%256:Nat):Int))) FE;replace k9:=k9.set i (.int .u8 ((x/2^s%256:Nat):Int));rw[aL.out]at k9;exact⟨⟨i+1,by omega,by go_num,k9,z⟩,by simp[intOf];omega⟩):p:=h
theorem zdW(h:p:=by obtain⟨k5,k7⟩:=rR ad k5 k7;have kb:=ak _ _ zOm kb;clear ad ak;go_wp2_with fail;exact bodyPost_ret (aT Tryz.results97 _ _ _ _ rfl Tryz.underlying137 rfl (rq ⟨R,Y,1,MR⟩) k2 zcC _ rfl) rfl zcR):p:=h
theorem zdX(h:p:=by intro vs w' h1 h2 h3 h4;rw[pR slots a ee.1.1.2];refine H vs w' h1 h2 (EY Φ (fun q hq=>h3 q.1 ?_)) (fun i j hi hj xN=>h4 i zag j zax (by simpa using xN));rw[←ee.1.2];exact List.mem_map_of_mem hq):p:=h
theorem zdY(h:p:=by have cZ:=k2.cell (bH _ k bK);have oZ:=k2.frozen k;go_wp2_with fail;refine⟨⟨k+1,by omega,by go_num,k1.other zab _,?_,kb.setCell zab _⟩,by simp[intOf];omega⟩;rw[←D5 k bK];exact k2.set k _):p:=h
theorem zdZ(h:p:=by simp only[bF,List.range_succ_eq_map,List.map_cons,List.map_map,Nat.pow_zero,Nat.div_one];congr 1;apply List.map_congr_left;intro i _;simp only[Function.comp_apply,zA24,Nat.mul_comm (b^i) b,zA22]):p:=h
theorem zd0(h:p:=by have h0:(is.filter fun i=>!m.testBit i)≠[]:=(by intro h;rw[h]at hn;simp at hn);obtain⟨i,hi⟩:=List.exists_mem_of_ne_nil _ h0;rw[List.mem_filter]at hi;exact⟨i,hi.1,by simpa using hi.2⟩):p:=h
theorem zd1(h:p:=by have kb:=ak _ _ zOm kb;clear ad ak;go_wp2_with fail;exact bodyPost_ret (aT Tryz.results165 _ _ _ _ rfl Tryz.underlying242 rfl (ui X y 1 (X*y%pN)) k2 zba _ rfl) rfl ⟨by rw[hR0.out];rfl,kb⟩):p:=h
theorem zd2(h:p:=by refine⟨_,rfl,fun w'=>zaB,rfl,nofun⟩):p:=h
theorem zd3(h:p:=by refine wp_scope_jumps l J μ hf (first (fun a w hJ=>Code.wp_mono ?_ (pass a w hJ))) (fun a w hJ=>wp_seq (wp_skip (pass a w hJ)));intro e a w h;cases e<;>first|exact h|exact⟨h.1,h.2.1⟩):p:=h
theorem zd4(h:p:=by obtain⟨k2,k3⟩:=rR ad k2 k3;have kb:=ak _ _ zOm kb;clear ad ak;clear bo bT;rw[it,aL.out]at k1;go_wp2_with fail;exact⟨⟨i+1,by omega,by go_num,k1,k2,k3,kb⟩,by simp[intOf];omega⟩):p:=h
theorem zd5(h:p:=by have Av:j<bs.length:=zcL;have:=GN Av (16-j);rw[show bs[j]=y from by rw[zA7 Av]at hy;exact Option.some.inj hy,show 16-j+1=17-j by omega]at this;rw[show 17-(j+1)=16-j by omega];exact this):p:=h
theorem zd6(h:p:=by refine wpOp_mono (fun a' w' h3=>⟨h3.2.1,ih (listed.setIfInBounds j true) a' w' yg (ready_mono hr (Ne.symm rS)) h3.1 h3.2.1 ?_⟩) h2;rw[Array.setIfInBounds_comm _ _ rS];exact h3.2.2):p:=h
theorem zd7(h:p:=by go_wp2_with fail;go_ret;exact vC.out _ (fun h=>by have:=h.s1;simp only[s1]at this;cases this) kb):p:=h
theorem zd8(h:p:=by go_enter Tryz.func146,Tryz.ntmps146;go_wp2_with fail;go_ret;exact⟨by rw[hv.out];rfl,zA6 _ _⟩):p:=h
theorem zd9(h:p:=by exfalso;unfold df at h1;rw[LY]at h1;obtain⟨x,hx,hb⟩:=Array.any_eq_true.1 h1;simp only[Bool.and_eq_true,beq_iff_eq]at hb;exact vC _ (Array.getElem_mem hx) hb.1 hb.2):p:=h
theorem zea(h:p:=by obtain⟨k,-,hk⟩:=List.any_eq_true.1 h1;simp only[Bool.and_eq_true,Bool.not_eq_true']at hk;have h2:=nY k hk.2;rw[hm k (by simpa using hk.1.2),hk.1.1]at h2;cases h2):p:=h
theorem zeb(h:p:=by subst rS;simp only[if_neg AO];exact hy.wpOp hi hS ⟨hS,H⟩):p:=h
theorem zec(h:p:=by go_ret;exact⟨_,rfl,kb.size,Arr.new _ _ _,az kb (ae _ _)⟩):p:=h
theorem zed(h:p:=by intro h3 h4;obtain⟨g,rfl,h5⟩:=vH Φ h1 h3;obtain⟨g',rfl,h6⟩:=Kf Φ h2 h4;intro h;simp only[Value.pointer.injEq,Option.some.injEq,Addr.mk.injEq]at h;omega):p:=h
theorem zee(h:p:=by replace k3:=(congrArg (Arr _ g3) ep.out).mp k3;refine⟨rfl,⟨g2,g3,t+1,⟨by omega,j9,kZ,rK,k0,k2,k3,kg⟩,rfl,rfl,rfl,rfl,rfl,rfl⟩,?_⟩;simp[intOf];omega):p:=h
theorem zef(h:p:=by have hbe:Hid (b=n):=zH zOm;rw[hbe.out]at k9;have dj:decide ((b:Int)<(n:Int))=false:=decide_eq_false zOm;go_wp2_with fail;go_ret;exact⟨g,pad,rfl,rK,k9,kb⟩):p:=h
theorem zeg(h:p:=by obtain⟨x,-,rfl⟩:=hv;rfl):p:=h
theorem zeh(h:p:=by exact⟨⟨k+1,by omega,by go_num,by rw[L7.out,AQ.out],k1.other zab _,k2.other zac _,k3.other zac _,ep,(kb.setCell zab _).drew⟩,by simp[intOf];omega⟩):p:=h
theorem zei(h:p:=by intro vs w1 hS hE hD K hK;clear hD;simp only[aG,Act.put,zSa,zSz,zSs]at hK⊢;go_simp;refine zQ (cU.out _ _ _ (rK.out.below hS)) fun w2 hb2=>?_;exact zdH):p:=h
theorem zej(h:p:=by rw[←fA.out];go_wp2_with(refine aU ?_);exact⟨⟨m,by omega,rfl,k2.row_other zOm _,k3.setRow _,kG.row_other zOm _,ah kb zOm _⟩,by simp[intOf]⟩):p:=h
theorem zek(h:p:=by clear k1 k3;go_wp2_with(first|refine aR ?_|refine aU ?_);exact bodyPost_ret (aj Tryz.results170 _ _ _ rfl zKr _ zaE zLn) rfl ⟨rfl,ah kb zOm _⟩):p:=h
theorem zel(h:p:=by rw[eh dF.out (by rw[fW];exact bK),if_neg (Nat.lt_irrefl k),my _ _ _ bK,hd]):p:=h
theorem zem(h:p:=by go_wp2_with fail;refine zQ (iW _ _) fun wq hw=>?_;obtain rfl:=hw;exact zcY):p:=h
theorem zen(h:p:=by rw[pS is a nX hj (nY j h3.2) BV bK,nQ ds a Jt h2 bK]):p:=h
theorem zeo(h:p:=by intro vs w1 hS hE hD K hK;clear hD;simp only[aG,Act.put,zSa,zSz,zSs]at hK⊢;go_simp;exact hK _ _ ⟨_,rfl,Sl.new1 _ _ _⟩ (ae _ _) nofun):p:=h
theorem zep(h:p:=by have:=zA19.1 aB j hj;rw[BV]at this;simpa using this):p:=h
theorem zeq(h:p:=by have q:=h5 ⟨d,0,none⟩ rfl 0 _ rfl;rw[show(Addr.add ⟨d,0,none⟩ 0)=⟨d,0,none⟩from rfl,hz]at q;exact jB _ (Option.some.inj q)):p:=h
theorem zer(h:p:=by go_wp2_with(first|refine aR ?_|refine aU ?_);exact bodyPost_ret (aj Tryz.results196 _ _ _ rfl zKr _ zaE zLn) rfl ⟨rfl,ah kb zOm _⟩):p:=h
theorem zes(h:p:=by obtain⟨vs2,⟨aS,cS,he,-⟩,pI,-⟩:=hS;exact⟨aS,cS,by rw[he,pI]⟩):p:=h
theorem zet(h:p:=by go_wp2_with(first|refine aR ?_|refine aU ?_);exact bodyPost_ret (aj Tryz.results60 _ _ _ rfl zKr _ zaE zLn) rfl ⟨rfl,ah kb zOm _⟩):p:=h
theorem zeu(h:p:=by intro vs w1 hS hE hD;obtain⟨q11,-⟩:=hD;simp only[aG,Act.put,zSa,zSz,zSs]at⊢;rw[show vs 11=_ from q11]at⊢;clear q11;exact zd2):p:=h
theorem zev(h:p:=by simp only[List.take_nil,zA31,List.length_nil,Nat.add_zero,List.take_append_drop]at h;rwa[setRow_self w g xs.toArray T (0,0) hg]at h):p:=h
theorem zew(h:p:=by replace k0:=k0.set (m:=lg2);exact⟨⟨i+1,by omega,by go_num,k2,by rw[Ho.out];exact k0,kb.setCell zab _⟩,by simp[intOf];omega⟩):p:=h
theorem zex(h:p:=by constructor<;>omega):p:=h
theorem zey(h:p:=by intro vs w1 hS hE hD;obtain⟨q5,-⟩:=hD;simp only[aG,Act.put,zSa,zSz,zSs]at⊢;rw[show vs 5=_ from q5]at⊢;clear q5;exact zd2):p:=h
theorem zez(h:p:=by rw[if_pos xN,if_pos (List.mem_cons_of_mem _ xN)]):p:=h
theorem zeA(h:p:=by rw[fM,fM,List.set_append_right _ _ zbc,bV,hh,List.set_append_right _ _ zbd,bV,ip.1,List.set_append_right _ _ zaV,ai,hb];rfl):p:=h
theorem zeB(h:p:=by rw[fL,fL,List.set_append_right _ _ zaS,a7,hh,List.set_append_right _ _ zaT,a7,im.1,List.set_append_right _ _ zaV,ai,hb];rfl):p:=h
theorem zeC(h:p:=by intro t ht;rw[uN];have h1:=zA19.1 aB i iO;have jR:gd l i=some t:=(by unfold gd;rw[sS];exact ht);rw[jR]at h1;simpa using h1):p:=h
theorem zeD(h:p:=by simp[IntKind.wrap,IntKind.bits,IntKind.signed]):p:=h
theorem zeE(h:p:=by refine ap zKr ?_;go_wp2_with fail;exact bodyPost_ret (aj Tryz.results216 _ _ _ rfl zKr _ k4 zbx) rfl ⟨hXe.out,qb⟩):p:=h
theorem zeF(h:p:=by go_wp2_with fail;go_ret;exact⟨rfl,ae _ _⟩):p:=h
theorem zeG(h:p:=by go_enter Tryz.func240,Tryz.ntmps240;exact zcX):p:=h
theorem zeH(h:p:=by go_enter Tryz.func163,Tryz.ntmps163;exact zcX):p:=h
theorem zeI(h:p:=by intro i hi;have h0:=List.eq_nil_of_length_eq_zero hn;rw[List.filter_eq_nil_iff]at h0;have:=h0 i hi;simpa using this):p:=h
theorem zeJ(h:p:=by rw[List.contains_iff_mem.2 ht]at h1;cases h1):p:=h
theorem zeK(h:p:=by rw[em];exact H vs w1 hS1 hE (fun i hi=>hP i hi (dB i hi)) (fun i hi j hj xN=>hR i hi j hj (dB i hi) (dB j hj) xN)):p:=h
theorem zeL(h:p:=by rw[Cb.out]at k3;exact⟨rfl,by have:=hY.out;simp only[if_true]at this;rw[←this];exact k3,aN kg (bY _ _ _ _)⟩):p:=h
theorem zeM(h:p:=by refine propext ⟨fun h1=>G5 ((List.map_inj_right (fun a b h=>Int.ofNat.inj h)).1 h1) hm hn,?_⟩;rintro rfl;rfl):p:=h
theorem zeN(h:p:=by refine ap zKr ?_;go_wp2_with fail;exact⟨⟨t+1,by omega,by omega,by go_num,k2,k3,kb⟩,by simp[intOf];omega⟩):p:=h
theorem zeO(h:p:=by simp only[lJ,Bool.and_eq_true,beq_iff_eq]at ee;obtain⟨⟨rfl,rfl⟩,-⟩:=ee;rw[show a=A from h w hS];exact H):p:=h
theorem zeP(h:p:=by refine ap zKr ?_;go_wp2_with fail;exact⟨⟨t+1,by omega,by omega,by go_num,kw,z⟩,by simp[intOf];omega⟩):p:=h
theorem zeQ(h:p:=by unfold dD;have:=zA1 (k-k%8) (show 0<2^254 by decide);omega):p:=h
theorem zeR(h:p:=by rw[zA2 zab,List.length_map,zA15,fP.out,Nat.min_eq_left zOm,Nat.sub_self,List.getElem?_replicate,if_pos zOm]):p:=h
theorem zeS(h:p:=by rw[BitVec.ofInt_natCast,BitVec.toNat_ofNat];exact zA4 zOm):p:=h
theorem zeT(h:p:=by rw[show zw z=false by simpa using q5];go_wp2_with fail;go_ret;exact vC.out _ (Jp.out (fun h=>q5 h.1)) kb):p:=h
theorem zeU(h:p:=by refine ap zKr ?_;go_wp2_with fail;exact⟨⟨i+1,by omega,by go_num,k0,k3,kg⟩,by simp[intOf];omega⟩):p:=h
theorem zeV(h:p:=by rw[zA2 zab,List.length_map,zA15,fP.out,Nat.min_self,Nat.sub_self,List.getElem?_replicate,if_pos zOm]):p:=h
theorem zeW(h:p:=by rw[ep.out]at k3;exact⟨⟨i+1,by omega,by go_num,k2,k3,kb.setCell zab _⟩,by simp[intOf];omega⟩):p:=h
theorem zeX(h:p:=by refine ap zKr ?_;go_wp2_with fail;exact⟨⟨j+1,by omega,by go_num,kv,z⟩,by simp[intOf];omega⟩):p:=h
theorem zeY(h:p:=by have h1:=nM (b/2^(m%8)) zcy;rw[kK]at h1;rw[←h1];simp):p:=h
theorem zeZ(h:p:=by exact bodyPost_ret (aj Tryz.results117 _ _ _ rfl zKr _ (k2.setRow _) zcK) rfl ⟨rfl,ah kb zOm _⟩):p:=h
theorem ze0(h:p:=by refine .inr ⟨b,o,cap,rfl,h1,h2,h3,zA3 h4 hg.size,fun j u hu=>?_⟩;exact hg.cell (h5 j u hu) zaf):p:=h
theorem ze1(h:p:=by rw[iD,aL.out]at this;exact this):p:=h
theorem ze2(h:p:=by exact⟨rfl,by rw[←hY.out,if_neg qJ];exact k2,kg⟩):p:=h
theorem ze3(h:p:=by rw[←e]at hj;rw[nY j hj,Bool.true_or]):p:=h
theorem ze4(h:p:=by simp[IntKind.wrap,IntKind.bits,IntKind.signed];omega):p:=h
theorem ze5(h:p:=by exact⟨⟨j+1,by omega,by congr 1;omega,by rw[jX.out,←zA16];exact k2,kb⟩,by simp[intOf]⟩):p:=h
theorem ze6(h:p:=by rw[show((b3:Int)*16777216)=((2^24*b3:Nat):Int) by omega,eV zOm,fp zOm zOm,zx (k:=24) zOm];rfl):p:=h
theorem ze7(h:p:=by have:=(zA18.1 hu).1;rwa[ai,hl]at this):p:=h
theorem ze8(h:p:=by have hv:=fin (b:=false) zab;exact zdi):p:=h
theorem ze9(h:p:=by replace z:=z.kept hg Zq;exact⟨⟨t+1,by omega,by go_num,kw,kv,z⟩,by simp[intOf];omega⟩):p:=h
theorem zfa(h:p:=by rw[if_neg xN,if_neg (by simp[e,xN])]):p:=h
theorem zfb(h:p:=by go_wp2_with fail;exact⟨⟨r+1,by omega,by go_num,k6,k7,k8,kb⟩,by simp[intOf];omega⟩):p:=h
theorem zfc(h:p:=by go_enter Tryz.func148,Tryz.ntmps148;go_wp2_with fail;go_ret;exact⟨by simp;omega,rfl⟩):p:=h
theorem zfd(h:p:=by unfold execOp;simp only[ho,Sem.run_bind,run_build w t _ cells hc,Result.andThen_ok];rfl):p:=h
theorem zfe(h:p:=by have:=ready_mono hj rS;rw[H.1]at this;cases this):p:=h
theorem zff(h:p:=by have:=hx.2.2.1;have:=hy.2.2.1;omega):p:=h
theorem zfg(h:p:=by rw[show((b2:Int)*65536)=((2^16*b2:Nat):Int) by omega,eV zOm,fp zOm zOm,zx (k:=16) zOm]):p:=h
theorem zfh(h:p:=by rw[eh dF.out (by rw[aZ];exact bK),if_neg (Nat.lt_irrefl k),bH 0 k bK,Nat.zero_div];rfl):p:=h
theorem zfi(h:p:=by rw[e9.out,aL.out]at this;rw[e9.out];exact this):p:=h
theorem zfj(h:p:=by rw[show((b1:Int)*256)=((2^8*b1:Nat):Int) by omega,eV zOm,fp zOm zOm,zx (k:=8) zOm]):p:=h
theorem zfk(h:p:=by go_wp2_with fail;exact⟨⟨q+1,by omega,by go_num,kw,z⟩,by simp[intOf];omega⟩):p:=h
theorem zfl(h:p:=by rw[show(d31:Int)%128=((d31%128:Nat):Int) by omega];exact Yf (d31%128) (zA1 _ zDc)):p:=h
theorem zfm(h:p:=by intro b h;rw[iy,h j zac];exact ihj b (fun i hi=>h i (List.mem_cons_of_mem _ hi))):p:=h
theorem zfn(h:p:=by go_wp2_with fail;go_ret;exact⟨xl zb4,kb⟩):p:=h
theorem zfo(h:p:=by go_wp2_with fail;exact⟨⟨m,by omega,rfl,k2,k4,k5,k6,kb⟩,by simp[intOf]⟩):p:=h
theorem zfp(h:p:=by rw[List.take_succ_eq_append_getElem zab,List.take_set_of_le (zA0 _),h2];simp):p:=h
theorem zfq(h:p:=by subst e;rw[if_pos rfl];exact hv):p:=h
theorem zfr(h:p:=by obtain⟨b,ds',h1,h2⟩:=kn is dss h.2 i hi;exact⟨b,ds',by simp[h1],h2⟩):p:=h
theorem zfs(h:p:=by rw[wP];exact zA3 (zA1 _ (Nat.pow_pos zDc)) (Nat.pow_le_pow_right zDc zOm)):p:=h
theorem zft(h:p:=by have:=k11.set n (.int .i64 ((1:Nat):Int));rw[iD,nq.out]at this;exact this):p:=h
theorem zfu(h:p:=by apply List.map_congr_left;intro x hx;have:=nD 256 k a zDc x hx;simp;omega):p:=h
theorem zfv(h:p:=by simpa using this):p:=h
theorem zfw(h:p:=by rw[zA13 (by rw[zA23,aF];omega),zA13 zal]):p:=h
theorem zfx(h:p:=by subst rS;simp only[if_neg AO];exact hy.yieldsIf.wpOp hi hS ⟨hS,H⟩):p:=h
theorem zfy(h:p:=by simp[aJ,List.map_set]):p:=h
theorem zfz(h:p:=by rw[if_neg h2,if_neg zOm]):p:=h
theorem zfA(h:p:=by rw[eh dF za4,if_neg (Nat.lt_irrefl k),bX 64 0 k zOm,Nat.zero_div];rfl):p:=h
theorem zfB(h:p:=by have:p*(c+1+1)=p*c+p+p:=(by simp only[Nat.mul_add,Nat.mul_one]);omega):p:=h
theorem zfC(h:p:=by rw[List.range_succ,List.foldl_append,List.foldl_cons,List.foldl_nil]):p:=h
theorem zfD(h:p:=by have h2:=Mw;have h3:(18446744073709551616:Nat)^4≤256^33:=zDc;omega):p:=h
theorem zfE(h:p:=by have:=ih _ h.2 i hi;rw[aM,Bool.or_eq_false_iff]at this;exact this.1):p:=h
theorem zfF(h:p:=by rename_i hw;rw[if_pos hw]at FG;exact .inl (MP Qv (tF ZO sV) FG wH)):p:=h
theorem zfG(h:p:=by rw[getD_set_ne true AP]at xP;exact xP):p:=h
theorem zfH(h:p:=by unfold UB;apply Fin.ext;rw[ix,ix,ix,Nat.mod_mod,←Nat.pow_mod]):p:=h
theorem zfI(h:p:=by rw[show t+1-16=t-16+1 by omega,jV,show 16+(t-16)=t by omega,zL]):p:=h
theorem zfJ(h:p:=by rw[show t+1-16=t-16+1 by omega,jU,show 16+(t-16)=t by omega,eX]):p:=h
theorem zfK(h:p:=by rw[mB Av]at this;cases this):p:=h
theorem zfL(h:p:=by rw[eM Av]at this;exact this):p:=h
theorem zfM(h:p:=by obtain⟨bs,h1,h2,h3⟩:=h;exact⟨bs,h1,h2,h3.below hb⟩):p:=h
theorem zfN(h:p:=by rw[←e2,zA8 (by rw[zA23];omega)]):p:=h
theorem zfO(h:p:=by go_wp2_with fail;go_ret;exact⟨by rw[ht.out]<;>rfl,kb⟩):p:=h
theorem zfP(h:p:=by clear hP hQ h0 hp qU As;exact zc5):p:=h
end
end Go.Proofs.YtgfkgolafkdjfaaGreatDoor
