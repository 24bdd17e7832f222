/- Merged of several texts of this session's by merge.py. -/
import Derived.IntWalk
import Derived.Test.YtoiockmmlanimaaDoorMw8
import Derived.KernelRfl
import Derived.Test.YtoiockmmlanimaaDoorMw9
import Derived.ProofKit
import Derived.LaidMore
import Derived.OpenShut
import Derived.Test.YtoiockmmlanimaaDoorRows
import Derived.Test.YtoiockmmlanimaaDoorMw6
import Derived.Test.YtoiockmmlanimaaDoorCards
import Derived.Test.YtoiockmmlanimaaDoorTie
import Derived.WalkKit
import Derived.Below
import Derived.Carry
import Derived.Deep.DeepHandedRow
import Derived.Deep.DeepLaidRun
import Derived.Test.YtoiockmmlanimaaDoorMw2
import Derived.HandedShaped
import Derived.Test.YtoiockmmlanimaaDoorMw10
section
/- Layer 14, the plain side: digits, pieces, which parts may be, in the program. No program in sight. -/
namespace Go.Proofs.YtoiockmmlanimaaDoor.Pure
open Go.RowKit Go.Proofs.YtoiockmmlanimaaDoor.Hw Go.Proofs.YtoiockmmlanimaaDoorW.PrintWords Go.Proofs.YtoiockmmlanimaaDoorW.PrintLast Go.Proofs.YtoiockmmlanimaaDoorW.PrintMore
set_option linter.unusedVariables false
set_option linter.unusedSimpArgs false
abbrev Part := S46
abbrev Piece := S63
abbrev Pick := S61
abbrev rdP (l : List Part) (i : Nat) : Part := rd_T46 l (i : Int)
abbrev rdC (l : List Piece) (i : Nat) : Piece := rd_T63 l (i : Int)
abbrev rdK (l : List Pick) (i : Nat) : Pick := rd_T61 l (i : Int)
theorem dropP (l : List Part) (i : Nat) (h : i < l.length) : l.drop i = rdP l i :: l.drop (i + 1) := by
  rw [List.drop_eq_getElem_cons h]
  congr 1
  show l[i] = l.getD (i : Int).toNat _
  rw [Int.toNat_natCast, List.getD_eq_getElem?_getD, List.getElem?_eq_getElem h]
  rfl
theorem dropC (l : List Piece) (i : Nat) (h : i < l.length) : l.drop i = rdC l i :: l.drop (i + 1) := by
  rw [List.drop_eq_getElem_cons h]
  congr 1
  show l[i] = l.getD (i : Int).toNat _
  rw [Int.toNat_natCast, List.getD_eq_getElem?_getD, List.getElem?_eq_getElem h]
  rfl
theorem dropK (l : List Pick) (i : Nat) (h : i < l.length) : l.drop i = rdK l i :: l.drop (i + 1) := by
  rw [List.drop_eq_getElem_cons h]
  congr 1
  show l[i] = l.getD (i : Int).toNat _
  rw [Int.toNat_natCast, List.getD_eq_getElem?_getD, List.getElem?_eq_getElem h]
  rfl
theorem memP (l : List Part) (i : Nat) (h : i < l.length) : rdP l i ∈ l := by
  have : rdP l i ∈ l.drop i := by rw [dropP l i h]; exact List.mem_cons_self
  exact List.mem_of_mem_drop this
theorem memC (l : List Piece) (i : Nat) (h : i < l.length) : rdC l i ∈ l := by
  have : rdC l i ∈ l.drop i := by rw [dropC l i h]; exact List.mem_cons_self
  exact List.mem_of_mem_drop this
theorem memK (l : List Pick) (i : Nat) (h : i < l.length) : rdK l i ∈ l := by
  have : rdK l i ∈ l.drop i := by rw [dropK l i h]; exact List.mem_cons_self
  exact List.mem_of_mem_drop this
theorem w1 (i : Nat) (h : i ≤ 4611686018427387904) : wrap64 ((i : Int) + 1) = ((i + 1 : Nat) : Int) := by
  rw [IntWalk.wrap64_in _ (by omega)]
  omega
/-! ### Digits -/
theorem len_eq (a : ByteArray) : a.data.toList.length = a.size := Array.length_toList (xs := a.data)
theorem bt_get (a : ByteArray) (i : Nat) (h : i < a.size) : ∃ c, a.data.toList.drop i = c :: a.data.toList.drop (i + 1) ∧ bt a (i : Int) = (c.toNat : Int) := by
  have hl : i < a.data.toList.length := by rw [len_eq]; exact h
  refine ⟨a.data.toList[i], List.drop_eq_getElem_cons hl, ?_⟩
  unfold bt
  rw [dif_pos (by rw [Int.toNat_natCast]; exact h)]
  simp only [Int.toNat_natCast, Array.getElem_toList]
  rfl
def D (a : ByteArray) : Bool := a.data.toList.all Sha.hb && decide (a.size = 64)
theorem digits_go (a : ByteArray) (hs : a.size ≤ 1048576) : ∀ n i k, i + n = a.size → n < k → chain_digits.l0 k a (a.size : Int) (i : Int) = some ((a.data.toList.drop i).all Sha.hb && decide (a.size = 64)) := by
  intro n
  induction n with
  | zero =>
    intro i k hi hk
    obtain ⟨k, rfl⟩ : ∃ j, k = j + 1 := ⟨k - 1, by omega⟩
    rw [chain_digits.l0, if_neg (by omega), List.drop_of_length_le (by rw [len_eq]; omega)]
    simp only [List.all_nil, Bool.true_and]
    congr 1
    by_cases h : a.size = 64
    · simp [h]
    · rw [decide_eq_false h]
      simpa using (show ¬ (a.size : Int) = 64 by omega)
  | succ n ih =>
    intro i k hi hk
    obtain ⟨k, rfl⟩ : ∃ j, k = j + 1 := ⟨k - 1, by omega⟩
    obtain ⟨c, hd, hb⟩ := bt_get a i (by omega)
    rw [chain_digits.l0, if_pos (by omega), if_pos (by omega), if_pos (by omega), hb, hd, List.all_cons, w1 i (by omega), ih (i + 1) k (by omega) (by omega)]
    by_cases h1 : (c.toNat : Int) < 48
    · rw [if_pos h1, if_pos (by omega)]
      have : Sha.hb c = false := by simp [Sha.hb]; omega
      rw [this, Bool.false_and, Bool.false_and]
    · rw [if_neg h1]
      by_cases h2 : (c.toNat : Int) > 57
      · rw [if_pos h2]
        by_cases h3 : (c.toNat : Int) < 97
        · rw [if_pos h3]
          have : Sha.hb c = false := by simp [Sha.hb]; omega
          rw [this, Bool.false_and, Bool.false_and]
        · rw [if_neg h3]
          by_cases h4 : (c.toNat : Int) > 102
          · rw [if_pos h4]
            have : Sha.hb c = false := by simp [Sha.hb]; omega
            rw [this, Bool.false_and, Bool.false_and]
          · rw [if_neg h4]
            have : Sha.hb c = true := by simp [Sha.hb]; omega
            rw [this, Bool.true_and]
      · rw [if_neg h2]
        have : Sha.hb c = true := by simp [Sha.hb]; omega
        rw [this, Bool.true_and]
theorem digits_eq (a : ByteArray) (hs : a.size ≤ 1048576) (k : Nat) (hk : 1048577 ≤ k) : chain_digits.f k a = some (D a) := digits_go a hs a.size 0 k (by omega) (by omega)
/-! ### Pieces -/
def pcs : List Piece → Int → Int × Int
  | [], s => (s, 0)
  | y :: r, s => if D y.f0 = true ∧ 1 ≤ y.f1 ∧ y.f1 ≤ 4096 then pcs r (s + y.f1) else (0, 1)
def Pc (l : List Piece) : Int × Int := if 512 < l.length then (0, 1) else pcs l 0
theorem pieces_go (l : List Piece) (hl : l.length ≤ 512) (hs : ∀ y ∈ l, y.f0.size ≤ 1048576) : ∀ n i k (s : Int), i + n = l.length → n + 1048577 < k → 0 ≤ s → s ≤ 4096 * i → chain_Pieces.l0 k s l (l.length : Int) (i : Int) = some (pcs (l.drop i) s) := by
  intro n
  induction n with
  | zero =>
    intro i k s hi hk h0 h1
    obtain ⟨k, rfl⟩ : ∃ j, k = j + 1 := ⟨k - 1, by omega⟩
    rw [chain_Pieces.l0, if_neg (by omega), List.drop_of_length_le (by omega)]
    rfl
  | succ n ih =>
    intro i k s hi hk h0 h1
    obtain ⟨k, rfl⟩ : ∃ j, k = j + 1 := ⟨k - 1, by omega⟩
    rw [chain_Pieces.l0, if_pos (by omega), if_pos (by omega), if_pos (by omega), digits_eq _ (hs _ (memC l i (by omega))) k (by omega), Option.bind_some, dropC l i (by omega), pcs, w1 i (by omega)]
    show (if D (rdC l i).f0 = true then (if (rdC l i).f1 < 1 then some (0, 1) else (if (rdC l i).f1 > 4096 then some (0, 1) else chain_Pieces.l0 k (wrap64 (s + (rdC l i).f1)) l (l.length : Int) ((i + 1 : Nat) : Int))) else some (0, 1)) = _
    by_cases hd : D (rdC l i).f0 = true
    · rw [if_pos hd]
      by_cases h2 : (rdC l i).f1 < 1
      · rw [if_pos h2, if_neg (by omega)]
      · rw [if_neg h2]
        by_cases h3 : (rdC l i).f1 > 4096
        · rw [if_pos h3, if_neg (by omega)]
        · rw [if_neg h3, if_pos ⟨hd, by omega, by omega⟩, IntWalk.wrap64_in _ (by omega), ih (i + 1) k _ (by omega) (by omega) (by omega) (by omega)]
    · rw [if_neg hd, if_neg (by intro h; exact hd h.1)]
theorem pieces_eq (l : List Piece) (hs : ∀ y ∈ l, y.f0.size ≤ 1048576) (k : Nat) (hk : 1049100 ≤ k) : chain_Pieces.f k l = some (Pc l) := by
  unfold chain_Pieces.f Pc
  by_cases h : 512 < l.length
  · rw [if_pos (by omega), if_pos h]
  · rw [if_neg (by omega), if_neg h]
    exact pieces_go l (by omega) hs l.length 0 k 0 (by omega) (by omega) (by omega) (by omega)
/-! ### A part -/
theorem unhex_some : ∀ l : List UInt8, l.length % 2 = 0 → (Sha.unhexL l).isSome = l.all Sha.hb
  | [], _ => rfl
  | [_], h => by simp at h
  | a :: b :: r, h => by
    have ih := unhex_some r (by simp at h; omega)
    rw [Sha.unhexL, List.all_cons, List.all_cons]
    cases h1 : Sha.hb a
    · simp
    · cases h2 : Sha.hb b
      · simp
      · simp [ih]
structure SmallPart (p : Part) : Prop where
  sum : p.f2.size ≤ 1048576
  pcs : ∀ y ∈ p.f3, y.f0.size ≤ 1048576
  len : p.f3.length ≤ 1048576
def chk (p : Part) : Bool := decide (1 ≤ p.f0 ∧ p.f0 ≤ 100 ∧ (Pc p.f3).2 = 0 ∧ (Pc p.f3).1 = p.f1) && D p.f2
theorem j0_true (k : Nat) (a b : Int) (c : ByteArray) (l : List Piece) : parts_Check.j0 (k + 1) true a b c l = some 1 := by rw [parts_Check.j0, if_pos rfl]
theorem check_eq (p : Part) (hp : SmallPart p) (k : Nat) (hk : 1049100 ≤ k) : parts_Check.f k p.f0 p.f1 p.f2 p.f3 = some (if chk p = true then 0 else 1) := by
  obtain ⟨k, rfl⟩ : ∃ j, k = j + 1 := ⟨k - 1, by omega⟩
  unfold parts_Check.f
  rw [pieces_eq p.f3 hp.pcs (k + 1) hk, Option.bind_some, j0_true]
  have hno : ∀ h : ¬ (1 ≤ p.f0 ∧ p.f0 ≤ 100 ∧ (Pc p.f3).2 = 0 ∧ (Pc p.f3).1 = p.f1), (some 1 : Option Int) = some (if chk p = true then 0 else 1) := fun h => by
    have : chk p = false := by unfold chk; rw [decide_eq_false h, Bool.false_and]
    rw [this, if_neg (by decide)]
  by_cases h1 : p.f0 < 1
  · rw [if_pos h1]; exact hno (by omega)
  · rw [if_neg h1]
    by_cases h2 : p.f0 > 100
    · rw [if_pos h2]; exact hno (by omega)
    · rw [if_neg h2]
      by_cases h3 : (Pc p.f3).2 = 0
      · rw [if_pos h3]
        by_cases h4 : (Pc p.f3).1 = p.f1
        · rw [if_pos h4, parts_Check.j0]
          have hc : chk p = D p.f2 := by unfold chk; rw [decide_eq_true ⟨by omega, by omega, h3, h4⟩, Bool.true_and]
          rw [hc]
          by_cases h5 : p.f2.size = 64
          · have e : ((p.f2.size : Int) != 64) = false := by simp [h5]
            rw [e, if_neg (by decide)]
            have hU : digest_Unhex.f p.f2 = some (Sha.unhexR (Sha.unhexL p.f2.data.toList)) := by
              show Sha.unhexF p.f2 = _
              unfold Sha.unhexF
              rw [if_pos (by omega)]
            rw [hU, Option.bind_some]
            have hi := unhex_some p.f2.data.toList (by rw [len_eq, h5])
            unfold D
            rw [← hi, decide_eq_true h5, Bool.and_true]
            cases Sha.unhexL p.f2.data.toList <;> rfl
          · have e : ((p.f2.size : Int) != 64) = true := by simpa using (show ¬ (p.f2.size : Int) = 64 by omega)
            rw [e, if_pos rfl]
            have : D p.f2 = false := by unfold D; rw [decide_eq_false h5, Bool.and_false]
            rw [this, if_neg (by decide)]
        · rw [if_neg h4]; exact hno (fun h => h4 h.2.2.2)
      · rw [if_neg h3]; exact hno (fun h => h3 h.2.2.1)
/-! ### Parts -/
structure Small (l : List Part) : Prop where
  len : l.length ≤ 1048576
  each : ∀ p ∈ l, SmallPart p
def okN : Option Int → Int → Bool
  | none, _ => true
  | some n, m => decide (n < m)
def rB : Option Int → List Part → Bool
  | _, [] => true
  | o, p :: r => chk p && okN o p.f0 && rB (some p.f0) r
def prev (l : List Part) (i : Nat) : Option Int := if i = 0 then none else some (rdP l (i - 1)).f0
theorem right_go (l : List Part) (hl : Small l) : ∀ n i k, i + n = l.length → n + 1049100 < k → parts_right.l0 k l l (l.length : Int) (i : Int) = some (rB (prev l i) (l.drop i)) := by
  intro n
  induction n with
  | zero =>
    intro i k hi hk
    obtain ⟨k, rfl⟩ : ∃ j, k = j + 1 := ⟨k - 1, by omega⟩
    rw [parts_right.l0, if_neg (by omega), List.drop_of_length_le (by omega)]
    rfl
  | succ n ih =>
    intro i k hi hk
    have hll := hl.len
    obtain ⟨k, rfl⟩ : ∃ j, k = j + 1 := ⟨k - 1, by omega⟩
    rw [parts_right.l0, if_pos (by omega), if_pos (by omega), if_pos (by omega), check_eq (rdP l i) (hl.each _ (memP l i (by omega))) k (by omega), Option.bind_some, dropP l i (by omega), rB, w1 i (by omega), ih (i + 1) k (by omega) (by omega)]
    have hp : prev l (i + 1) = some (rdP l i).f0 := by unfold prev; rw [if_neg (by omega)]; rfl
    rw [hp]
    cases hc : chk (rdP l i)
    · simp
    · simp only [if_true, Bool.true_and]
      by_cases h0 : i = 0
      · subst h0
        rw [if_neg (by omega)]
        simp [prev, okN]
      · obtain ⟨j, rfl⟩ : ∃ j, i = j + 1 := ⟨i - 1, by omega⟩
        have e : wrap64 (((j + 1 : Nat) : Int) - 1) = (j : Int) := by rw [IntWalk.wrap64_in _ (by omega)]; omega
        rw [if_pos (by omega), e, if_pos (by omega), if_pos (by omega)]
        have hp2 : prev l (j + 1) = some (rdP l j).f0 := by unfold prev; rw [if_neg (by omega)]; rfl
        rw [hp2]
        show (if (rdP l (j + 1)).f0 ≤ (rdP l j).f0 then _ else _) = some (decide ((rdP l j).f0 < (rdP l (j + 1)).f0) && _)
        by_cases h2 : (rdP l (j + 1)).f0 ≤ (rdP l j).f0
        · rw [if_pos h2, decide_eq_false (by omega), Bool.false_and]
        · rw [if_neg h2, decide_eq_true (by omega), Bool.true_and]
theorem right_eq (l : List Part) (hl : Small l) (k : Nat) (hk : 2200000 ≤ k) : parts_right.f k l = some (rB none l) := by
  have := hl.len
  exact right_go l hl l.length 0 k (by omega) (by omega)
theorem rB_lt : ∀ (l : List Part) (o : Option Int), rB o l = true → (∀ p ∈ l, chk p = true) ∧ l.Pairwise (fun x y => x.f0 < y.f0) ∧ ∀ n, o = some n → ∀ p ∈ l, n < p.f0
  | [], o, _ => ⟨fun p hp => absurd hp (by simp), List.Pairwise.nil, fun n _ p hp => absurd hp (by simp)⟩
  | p :: r, o, h => by
    rw [rB, Bool.and_eq_true, Bool.and_eq_true] at h
    obtain ⟨⟨h1, h2⟩, h3⟩ := h
    obtain ⟨i1, i2, i3⟩ := rB_lt r (some p.f0) h3
    refine ⟨fun q hq => ?_, List.Pairwise.cons (fun q hq => i3 _ rfl q hq) i2, fun n hn q hq => ?_⟩
    · rcases List.mem_cons.1 hq with rfl | hq
      · exact h1
      · exact i1 q hq
    · subst hn
      have h4 : n < p.f0 := by simpa [okN] using h2
      rcases List.mem_cons.1 hq with rfl | hq
      · exact h4
      · have := i3 _ rfl q hq
        omega
end Go.Proofs.YtoiockmmlanimaaDoor.Pure
end
section
/- Layer 14, the plain side: the search, what is put together, and the law's worked example. No program in sight. -/
namespace Go.Proofs.YtoiockmmlanimaaDoor.Pure
open Go.RowKit Go.Proofs.YtoiockmmlanimaaDoor.Hw Go.Proofs.YtoiockmmlanimaaDoorW.PrintWords Go.Proofs.YtoiockmmlanimaaDoorW.PrintLast Go.Proofs.YtoiockmmlanimaaDoorW.PrintMore
set_option linter.unusedVariables false
set_option linter.unusedSimpArgs false
/-! ### The search -/
structure Good (l : List Part) : Prop where
  small : Small l
  chk : ∀ p ∈ l, chk p = true
  asc : l.Pairwise (fun x y => x.f0 < y.f0)
theorem Good.of {l : List Part} (hs : Small l) (h : rB none l = true) : Good l := ⟨hs, (rB_lt l none h).1, (rB_lt l none h).2.1⟩
theorem chk_parts {p : Part} (h : chk p = true) : 1 ≤ p.f0 ∧ p.f0 ≤ 100 ∧ (Pc p.f3).2 = 0 ∧ (Pc p.f3).1 = p.f1 ∧ D p.f2 = true := by
  unfold chk at h
  rw [Bool.and_eq_true, decide_eq_true_eq] at h
  exact ⟨h.1.1, h.1.2.1, h.1.2.2.1, h.1.2.2.2, h.2⟩
theorem Good.lt {l : List Part} (h : Good l) (i j : Nat) (hij : i < j) (hj : j < l.length) : (rdP l i).f0 < (rdP l j).f0 := by
  have e : ∀ q, (hq : q < l.length) → rdP l q = l[q] := fun q hq => by
    show l.getD (q : Int).toNat _ = _
    rw [Int.toNat_natCast, List.getD_eq_getElem?_getD, List.getElem?_eq_getElem hq]
    rfl
  rw [e i (by omega), e j hj]
  exact List.pairwise_iff_getElem.1 h.asc i j (by omega) hj hij
theorem bs_spec (l : List Part) (h : Good l) (t : Int) (h1 : 1 ≤ t) (h2 : t ≤ 100) : ∀ n i j, i ≤ j → j ≤ l.length → j - i ≤ n → (∀ m, m < i → (rdP l m).f0 < t) → (∀ m, j ≤ m → m < l.length → t ≤ (rdP l m).f0) →
    parts_find_bs l t n i j ≤ l.length ∧ (∀ m, m < parts_find_bs l t n i j → (rdP l m).f0 < t) ∧ (∀ m, parts_find_bs l t n i j ≤ m → m < l.length → t ≤ (rdP l m).f0) := by
  intro n
  induction n with
  | zero =>
    intro i j hij hj hn hlo hhi
    rw [parts_find_bs]
    exact ⟨by omega, hlo, fun m hm => hhi m (by omega)⟩
  | succ n ih =>
    intro i j hij hj hn hlo hhi
    rw [parts_find_bs]
    by_cases hlt : i < j
    · rw [if_pos hlt]
      have hm : (i + j) / 2 < l.length := by omega
      have hc := chk_parts (h.chk _ (memP l ((i + j) / 2) hm))
      have hw : wrap64 ((rdP l ((i + j) / 2)).f0 - t) = (rdP l ((i + j) / 2)).f0 - t := IntWalk.wrap64_in _ (by omega)
      by_cases hb : wrap64 ((rdP l ((i + j) / 2)).f0 - t) < 0
      · rw [if_pos hb]
        rw [hw] at hb
        refine ih ((i + j) / 2 + 1) j (by omega) hj (by omega) (fun m hm2 => ?_) hhi
        rcases Nat.lt_or_ge m ((i + j) / 2) with h3 | h3
        · have := h.lt m _ h3 hm; omega
        · obtain rfl : m = (i + j) / 2 := by omega
          omega
      · rw [if_neg hb]
        rw [hw] at hb
        refine ih i ((i + j) / 2) (by omega) (by omega) (by omega) hlo (fun m hm2 hm3 => ?_)
        rcases Nat.lt_or_ge ((i + j) / 2) m with h3 | h3
        · have := h.lt _ m h3 hm3; omega
        · obtain rfl : m = (i + j) / 2 := by omega
          omega
    · rw [if_neg hlt]
      exact ⟨by omega, hlo, fun m hm => hhi m (by omega)⟩
def wf (n : Int) : Prop := -9223372036854775808 ≤ n ∧ n ≤ 9223372036854775807
theorem find_no (l : List Part) (h : Good l) (t : Int) (ht : wf t) (hn : ∀ p ∈ l, p.f0 ≠ t) : ∃ i, parts_find.f l t = some (i, false) := by
  have hll := h.small.len
  refine ⟨((parts_find_bs l t l.length 0 l.length : Nat) : Int), ?_⟩
  unfold parts_find.f
  rw [if_pos (by omega)]
  congr 2
  obtain ⟨R, hR⟩ : ∃ R, parts_find_bs l t l.length 0 l.length = R := ⟨_, rfl⟩
  rw [hR]
  by_cases hl : R < l.length
  · rw [decide_eq_true hl, Bool.true_and]
    have h1 := hn _ (memP l R hl)
    have hc := chk_parts (h.chk _ (memP l R hl))
    have h2 : wrap64 ((rdP l R).f0 - t) ≠ 0 := by
      unfold wrap64
      unfold wf at ht
      omega
    show (wrap64 ((rdP l R).f0 - t) == 0) = false
    simpa using h2
  · rw [decide_eq_false hl, Bool.false_and]
theorem find_yes (l : List Part) (h : Good l) (m : Nat) (hm : m < l.length) : parts_find.f l (rdP l m).f0 = some ((m : Int), true) := by
  have hll := h.small.len
  have hc := chk_parts (h.chk _ (memP l m hm))
  obtain ⟨b1, b2, b3⟩ := bs_spec l h (rdP l m).f0 hc.1 hc.2.1 l.length 0 l.length (Nat.zero_le _) (Nat.le_refl _) (Nat.le_refl _) (fun q hq => absurd hq (Nat.not_lt_zero _)) (fun q hq hq2 => absurd hq (by omega))
  have hR : parts_find_bs l (rdP l m).f0 l.length 0 l.length = m := by
    obtain ⟨R, hR⟩ : ∃ R, parts_find_bs l (rdP l m).f0 l.length 0 l.length = R := ⟨_, rfl⟩
    rw [hR] at b1 b2 b3 ⊢
    rcases Nat.lt_trichotomy m R with h3 | h3 | h3
    · have := b2 m h3; omega
    · exact h3.symm
    · have := b3 R (Nat.le_refl _) (by omega)
      have := h.lt R m h3 hm
      omega
  unfold parts_find.f
  rw [if_pos (by omega), hR, decide_eq_true hm, Bool.true_and]
  show some ((m : Int), wrap64 ((rdP l m).f0 - (rdP l m).f0) == 0) = _
  rw [Int.sub_self, show wrap64 0 = 0 from IntWalk.wrap64_in _ (by omega)]
  rfl
end Go.Proofs.YtoiockmmlanimaaDoor.Pure
end
section
/- Layer 14, the plain side: what is put together. No program in sight. -/
namespace Go.Proofs.YtoiockmmlanimaaDoor.Pure
open Go.RowKit Go.Proofs.YtoiockmmlanimaaDoor.Hw Go.Proofs.YtoiockmmlanimaaDoorW.PrintWords Go.Proofs.YtoiockmmlanimaaDoorW.PrintLast Go.Proofs.YtoiockmmlanimaaDoorW.PrintMore
set_option linter.unusedVariables false
set_option linter.unusedSimpArgs false
def look (l : List Part) (n : Int) : Option Part := l.find? (fun p => decide (p.f0 = n))
theorem look_some {l : List Part} {n : Int} {p : Part} (h : look l n = some p) : p ∈ l ∧ p.f0 = n := ⟨List.mem_of_find?_eq_some h, by simpa using List.find?_some h⟩
theorem look_none {l : List Part} {n : Int} (h : look l n = none) : ∀ p ∈ l, p.f0 ≠ n := fun p hp => by simpa using List.find?_eq_none.1 h p hp
/-- The picked parts: size, pieces, digests, and whether one that is not the last is too small. -/
def jn (l : List Part) : List Pick → Int → List Piece → List ByteArray → Bool → Option (Int × List Piece × List ByteArray × Bool)
  | [], s, ps, ss, b => some (s, ps, ss, b)
  | x :: r, s, ps, ss, b => match look l x.f0 with
    | none => none
    | some p => if p.f2.toList = x.f1.toList then jn l r (s + p.f1) (ps ++ p.f3) (ss ++ [p.f2]) (b || (!r.isEmpty && decide (p.f1 < 64))) else none
abbrev JR := Int × Bool × Int × ByteArray × (List Piece) × Int
def bad (e : Int) : JR := (0, false, 0, (⟨#[]⟩ : ByteArray), ([] : List Piece), e)
def sum64 (ss : List ByteArray) : ByteArray := Sha.ofB (Sha.hexL (Sha.ofB (Sha.sha (Sha.tagB (BitVec.ofInt 8 77) ss))).data.toList)
def jfin : Option (Int × List Piece × List ByteArray × Bool) → JR
  | none => bad 140
  | some (s, ps, ss, b) => if b = true then bad 141 else if s > 1048576 ∨ ps.length > 512 then bad 2 else (0, false, s, sum64 ss, ps, 0)
theorem sum_size (ss : List ByteArray) : (Sha.ofB (Sha.sha (Sha.tagB (BitVec.ofInt 8 77) ss))).size = 32 := by
  rw [Sha.ofB_size, Sha.sha, Sha.out_length]
theorem tag_len (p : BitVec 8) : ∀ ss : List ByteArray, (∀ s ∈ ss, s.size = 64) → (Sha.tagB p ss).length = 1 + 72 * ss.length := by
  intro ss h
  unfold Sha.tagB
  rw [List.length_append]
  have H : (ss.flatMap Sha.partB).length = 72 * ss.length := by
    induction ss with
    | nil => rfl
    | cons s ss ih =>
      rw [List.flatMap_cons, List.length_append, ih (fun t ht => h t (List.mem_cons_of_mem _ ht)), Sha.partB_length, h s List.mem_cons_self, List.length_cons]
      omega
  rw [H]
  rfl
theorem tag_eq (ss : List ByteArray) (h : ∀ s ∈ ss, s.size = 64) (hl : ss.length ≤ 1048576) : ((digest_Tagged.f 77 ss).bind fun t => (digest_Hex.f t).bind fun u => some u) = some (sum64 ss) := by
  have h1 : digest_Tagged.f 77 ss = some (Sha.ofB (Sha.sha (Sha.tagB (BitVec.ofInt 8 77) ss))) := by
    show Sha.tagF 77 ss = _
    unfold Sha.tagF
    rw [if_pos ⟨by decide, by decide, by rw [tag_len _ ss h]; omega⟩]
  rw [h1, Option.bind_some]
  have h2 : digest_Hex.f (Sha.ofB (Sha.sha (Sha.tagB (BitVec.ofInt 8 77) ss))) = some (sum64 ss) := by
    show Sha.hexF _ = _
    unfold Sha.hexF
    rw [if_pos (by rw [sum_size]; decide)]
    rfl
  rw [h2, Option.bind_some]
theorem pcs_bound : ∀ (l : List Piece) (s : Int), 0 ≤ s → 0 ≤ (pcs l s).1 ∧ (pcs l s).1 ≤ s + 4096 * l.length
  | [], s, h => ⟨h, by simp [pcs]⟩
  | y :: r, s, h => by
    rw [pcs]
    split
    · rename_i hy
      have := pcs_bound r (s + y.f1) (by omega)
      simp only [List.length_cons]
      omega
    · simp only [List.length_cons]
      omega
theorem part_size {p : Part} (h : chk p = true) : 0 ≤ p.f1 ∧ p.f1 ≤ 2097152 ∧ p.f3.length ≤ 512 ∧ p.f2.size = 64 := by
  obtain ⟨_, _, h3, h4, h5⟩ := chk_parts h
  unfold Pc at h3 h4
  split at h3
  · cases h3
  · rename_i hl
    rw [if_neg hl] at h4
    have := pcs_bound p.f3 0 (by omega)
    unfold D at h5
    rw [Bool.and_eq_true, decide_eq_true_eq] at h5
    refine ⟨by omega, by omega, by omega, h5.2⟩
theorem look_at (l : List Part) (h : Good l) (n : Int) (hn : wf n) : (∃ i, parts_find.f l n = some (i, false) ∧ look l n = none) ∨ (∃ m, m < l.length ∧ parts_find.f l n = some ((m : Int), true) ∧ look l n = some (rdP l m)) := by
  cases hk : look l n with
  | none =>
    obtain ⟨i, hi⟩ := find_no l h n hn (look_none hk)
    exact .inl ⟨i, hi, rfl⟩
  | some p =>
    obtain ⟨hp, rfl⟩ := look_some hk
    obtain ⟨m, hm⟩ := List.mem_iff_getElem?.1 hp
    obtain ⟨hm1, hm2⟩ := List.getElem?_eq_some_iff.1 hm
    have e : rdP l m = p := by
      show l.getD (m : Int).toNat _ = _
      rw [Int.toNat_natCast, List.getD_eq_getElem?_getD, hm]
      rfl
    refine .inr ⟨m, hm1, ?_, by rw [e]⟩
    rw [← e]
    exact find_yes l h m hm1
theorem join_go (l : List Part) (h : Good l) (pk : List Pick) (hpk : pk.length ≤ 1048576) (hw : ∀ x ∈ pk, wf x.f0) : ∀ n i k (s : Int) ps ss b, i + n = pk.length → n + 3 < k → 0 ≤ s → s ≤ 2097152 * i → ps.length ≤ 512 * i → ss.length = i → (∀ t ∈ ss, t.size = 64) →
    parts_Join.l1 k l pk ss b pk (pk.length : Int) (i : Int) 0 false s (⟨#[]⟩ : ByteArray) ps = some (jfin (jn l (pk.drop i) s ps ss b)) := by
  intro n
  induction n with
  | zero =>
    intro i k s ps ss b hi hk h0 h1 h2 h3 h4
    obtain ⟨k, rfl⟩ : ∃ j, k = j + 2 := ⟨k - 2, by omega⟩
    rw [parts_Join.l1, if_neg (by omega), List.drop_of_length_le (by omega), jn]
    cases b
    · simp only [Bool.false_eq_true, if_false, jfin]
      have ht := tag_eq ss h4 (by omega)
      by_cases hs : s > 1048576
      · rw [if_pos hs, if_pos (.inl hs), parts_Join.j3, if_pos rfl]
        rfl
      · rw [if_neg hs]
        by_cases hp : ps.length > 512
        · rw [if_pos (.inr hp), decide_eq_true (by omega), parts_Join.j3, if_pos rfl]
          rfl
        · rw [if_neg (by omega), decide_eq_false (by omega), parts_Join.j3, if_neg (by decide)]
          obtain ⟨t, ht1, ht2⟩ := Option.bind_eq_some_iff.1 ht
          obtain ⟨u, hu1, hu2⟩ := Option.bind_eq_some_iff.1 ht2
          cases hu2
          rw [ht1, Option.bind_some, hu1, Option.bind_some]
    · rfl
  | succ n ih =>
    intro i k s ps ss b hi hk h0 h1 h2 h3 h4
    obtain ⟨k, rfl⟩ : ∃ j, k = j + 1 := ⟨k - 1, by omega⟩
    rw [parts_Join.l1, if_pos (by omega), if_pos (by omega), if_pos (by omega), dropK pk i (by omega), jn]
    rcases look_at l h (rdK pk i).f0 (hw _ (memK pk i (by omega))) with ⟨q, hf, hl⟩ | ⟨m, hm, hf, hl⟩
    · rw [hf, Option.bind_some, hl]
      rfl
    · rw [hf, Option.bind_some, hl]
      have hc := part_size (h.chk _ (memP l m hm))
      show (if true = true then (if (0 : Int) ≤ m then (if (m : Int) < (l.length : Int) then (if (rdP l m).f2.toList = (rdK pk i).f1.toList then _ else _) else _) else _) else _) = _
      rw [if_pos rfl, if_pos (by omega), if_pos (by omega)]
      by_cases he : (rdP l m).f2.toList = (rdK pk i).f1.toList
      · rw [if_pos he]
        show (if ps.length + (rdP l m).f3.length < 5864062014805 then _ else _) = some (jfin (if (rdP l m).f2.toList = (rdK pk i).f1.toList then _ else _))
        rw [if_pos he, if_pos (by omega), Option.bind_some, if_pos (by omega), Option.bind_some, w1 i (by omega)]
        have hw2 : wrap64 (s + (rdP l m).f1) = s + (rdP l m).f1 := IntWalk.wrap64_in _ (by omega)
        have hw3 : wrap64 ((pk.length : Int) - 1) = (pk.length : Int) - 1 := IntWalk.wrap64_in _ (by omega)
        have hrec := fun b => ih (i + 1) k (s + (rdP l m).f1) (ps ++ (rdP l m).f3) (ss ++ [(rdP l m).f2]) b (by omega) (by omega) (by omega) (by omega) (by rw [List.length_append]; omega) (by rw [List.length_append, h3]; rfl) (fun t ht => by
          rcases List.mem_append.1 ht with ht | ht
          · exact h4 t ht
          · simp at ht; subst ht; exact hc.2.2.2)
        have hemp : (pk.drop (i + 1)).isEmpty = !decide (n ≠ 0) := by
          by_cases hn : n = 0
          · rw [List.drop_of_length_le (by omega)]; simp [hn]
          · have : (pk.drop (i + 1)).length ≠ 0 := by rw [List.length_drop]; omega
            rw [decide_eq_true hn]
            cases hd : pk.drop (i + 1) with
            | nil => rw [hd] at this; simp at this
            | cons _ _ => rfl
        rw [hemp, Bool.not_not]
        cases b
        · rw [if_neg (by decide)]
          show (if (i : Int) < wrap64 ((pk.length : Int) - 1) then parts_Join.l1 k l pk _ (decide ((rdP l m).f1 < 64)) pk _ _ _ _ (wrap64 (s + (rdP l m).f1)) _ _ else parts_Join.l1 k l pk _ false pk _ _ _ _ (wrap64 (s + (rdP l m).f1)) _ _) = _
          rw [hw2, hw3]
          by_cases hn : n = 0
          · rw [if_neg (by omega), hrec]
            simp [hn]
          · rw [if_pos (by omega), hrec]
            simp [hn]
        · rw [if_pos rfl]
          show parts_Join.l1 k l pk _ true pk _ _ _ _ (wrap64 (s + (rdP l m).f1)) _ _ = _
          rw [hw2, hrec]
          simp
      · rw [if_neg he]
        show _ = some (jfin (if (rdP l m).f2.toList = (rdK pk i).f1.toList then _ else none))
        rw [if_neg he]
        rfl
/-- Picks in order. -/
def incr : List Pick → Bool
  | [] => true
  | [_] => true
  | x :: y :: r => decide (x.f0 < y.f0) && incr (y :: r)
def jspec (l : List Part) (pk : List Pick) : JR := if rB none l = true ∧ pk ≠ [] then (if incr pk = true then jfin (jn l pk 0 [] [] false) else bad 1) else bad 1
theorem incr_go (l : List Part) (h : Good l) (pk : List Pick) (hpk : pk.length ≤ 1048576) (hw : ∀ x ∈ pk, wf x.f0) : ∀ n i k, i + 1 + n = pk.length → n + pk.length + 5 < k → parts_Join.l0 k l pk ((i + 1 : Nat) : Int) = some (if incr (pk.drop i) = true then jfin (jn l pk 0 [] [] false) else bad 1) := by
  intro n
  induction n with
  | zero =>
    intro i k hi hk
    obtain ⟨k, rfl⟩ : ∃ j, k = j + 1 := ⟨k - 1, by omega⟩
    rw [parts_Join.l0, if_neg (by omega), dropK pk i (by omega), List.drop_of_length_le (by omega), incr, if_pos rfl]
    exact join_go l h pk hpk hw pk.length 0 k 0 [] [] false (by omega) (by omega) (by omega) (by omega) (by simp) rfl (by simp)
  | succ n ih =>
    intro i k hi hk
    obtain ⟨k, rfl⟩ : ∃ j, k = j + 1 := ⟨k - 1, by omega⟩
    have e : wrap64 (((i + 1 : Nat) : Int) - 1) = (i : Int) := by rw [IntWalk.wrap64_in _ (by omega)]; omega
    rw [parts_Join.l0, if_pos (by omega), if_pos (by omega), e, if_pos (by omega), if_pos (by omega), dropK pk i (by omega), dropK pk (i + 1) (by omega), incr, w1 (i + 1) (by omega), ih (i + 1) k (by omega) (by omega), dropK pk (i + 1) (by omega)]
    show (if (rdK pk (i + 1)).f0 ≤ (rdK pk i).f0 then some (bad 1) else _) = _
    by_cases h1 : (rdK pk (i + 1)).f0 ≤ (rdK pk i).f0
    · rw [if_pos h1, decide_eq_false (by omega), Bool.false_and, if_neg (by decide)]
    · rw [if_neg h1, decide_eq_true (by omega), Bool.true_and]
theorem join_eq (l : List Part) (hl : Small l) (pk : List Pick) (hpk : pk.length ≤ 1048576) (hw : ∀ x ∈ pk, wf x.f0) (k : Nat) (hk : 5000000 ≤ k) : parts_Join.f k l pk = some (jspec l pk) := by
  obtain ⟨k, rfl⟩ : ∃ j, k = j + 1 := ⟨k - 1, by omega⟩
  unfold parts_Join.f jspec
  rw [right_eq l hl (k + 1) (by omega), Option.bind_some]
  cases hr : rB none l
  · rw [if_neg (by decide), if_neg (by simp), parts_Join.j0, if_pos rfl]
    rfl
  · rw [if_pos rfl]
    cases pk with
    | nil =>
      rw [if_neg (by simp)]
      show parts_Join.j0 (k + 1) l [] true = _
      rw [parts_Join.j0, if_pos rfl]
      rfl
    | cons x r =>
      have e : (((x :: r).length : Int) == 0) = false := by simp; omega
      rw [if_pos ⟨rfl, by simp⟩, e, parts_Join.j0, if_neg (by decide)]
      exact incr_go l (Good.of hl hr) (x :: r) hpk hw r.length 0 k (by simp; omega) (by simp only [List.length_cons] at hpk ⊢; omega)
end Go.Proofs.YtoiockmmlanimaaDoor.Pure
end
section
/- Layer 14, the plain side: the law's worked example. No program in sight. -/
namespace Go.Proofs.YtoiockmmlanimaaDoor.Pure
open Go.RowKit Go.Proofs.YtoiockmmlanimaaDoor.Hw Go.Proofs.YtoiockmmlanimaaDoorW.PrintWords Go.Proofs.YtoiockmmlanimaaDoorW.PrintLast Go.Proofs.YtoiockmmlanimaaDoorW.PrintMore
set_option linter.unusedVariables false
set_option linter.unusedSimpArgs false
set_option maxRecDepth 100000
theorem up {α : Type} {f : Nat → Option α} (h : ∀ k, LeO (f k) (f (k + 1))) {r : α} {k : Nat} (h0 : f k = some r) : ∀ n, f (k + n) = some r
  | 0 => h0
  | n + 1 => h (k + n) r (up h h0 n)
theorem up_to {α : Type} {f : Nat → Option α} (h : ∀ k, LeO (f k) (f (k + 1))) {r : α} {k m : Nat} (h0 : f k = some r) (hm : k ≤ m) : f m = some r := by
  have := up h h0 (m - k)
  rwa [Nat.add_sub_cancel' hm] at this
def Z : ByteArray := strOfNums (List.replicate 64 48)
theorem zeros0 : stowagelaw14_zeros.f 100 = some Z := by kernel_rfl
theorem put1 : parts_Put.f 100 ([] : List Part) 2 1 Z [⟨Z, 1⟩] = some ([⟨2, 1, Z, [⟨Z, 1⟩]⟩], 0) := by kernel_rfl
theorem put2 : parts_Put.f 100 ([⟨2, 1, Z, [⟨Z, 1⟩]⟩] : List Part) 1 64 Z [⟨Z, 64⟩] = some ([⟨1, 64, Z, [⟨Z, 64⟩]⟩, ⟨2, 1, Z, [⟨Z, 1⟩]⟩], 0) := by kernel_rfl
abbrev AW : List Part := [⟨1, 64, Z, [⟨Z, 64⟩]⟩, ⟨2, 1, Z, [⟨Z, 1⟩]⟩]
theorem Z_small : Z.size ≤ 1048576 := by decide +kernel
theorem aw_small : Small AW := ⟨by decide, fun p hp => by
  rcases List.mem_cons.1 hp with rfl | hp
  · exact ⟨Z_small, fun y hy => by simp at hy; subst hy; exact Z_small, by decide⟩
  · simp at hp
    subst hp
    exact ⟨Z_small, fun y hy => by simp at hy; subst hy; exact Z_small, by decide⟩⟩
theorem aw_right : rB none AW = true := by kernel_rfl
theorem aw_join (k : Nat) (hk : 5000000 ≤ k) : parts_Join.f k AW [⟨1, Z⟩, ⟨2, Z⟩] = some (0, false, 65, sum64 [Z, Z], [⟨Z, 64⟩, ⟨Z, 1⟩], 0) := by
  rw [join_eq AW aw_small _ (by decide) (fun x hx => by
    rcases List.mem_cons.1 hx with rfl | hx
    · exact ⟨by decide, by decide⟩
    · simp at hx
      subst hx
      exact ⟨by decide, by decide⟩) k hk]
  unfold jspec
  rw [if_pos ⟨aw_right, by simp⟩, if_pos (show incr [⟨1, Z⟩, ⟨2, Z⟩] = true from rfl)]
  have hl1 : look AW 1 = some ⟨1, 64, Z, [⟨Z, 64⟩]⟩ := by rfl
  have hl2 : look AW 2 = some ⟨2, 1, Z, [⟨Z, 1⟩]⟩ := by rfl
  rw [jn]
  show some (jfin (match look AW 1 with | none => none | some p => _)) = _
  rw [hl1]
  show some (jfin (if Z.toList = Z.toList then _ else _)) = _
  rw [if_pos rfl, jn]
  show some (jfin (match look AW 2 with | none => none | some p => _)) = _
  rw [hl2]
  show some (jfin (if Z.toList = Z.toList then _ else _)) = _
  rw [if_pos rfl, jn]
  rfl
theorem awake_true (k : Nat) (hk : 5000000 ≤ k) : stowagelaw14_awake.f k = some true := by
  have hz : stowagelaw14_zeros.f k = some Z := up_to (f := fun k => stowagelaw14_zeros.f k) stowagelaw14_zeros.mono zeros0 (by omega)
  have h1 := up_to (f := fun k => parts_Put.f k ([] : List Part) 2 1 Z [⟨Z, 1⟩]) (fun k => parts_Put.mono _ _ _ _ _ k) put1 (show 100 ≤ k by omega)
  have h2 := up_to (f := fun k => parts_Put.f k ([⟨2, 1, Z, [⟨Z, 1⟩]⟩] : List Part) 1 64 Z [⟨Z, 64⟩]) (fun k => parts_Put.mono _ _ _ _ _ k) put2 (show 100 ≤ k by omega)
  have h3 := aw_join k hk
  unfold stowagelaw14_awake.f stowagelaw14_one.f
  simp only [hz, Option.bind_some]
  simp only [h1, Option.bind_some]
  simp only [h2, Option.bind_some]
  simp only [h3, Option.bind_some]
  rfl
end Go.Proofs.YtoiockmmlanimaaDoor.Pure
end
section
/- Layer 14, the plain side: what is joined is a version that may be. No program in sight. -/
namespace Go.Proofs.YtoiockmmlanimaaDoor.Pure
open Go.RowKit Go.Proofs.YtoiockmmlanimaaDoor.Hw Go.Proofs.YtoiockmmlanimaaDoorW.PrintWords Go.Proofs.YtoiockmmlanimaaDoorW.PrintLast Go.Proofs.YtoiockmmlanimaaDoorW.PrintMore
set_option linter.unusedVariables false
set_option linter.unusedSimpArgs false
/-! ### The parts that are picked -/
theorem sorted_ext : ∀ (A B : List Part), A.Pairwise (fun x y => x.f0 < y.f0) → B.Pairwise (fun x y => x.f0 < y.f0) → (∀ x, x ∈ A ↔ x ∈ B) → A = B
  | [], [], _, _, _ => rfl
  | [], b :: B, _, _, h => absurd ((h b).2 List.mem_cons_self) (by simp)
  | a :: A, [], _, _, h => absurd ((h a).1 List.mem_cons_self) (by simp)
  | a :: A, b :: B, hA, hB, h => by
    rw [List.pairwise_cons] at hA hB
    have e : a = b := by
      have h1 := (h a).1 List.mem_cons_self
      have h2 := (h b).2 List.mem_cons_self
      rcases List.mem_cons.1 h1 with h1 | h1
      · exact h1
      · rcases List.mem_cons.1 h2 with h2 | h2
        · exact h2.symm
        · have := hA.1 b h2
          have := hB.1 a h1
          omega
    subst e
    rw [sorted_ext A B hA.2 hB.2 (fun x => ?_)]
    have hx := h x
    rw [List.mem_cons, List.mem_cons] at hx
    constructor
    · intro hm
      rcases hx.1 (.inr hm) with rfl | hm2
      · have := hA.1 x hm; omega
      · exact hm2
    · intro hm
      rcases hx.2 (.inr hm) with rfl | hm2
      · have := hB.1 x hm; omega
      · exact hm2
theorem incr_asc : ∀ pk : List Pick, incr pk = true → (pk.map (fun x => x.f0)).Pairwise (· < ·)
  | [], _ => List.Pairwise.nil
  | [x], _ => by simp
  | x :: y :: r, h => by
    rw [incr, Bool.and_eq_true, decide_eq_true_eq] at h
    have ih := incr_asc (y :: r) h.2
    rw [List.map_cons, List.pairwise_cons]
    refine ⟨fun z hz => ?_, ih⟩
    rw [List.map_cons, List.pairwise_cons] at ih
    rw [List.map_cons] at hz
    rcases List.mem_cons.1 hz with rfl | hz
    · exact h.1
    · have := ih.1 z hz; omega
def sumS (F : List Part) : Int := (F.map (fun p => p.f1)).sum
theorem jn_parts (l : List Part) : ∀ (pk : List Pick) (s : Int) ps ss b s' ps' ss' b', jn l pk s ps ss b = some (s', ps', ss', b') → ∃ F : List Part, F.map (fun p => p.f0) = pk.map (fun x => x.f0) ∧ (∀ p ∈ F, p ∈ l) ∧ s' = s + sumS F ∧ ps' = ps ++ F.flatMap (fun p => p.f3)
  | [], s, ps, ss, b, s', ps', ss', b', h => by
    rw [jn] at h
    simp only [Option.some.injEq, Prod.mk.injEq] at h
    obtain ⟨rfl, rfl, _, _⟩ := h
    exact ⟨[], rfl, by simp, by simp [sumS], by simp⟩
  | x :: r, s, ps, ss, b, s', ps', ss', b', h => by
    rw [jn] at h
    cases hk : look l x.f0 with
    | none => rw [hk] at h; cases h
    | some p =>
      rw [hk] at h
      obtain ⟨hp, he⟩ := look_some hk
      simp only at h
      split at h
      · obtain ⟨F, h1, h2, h3, h4⟩ := jn_parts l r _ _ _ _ _ _ _ _ h
        refine ⟨p :: F, by rw [List.map_cons, List.map_cons, h1, he], fun q hq => ?_, ?_, ?_⟩
        · rcases List.mem_cons.1 hq with rfl | hq
          · exact hp
          · exact h2 q hq
        · rw [h3, sumS, sumS, List.map_cons, List.sum_cons]
          omega
        · rw [h4, List.flatMap_cons, List.append_assoc]
      · cases h
def sel (pk : List Pick) (p : Part) : Bool := pk.any (fun x => x.f0 == p.f0)
theorem jn_filter (l : List Part) (h : Good l) (pk : List Pick) (hi : incr pk = true) {s' : Int} {ps' ss' b'} (hj : jn l pk 0 [] [] false = some (s', ps', ss', b')) : s' = sumS (l.filter (sel pk)) ∧ ps' = (l.filter (sel pk)).flatMap (fun p => p.f3) := by
  obtain ⟨F, h1, h2, h3, h4⟩ := jn_parts l pk 0 [] [] false _ _ _ _ hj
  have hF : F.Pairwise (fun x y => x.f0 < y.f0) := by
    have := incr_asc pk hi
    rw [← h1, List.pairwise_map] at this
    exact this
  have hu : ∀ p ∈ l, ∀ q ∈ l, p.f0 = q.f0 → p = q := by
    intro p hp q hq he
    obtain ⟨i, hi1, hi2⟩ := List.mem_iff_getElem.1 hp
    obtain ⟨j, hj1, hj2⟩ := List.mem_iff_getElem.1 hq
    have hpw := List.pairwise_iff_getElem.1 h.asc
    rcases Nat.lt_trichotomy i j with h5 | h5 | h5
    · have := hpw i j hi1 hj1 h5; rw [hi2, hj2] at this; omega
    · subst h5; rw [← hi2, ← hj2]
    · have := hpw j i hj1 hi1 h5; rw [hi2, hj2] at this; omega
  have e : F = l.filter (sel pk) := by
    refine sorted_ext _ _ hF (h.asc.filter _) (fun x => ?_)
    rw [List.mem_filter]
    have hs : sel pk x = true ↔ x.f0 ∈ F.map (fun p => p.f0) := by
      rw [h1]
      unfold sel
      rw [List.any_eq_true, List.mem_map]
      constructor
      · rintro ⟨y, hy, he⟩; exact ⟨y, hy, by simpa using he⟩
      · rintro ⟨y, hy, he⟩; exact ⟨y, hy, by simpa using he⟩
    rw [hs]
    constructor
    · intro hx; exact ⟨h2 x hx, List.mem_map.2 ⟨x, hx, rfl⟩⟩
    · rintro ⟨hx, hm⟩
      obtain ⟨q, hq, he⟩ := List.mem_map.1 hm
      rw [← hu q (h2 q hq) x hx he]
      exact hq
  rw [← e]
  exact ⟨by rw [h3]; omega, by rw [h4]; simp⟩
/-! ### The version's own check -/
theorem pcs_shift : ∀ (A : List Piece) (s : Int), (pcs A 0).2 = 0 → pcs A s = ((pcs A 0).1 + s, 0) ∧ ∀ B, pcs (A ++ B) s = pcs B ((pcs A 0).1 + s)
  | [], s, h => by simp [pcs]
  | y :: r, s, h => by
    rw [pcs] at h
    split at h
    · rename_i hy
      have e0 : (pcs r 0).2 = 0 := by
        by_cases hz : (pcs r 0).2 = 0
        · exact hz
        · exfalso
          have : ∀ (A : List Piece) (s : Int), (pcs A 0).2 ≠ 0 → (pcs A s).2 ≠ 0 := by
            intro A
            induction A with
            | nil => intro s h; exact absurd rfl h
            | cons z A ih =>
              intro s h
              rw [pcs] at h ⊢
              split
              · rename_i hz2
                rw [if_pos hz2] at h
                by_cases h5 : (pcs A 0).2 = 0
                · exfalso
                  clear ih
                  have G : ∀ (A : List Piece) (a b : Int), (pcs A a).2 = 0 → (pcs A b).2 = 0 := by
                    intro A
                    induction A with
                    | nil => intro a b _; rfl
                    | cons w A ih2 =>
                      intro a b h
                      rw [pcs] at h ⊢
                      split
                      · rename_i hw; rw [if_pos hw] at h; exact ih2 _ _ h
                      · rename_i hw; rw [if_neg hw] at h; exact h
                  exact h (G A 0 _ h5)
                · exact ih _ h5
              · decide
          exact this r _ hz h
      obtain ⟨i1, _⟩ := pcs_shift r (0 + y.f1) e0
      obtain ⟨j1, j2⟩ := pcs_shift r (s + y.f1) e0
      have e1 : pcs (y :: r) 0 = ((pcs r 0).1 + (0 + y.f1), 0) := by rw [pcs, if_pos hy, i1]
      refine ⟨?_, fun B => ?_⟩
      · rw [pcs, if_pos hy, j1, e1]
        congr 1
        omega
      · rw [List.cons_append, pcs, if_pos hy, j2 B, e1]
        congr 1
        show (pcs r 0).1 + (s + y.f1) = (pcs r 0).1 + (0 + y.f1) + s
        omega
    · cases h
theorem pcs_flat : ∀ (F : List Part) (s : Int), (∀ p ∈ F, chk p = true) → pcs (F.flatMap (fun p => p.f3)) s = (sumS F + s, 0)
  | [], s, _ => by simp [pcs, sumS]
  | p :: F, s, h => by
    obtain ⟨_, _, h3, h4, _⟩ := chk_parts (h p List.mem_cons_self)
    have hl := (part_size (h p List.mem_cons_self)).2.2.1
    unfold Pc at h3 h4
    rw [if_neg (by omega)] at h3 h4
    rw [List.flatMap_cons, (pcs_shift p.f3 s h3).2, pcs_flat F _ (fun q hq => h q (List.mem_cons_of_mem _ hq)), h4, sumS, sumS, List.map_cons, List.sum_cons]
    congr 1
    omega
theorem dig_hex (x : BitVec 8) (h : x.toNat < 16) : Sha.hb (UInt8.ofBitVec (Sha.dig x)) = true := by
  have h2 : ∀ n : Fin 16, Sha.hb (UInt8.ofBitVec (Sha.dig (BitVec.ofNat 8 n.val))) = true := by decide
  have h3 := h2 ⟨x.toNat, h⟩
  have e : BitVec.ofNat 8 x.toNat = x := by simp
  rw [e] at h3
  exact h3
theorem hex_all : ∀ l : List UInt8, ((Sha.hexL l).map UInt8.ofBitVec).all Sha.hb = true
  | [] => rfl
  | c :: l => by
    have ih := hex_all l
    unfold Sha.hexL at ih ⊢
    rw [List.flatMap_cons, List.map_append, List.all_append, ih, Bool.and_true]
    unfold Sha.two
    rw [List.map_cons, List.map_cons, List.map_nil, List.all_cons, List.all_cons, List.all_nil, dig_hex _ (by rw [BitVec.toNat_ushiftRight, Nat.shiftRight_eq_div_pow]; have := c.toBitVec.isLt; omega), dig_hex _ (by rw [BitVec.toNat_and]; exact Nat.lt_of_le_of_lt Nat.and_le_right (by decide))]
    rfl
theorem sum64_D (ss : List ByteArray) : D (sum64 ss) = true ∧ (sum64 ss).size = 64 := by
  have hs : (sum64 ss).size = 64 := by
    unfold sum64
    rw [Sha.ofB_size, Sha.two_length, len_eq, sum_size]
  refine ⟨?_, hs⟩
  unfold D
  rw [decide_eq_true hs, Bool.and_true]
  exact hex_all _
theorem vcheck (F : List Part) (hF : ∀ p ∈ F, chk p = true ∧ SmallPart p) (ss : List ByteArray) (id : Int) (h1 : sumS F ≤ 1048576) (h2 : (F.flatMap (fun p => p.f3)).length ≤ 512) (k : Nat) (hk : 2000000 ≤ k) :
    chain_Check.f k id false (sumS F) (sum64 ss) (F.flatMap (fun p => p.f3)) = some (if 1 ≤ id ∧ id ≤ 1099511627776 then 0 else 1) := by
  obtain ⟨k, rfl⟩ : ∃ j, k = j + 1 := ⟨k - 1, by omega⟩
  unfold chain_Check.f
  by_cases h0 : id < 1
  · rw [if_pos h0, chain_Check.j0, if_pos rfl, if_neg (by omega)]
  · rw [if_neg h0]
    by_cases h3 : id > 1099511627776
    · rw [decide_eq_true h3, chain_Check.j0, if_pos rfl, if_neg (by omega)]
    · rw [decide_eq_false h3, chain_Check.j0, if_neg (by decide), if_neg (by decide), pieces_eq _ (fun y hy => by
        obtain ⟨p, hp, hy⟩ := List.mem_flatMap.1 hy
        exact (hF p hp).2.pcs y hy) k (by omega), Option.bind_some]
      have hP : Pc (F.flatMap (fun p => p.f3)) = (sumS F, 0) := by
        unfold Pc
        rw [if_neg (by omega), pcs_flat F 0 (fun p hp => (hF p hp).1)]
        simp
      rw [hP, if_pos rfl, if_pos rfl, if_neg (by show ¬ sumS F > 1048576; omega), digits_eq _ (by rw [(sum64_D ss).2]; decide) k (by omega), Option.bind_some, (sum64_D ss).1, if_pos rfl, if_pos (by omega)]
end Go.Proofs.YtoiockmmlanimaaDoor.Pure
end
section
/- Layer 14, the plain side: what is joined is a version that may be: the law's loops. No program in sight. -/
namespace Go.Proofs.YtoiockmmlanimaaDoor.Pure
open Go.RowKit Go.Proofs.YtoiockmmlanimaaDoor.Hw Go.Proofs.YtoiockmmlanimaaDoorW.PrintWords Go.Proofs.YtoiockmmlanimaaDoorW.PrintLast Go.Proofs.YtoiockmmlanimaaDoorW.PrintMore
set_option linter.unusedVariables false
set_option linter.unusedSimpArgs false
theorem whole_l1 (l : List Part) (pk : List Pick) (hpk : pk.length ≤ 1048576) (id a c : Int) (i : Nat) (hi : i < l.length) (z0 : Int) (z1 : Bool) (z2 : Int) (z3 : ByteArray) (z4 : List Piece) (k : Nat) : ∀ n j b, j + n = pk.length →
    stowagelaw14_PartsWhole.l1 (n + 1 + k) l pk id a c (i : Int) b (j : Int) z0 z1 z2 z3 z4 = if (b || (pk.drop j).any (fun x => x.f0 == (rdP l i).f0)) = true then stowagelaw14_PartsWhole.l2 k l pk id (wrap64 (a + (rdP l i).f1)) c (i : Int) 0 z0 z1 z2 z3 z4 else stowagelaw14_PartsWhole.l0 k l pk id a c (wrap64 ((i : Int) + 1)) z0 z1 z2 z3 z4 := by
  intro n
  induction n with
  | zero =>
    intro j b hj
    rw [show 0 + 1 + k = k + 1 by omega, stowagelaw14_PartsWhole.l1, if_neg (by omega), List.drop_of_length_le (by omega)]
    cases b
    · rw [if_neg (by decide)]
      rfl
    · rw [if_pos rfl, if_pos (by omega), if_pos (by omega)]
      rfl
  | succ n ih =>
    intro j b hj
    rw [show n + 1 + 1 + k = (n + 1 + k) + 1 by omega, stowagelaw14_PartsWhole.l1, if_pos (by omega), w1 j (by omega), dropK pk j (by omega), List.any_cons]
    cases b
    · rw [if_neg (by decide), if_pos (by omega), if_pos (by omega), if_pos (by omega), ih (j + 1) _ (by omega), Bool.false_or]
    · rw [if_pos rfl, ih (j + 1) _ (by omega), Bool.true_or, Bool.true_or]
theorem whole_l2 (l : List Part) (pk : List Pick) (id a : Int) (i : Nat) (hi : i < l.length) (z0 : Int) (z1 : Bool) (z2 : Int) (z3 : ByteArray) (ps : List Piece) (hps : ps.length ≤ 1048576) (hf3 : (rdP l i).f3.length ≤ 1048576) (rest : List Piece) (k : Nat) : ∀ m c q, q + m = (rdP l i).f3.length → ps.drop c = (rdP l i).f3.drop q ++ rest → c ≤ ps.length →
    stowagelaw14_PartsWhole.l2 (m + 1 + k) l pk id a (c : Int) (i : Int) (q : Int) z0 z1 z2 z3 ps = stowagelaw14_PartsWhole.l0 k l pk id a ((c + m : Nat) : Int) (wrap64 ((i : Int) + 1)) z0 z1 z2 z3 ps := by
  intro m
  induction m with
  | zero =>
    intro c q hq hd hc
    rw [show 0 + 1 + k = k + 1 by omega, stowagelaw14_PartsWhole.l2, if_pos (by omega), if_pos (by omega)]
    show (if (q : Int) < ((rdP l i).f3.length : Int) then _ else _) = _
    rw [if_neg (by omega)]
    rfl
  | succ m ih =>
    intro c q hq hd hc
    have hcl : c < ps.length := by
      rcases Nat.lt_or_ge c ps.length with h | h
      · exact h
      · rw [List.drop_of_length_le h, dropC _ q (by omega)] at hd
        simp at hd
    rw [dropC ps c hcl, dropC _ q (by omega), List.cons_append] at hd
    have h1 : rdC ps c = rdC (rdP l i).f3 q := (List.cons.inj hd).1
    have h2 := (List.cons.inj hd).2
    rw [show m + 1 + 1 + k = (m + 1 + k) + 1 by omega, stowagelaw14_PartsWhole.l2, if_pos (by omega), if_pos (by omega)]
    show (if (q : Int) < ((rdP l i).f3.length : Int) then (if (c : Int) ≥ (ps.length : Int) then some false else (if (0 : Int) ≤ c then (if (c : Int) < (ps.length : Int) then (if (0 : Int) ≤ q then (if (!((rdC ps c).f0.toList == (rdC (rdP l i).f3 q).f0.toList) || !((rdC ps c).f1 == (rdC (rdP l i).f3 q).f1)) = true then some false else _) else _) else _) else _)) else _) = _
    rw [if_pos (by omega), if_neg (by omega), if_pos (by omega), if_pos (by omega), if_pos (by omega), h1, if_neg (by simp), w1 c (by omega), w1 q (by omega), ih (c + 1) (q + 1) (by omega) h2 (by omega), show c + 1 + m = c + (m + 1) by omega]
  -- the list of one part's pieces is at most 512 long: its places are small numbers
theorem flat_len (F : List Part) (p : Part) (hp : p ∈ F) : p.f3.length ≤ (F.flatMap (fun p => p.f3)).length := by
  induction F with
  | nil => cases hp
  | cons q F ih =>
    rw [List.flatMap_cons, List.length_append]
    rcases List.mem_cons.1 hp with rfl | hp
    · omega
    · have := ih hp; omega
def need (a b : Nat) : Nat → Nat
  | 0 => b
  | n + 1 => need a b n + a
theorem need_ge (a b : Nat) : ∀ n, b ≤ need a b n
  | 0 => Nat.le_refl _
  | n + 1 => Nat.le_trans (need_ge a b n) (Nat.le_add_right _ _)
set_option maxHeartbeats 4000000 in
theorem whole_l0 (l : List Part) (h : Good l) (pk : List Pick) (hpk : pk.length ≤ 1048576) (id : Int) (ss : List ByteArray) (F : List Part) (hFe : F = l.filter (sel pk)) (hs : sumS F ≤ 1048576) (hl : (F.flatMap (fun p => p.f3)).length ≤ 512) (B : Nat) (hB : 5000001 ≤ B) : ∀ n i k c (a : Int), i + n = l.length → need (pk.length + 600) B n ≤ k → (F.flatMap (fun p => p.f3)).drop c = ((l.drop i).filter (sel pk)).flatMap (fun p => p.f3) → c ≤ (F.flatMap (fun p => p.f3)).length → sumS F = a + sumS ((l.drop i).filter (sel pk)) → 0 ≤ a →
    stowagelaw14_PartsWhole.l0 k l pk id a (c : Int) (i : Int) 0 false (sumS F) (sum64 ss) (F.flatMap (fun p => p.f3)) = some true := by
  intro n
  induction n with
  | zero =>
    intro i k c a hi hk hd hc ha h0
    rw [need] at hk
    obtain ⟨k, rfl⟩ : ∃ j, k = j + 1 := ⟨k - 1, by omega⟩
    have hdr : l.drop i = [] := List.drop_of_length_le (by omega)
    rw [hdr] at hd ha
    have hc2 : c = (F.flatMap (fun p => p.f3)).length := by
      have := List.drop_eq_nil_iff.1 (show (F.flatMap (fun p => p.f3)).drop c = [] from hd)
      omega
    have ha2 : a = sumS F := by rw [ha]; simp [sumS]
    rw [stowagelaw14_PartsWhole.l0, if_neg (by omega), awake_true k (by omega), Option.bind_some, if_pos rfl, if_pos ha2, if_pos (by omega), vcheck F (fun p hp => by
      rw [hFe] at hp
      have := (List.mem_filter.1 hp).1
      exact ⟨h.chk p this, h.small.each p this⟩) ss id hs hl k (by omega), Option.bind_some]
    by_cases h1 : id ≥ 1
    · rw [if_pos h1]
      by_cases h2 : id ≤ 1099511627776
      · rw [if_pos ⟨h1, h2⟩, decide_eq_true h2]; rfl
      · rw [if_neg (by omega), decide_eq_false h2]; rfl
    · rw [if_neg h1, if_neg (by omega)]; rfl
  | succ n ih =>
    intro i k c a hi hk hd hc ha h0
    have hll := h.small.len
    have hil : i < l.length := by omega
    have hsz := part_size (h.chk _ (memP l i hil))
    have hw := w1 i (by omega)
    rw [need] at hk
    have hge := need_ge (pk.length + 600) B n
    obtain ⟨k, rfl⟩ : ∃ j, k = (pk.length + 1 + j) + 1 := ⟨k - 1 - pk.length - 1, by omega⟩
    have hil2 : (i : Int) < (l.length : Int) := Int.ofNat_lt.2 hil
    rw [stowagelaw14_PartsWhole.l0, if_pos hil2]
    have hstep := whole_l1 l pk hpk id a (c : Int) i (by omega) 0 false (sumS F) (sum64 ss) (F.flatMap (fun p => p.f3)) k pk.length 0 false (by omega)
    have hstep' : stowagelaw14_PartsWhole.l1 (pk.length + 1 + k) l pk id a (c : Int) (i : Int) false 0 0 false (sumS F) (sum64 ss) (F.flatMap (fun p => p.f3)) = _ := hstep
    rw [hstep', List.drop_zero, Bool.false_or, hw]
    show (if sel pk (rdP l i) = true then _ else _) = _
    rw [dropP l i (by omega), List.filter_cons] at hd ha
    by_cases hsel : sel pk (rdP l i) = true
    · rw [if_pos hsel] at hd ha ⊢
      rw [List.flatMap_cons] at hd
      have ha2 : sumS F = a + ((rdP l i).f1 + sumS ((l.drop (i + 1)).filter (sel pk))) := by rw [ha, sumS, List.map_cons, List.sum_cons]; rfl
      have hnn : 0 ≤ sumS ((l.drop (i + 1)).filter (sel pk)) := by
        have G : ∀ A : List Part, (∀ p ∈ A, 0 ≤ p.f1) → 0 ≤ sumS A := by
          intro A
          induction A with
          | nil => intro _; exact Int.le_refl _
          | cons p A ih =>
            intro h
            have h1 := h p List.mem_cons_self
            have h2 := ih (fun q hq => h q (List.mem_cons_of_mem _ hq))
            show 0 ≤ ((p :: A).map (fun p => p.f1)).sum
            rw [List.map_cons, List.sum_cons]
            have h3 : 0 ≤ (A.map (fun p => p.f1)).sum := h2
            omega
        exact G _ (fun p hp => (part_size (h.chk p (List.mem_of_mem_drop (List.mem_filter.1 hp).1))).1)
      have hwa : wrap64 (a + (rdP l i).f1) = a + (rdP l i).f1 := IntWalk.wrap64_in _ (by omega)
      obtain ⟨k, rfl⟩ : ∃ j, k = (rdP l i).f3.length + 1 + j := ⟨k - (rdP l i).f3.length - 1, by omega⟩
      have hlen : c + (rdP l i).f3.length ≤ (F.flatMap (fun p => p.f3)).length := by
        have := congrArg List.length hd
        rw [List.length_drop, List.length_append] at this
        omega
      rw [hwa]
      have h2 := whole_l2 l pk id (a + (rdP l i).f1) i (by omega) 0 false (sumS F) (sum64 ss) (F.flatMap (fun p => p.f3)) (by omega) (by omega) _ k (rdP l i).f3.length c 0 (by omega) (by rw [List.drop_zero]; exact hd) hc
      have h2' : stowagelaw14_PartsWhole.l2 ((rdP l i).f3.length + 1 + k) l pk id (a + (rdP l i).f1) (c : Int) (i : Int) 0 0 false (sumS F) (sum64 ss) (F.flatMap (fun p => p.f3)) = _ := h2
      rw [h2', hw]
      refine ih (i + 1) k (c + (rdP l i).f3.length) _ (by omega) (by omega) ?_ hlen (by omega) (by omega)
      rw [← List.drop_drop, hd, List.drop_left]
    · rw [if_neg hsel] at hd ha ⊢
      exact ih (i + 1) k c a (by omega) (by omega) hd hc ha h0
theorem PartsWhole_true (l : List Part) (pk : List Pick) (id : Int) (hl : Small l) (hpk : pk.length ≤ 1048576) (hw : ∀ x ∈ pk, wf x.f0) : ∃ k, stowagelaw14_PartsWhole.f k l pk id = some true := by
  have hll := hl.len
  obtain ⟨B, hB⟩ : ∃ B, 5000001 ≤ B := ⟨_, Nat.le_refl _⟩
  refine ⟨need (pk.length + 600) B l.length, ?_⟩
  obtain ⟨K, hK⟩ : ∃ K, need (pk.length + 600) B l.length = K := ⟨_, rfl⟩
  have hKB : B ≤ K := by rw [← hK]; exact need_ge _ _ _
  rw [hK]
  unfold stowagelaw14_PartsWhole.f
  rw [join_eq l hl pk hpk hw K (by omega), Option.bind_some]
  have hbad : ∀ e, e ≠ 0 → (if (bad e).2.2.2.2.2 = 0 then stowagelaw14_PartsWhole.l0 K l pk id 0 0 0 (bad e).1 (bad e).2.1 (bad e).2.2.1 (bad e).2.2.2.1 (bad e).2.2.2.2.1 else ((stowagelaw14_awake.f K).bind fun t201 => (if t201 = true then (if (bad e).2.2.1 = 0 then (some (((bad e).2.2.2.2.1.length : Int) == 0)) else (some false)) else (some false)))) = some true := fun e he => by
    rw [if_neg (by simpa [bad] using he), awake_true K (by omega), Option.bind_some, if_pos rfl, if_pos (show (bad e).2.2.1 = 0 from rfl)]
    rfl
  unfold jspec
  split
  · rename_i hc
    split
    · rename_i hi
      have hg := Good.of hl hc.1
      cases hj : jn l pk 0 [] [] false with
      | none => exact hbad 140 (by decide)
      | some r =>
        obtain ⟨s, ps, ss, b⟩ := r
        obtain ⟨e1, e2⟩ := jn_filter l hg pk hi hj
        unfold jfin
        simp only
        split
        · exact hbad 141 (by decide)
        · split
          · exact hbad 2 (by decide)
          · rename_i hb
            rw [if_pos rfl]
            subst e1
            subst e2
            exact whole_l0 l hg pk hpk id ss (l.filter (sel pk)) rfl (by omega) (by omega) B hB l.length 0 K 0 0 (by omega) (Nat.le_of_eq hK) rfl (by omega) (by rw [List.drop_zero]; omega) (by omega)
    · exact hbad 1 (by decide)
  · exact hbad 1 (by decide)
end Go.Proofs.YtoiockmmlanimaaDoor.Pure
end
section
/- How parts and picks are read out of an argument, how small they are, and the table of the rounds' numbers. -/
namespace Go.Proofs.YtoiockmmlanimaaDoor.KO
open Go Go.RowKit Go.Proofs.YtoiockmmlanimaaDoorW.PrintWords Go.Proofs.YtoiockmmlanimaaDoor.Hw
theorem opensPiece : Opens Tryd.prog 63 k63 (fun y => y.f0.size ≤ reachBytes ∧ (Lit.int .i64 y.f1).wf = true) (fun y => ((y.f0.size + 1) + 1) + 1) :=
  opens_struct (fun x : S63 => (x.f0, x.f1)) (fun p => ⟨p.1, p.2⟩) (fun _ => rfl) Tryd.underlying63
    (opens_cons (off' := 1) rfl (opens_string Tryd.underlying9) (by kernel_rfl) (opens_last rfl (opens_int Tryd.underlying3) (by kernel_rfl)))
theorem opensPieces : Opens Tryd.prog 24 (Kd.slice 63 k63) (fun ys => ys.length * 24 ≤ reachBytes ∧ ∀ y ∈ ys, y.f0.size ≤ reachBytes ∧ (Lit.int .i64 y.f1).wf = true) (fun ys => (ys.map fun y => ((y.f0.size + 1) + 1) + 1).sum + 1) :=
  opens_slice Tryd.underlying24 opensPiece (by kernel_rfl) (by kernel_rfl)
theorem opensPart : Opens Tryd.prog 46 k46 (fun y => (Lit.int .i64 y.f0).wf = true ∧ (Lit.int .i64 y.f1).wf = true ∧ y.f2.size ≤ reachBytes ∧ (y.f3.length * 24 ≤ reachBytes ∧ ∀ z ∈ y.f3, z.f0.size ≤ reachBytes ∧ (Lit.int .i64 z.f1).wf = true)) (fun y => (1 + (1 + ((y.f2.size + 1) + ((y.f3.map fun z => ((z.f0.size + 1) + 1) + 1).sum + 1)))) + 1) :=
  opens_struct (fun x : S46 => (x.f0, x.f1, x.f2, x.f3)) (fun p => ⟨p.1, p.2.1, p.2.2.1, p.2.2.2⟩) (fun _ => rfl) Tryd.underlying46
    (opens_cons (off' := 1) rfl (opens_int Tryd.underlying3) (by kernel_rfl) (opens_cons (off' := 2) rfl (opens_int Tryd.underlying3) (by kernel_rfl) (opens_cons (off' := 3) rfl (opens_string Tryd.underlying9) (by kernel_rfl) (opens_last rfl opensPieces (by kernel_rfl)))))
theorem opensParts : Opens Tryd.prog 22 (Kd.slice 46 k46) (fun ys => ys.length * 56 ≤ reachBytes ∧ ∀ y ∈ ys, (Lit.int .i64 y.f0).wf = true ∧ (Lit.int .i64 y.f1).wf = true ∧ y.f2.size ≤ reachBytes ∧ (y.f3.length * 24 ≤ reachBytes ∧ ∀ z ∈ y.f3, z.f0.size ≤ reachBytes ∧ (Lit.int .i64 z.f1).wf = true)) (fun ys => (ys.map fun y => (1 + (1 + ((y.f2.size + 1) + ((y.f3.map fun z => ((z.f0.size + 1) + 1) + 1).sum + 1)))) + 1).sum + 1) :=
  opens_slice Tryd.underlying22 opensPart (by kernel_rfl) (by kernel_rfl)
theorem opensPick : Opens Tryd.prog 61 k61 (fun y => (Lit.int .i64 y.f0).wf = true ∧ y.f1.size ≤ reachBytes) (fun y => (1 + (y.f1.size + 1)) + 1) :=
  opens_struct (fun x : S61 => (x.f0, x.f1)) (fun p => ⟨p.1, p.2⟩) (fun _ => rfl) Tryd.underlying61
    (opens_cons (off' := 1) rfl (opens_int Tryd.underlying3) (by kernel_rfl) (opens_last rfl (opens_string Tryd.underlying9) (by kernel_rfl)))
theorem opensPicks : Opens Tryd.prog 23 (Kd.slice 61 k61) (fun ys => ys.length * 24 ≤ reachBytes ∧ ∀ y ∈ ys, (Lit.int .i64 y.f0).wf = true ∧ y.f1.size ≤ reachBytes) (fun ys => (ys.map fun y => (1 + (y.f1.size + 1)) + 1).sum + 1) :=
  opens_slice Tryd.underlying23 opensPick (by kernel_rfl) (by kernel_rfl)
theorem sum_ge {α : Type} (f : α → Nat) (hf : ∀ y, 1 ≤ f y) : ∀ l : List α, l.length ≤ (l.map f).sum ∧ ∀ y ∈ l, f y ≤ (l.map f).sum
  | [] => ⟨Nat.le_refl _, fun y hy => by cases hy⟩
  | z :: l => by
    obtain ⟨h1, h2⟩ := sum_ge f hf l
    have := hf z
    rw [List.map_cons, List.sum_cons]
    refine ⟨by rw [List.length_cons]; omega, fun y hy => ?_⟩
    rcases List.mem_cons.1 hy with rfl | hy
    · omega
    · have := h2 y hy; omega
theorem small_parts (l : List Pure.Part) {B : Nat} (h : (l.map fun y => (1 + (1 + ((y.f2.size + 1) + ((y.f3.map fun z => ((z.f0.size + 1) + 1) + 1).sum + 1)))) + 1).sum + 1 ≤ B) (hB : B ≤ 1048576) : Pure.Small l := by
  obtain ⟨h1, h2⟩ := sum_ge (fun y : Pure.Part => (1 + (1 + ((y.f2.size + 1) + ((y.f3.map fun z => ((z.f0.size + 1) + 1) + 1).sum + 1)))) + 1) (fun y => by omega) l
  refine ⟨by omega, fun p hp => ?_⟩
  have h3 : (1 + (1 + ((p.f2.size + 1) + ((p.f3.map fun z : Pure.Piece => ((z.f0.size + 1) + 1) + 1).sum + 1)))) + 1 ≤ _ := h2 p hp
  clear h1 h2
  obtain ⟨h4, h5⟩ := sum_ge (fun z : Pure.Piece => ((z.f0.size + 1) + 1) + 1) (fun y => by omega) p.f3
  generalize (p.f3.map fun z : Pure.Piece => ((z.f0.size + 1) + 1) + 1).sum = X at h3 h4 h5
  generalize ((l.map fun y : Pure.Part => (1 + (1 + ((y.f2.size + 1) + ((y.f3.map fun z => ((z.f0.size + 1) + 1) + 1).sum + 1)))) + 1)).sum = Z at h h3
  refine ⟨by omega, fun y hy => ?_, by omega⟩
  have := h5 y hy
  omega
theorem picks_len (l : List Pure.Pick) {B : Nat} (h : (l.map fun y => (1 + (y.f1.size + 1)) + 1).sum + 1 ≤ B) (hB : B ≤ 1048576) : l.length ≤ 1048576 := by
  obtain ⟨h1, _⟩ := sum_ge (fun y : Pure.Pick => (1 + (y.f1.size + 1)) + 1) (fun y => by omega) l
  omega
theorem wf_of {n : Int} (h : (Lit.int .i64 n).wf = true) : Pure.wf n := by
  simp only [Lit.wf, Bool.and_eq_true, decide_eq_true_eq] at h
  exact h
/-- The table of the rounds' numbers, out of what is laid. -/
theorem gg_of_laid {W : World} (h : laidMetH Tryd.prog Rows.partsWholeRow.laid W) : GG W := by
  rw [MakeChecks.laidMetH_plain _ _ _ (by kernel_rfl)] at h
  obtain ⟨ps, ⟨g, t, cs, fuel, p, q, hg, ht, hv, hd, _, _⟩, _, _⟩ := h
  obtain rfl := Option.some.inj ((show Tryd.prog.globalNamed "stowage/digest.rounds" = some 0 by kernel_rfl).symm.trans hg)
  obtain rfl := Option.some.inj ((show (Tryd.prog.globals[0]?).map (·.type) = some 143 by kernel_rfl).symm.trans ht)
  obtain ⟨xs, m, _, ex, _, hl, hel⟩ := DataW.trod_array Tryd.underlying143 hd
  have c5 : Tryd.prog.cellsOf 137 = 1 := by kernel_rfl
  have hdat : (Rows.laid_stowage_digest_rounds : DataW Unit) = .agg (Sha.Ks.map fun x => .lit (.int .u32 (x.toNat : Int))) := by kernel_rfl
  have hlen : Sha.Ks.length = 64 := by kernel_rfl
  have e3 : xs.map (·.1) = Sha.Ks.map fun x => (.lit (.int .u32 (x.toNat : Int)) : DataW Unit) := (DataW.agg.inj (hdat.symm.trans (Prod.mk.inj ex).1)).symm
  have key : ∀ r, r < 64 → W.cell? ⟨0, r, none⟩ = some (Sha.U (Sha.Ks.getD r 0)) := by
    intro r hr
    have hE := hel r hr
    rw [c5, Nat.mul_one, List.getElem?_eq_getElem (by omega)] at hE
    obtain ⟨z, e1, e2, _⟩ := DataW.trod_int Tryd.underlying137 hE
    have e4 : (xs.map (·.1))[r]? = (Sha.Ks.map fun x => (.lit (.int .u32 (x.toNat : Int)) : DataW Unit))[r]? := by rw [e3]
    rw [List.getElem?_map, List.getElem?_map, List.getElem?_eq_getElem (by omega : r < xs.length), List.getElem?_eq_getElem (by omega : r < Sha.Ks.length), e2] at e4
    have hz : z = ((Sha.Ks.getD r 0).toNat : Int) := by
      simp only [Option.map_some, Option.some.injEq, DataW.lit.injEq, Lit.int.injEq, true_and] at e4
      rw [e4, List.getD, List.getElem?_eq_getElem (by omega : r < Sha.Ks.length)]
      rfl
    rw [World.var?_cell hg hv r, Sha.U_def, ← hz]
    have : cs.toList[r]? = some (.int .u32 z) := by
      have h0 : ((cs.toList.drop r).take 1)[0]? = some (.int .u32 z) := by rw [e1]; rfl
      simpa using h0
    simpa using this
  have h0 := key 0 (by omega)
  cases hh : W.heap[0]? with
  | none => simp [World.cell?, hh] at h0
  | some ob =>
    cases ob with
    | cells c t fr =>
      refine ⟨c, t, fr, hh, fun i hi => ?_⟩
      rw [← key i hi, cell_of_row W 0 i c t fr hh]
    | _ => simp [World.cell?, hh] at h0
end Go.Proofs.YtoiockmmlanimaaDoor.KO
end
section
/- PartsWhole, second form: what is joined is a version that may be: its size is its parts', its pieces are theirs, in the order of their numbers, as soon as it has a number. Its conditions: those of the given card. -/
namespace Go.Proofs.YtoiockmmlanimaaDoor.partsWhole
open Go.ChangeShapes Go.WideShapes Go.ChangeAt Go.RowKit Go.Proofs.YtoiockmmlanimaaDoor.Hw Go.Proofs.YtoiockmmlanimaaDoorW.PrintWords
open Go.ChangeMaps (open_string shut_string)
set_option linter.unusedVariables false
set_option linter.unusedSimpArgs false
theorem own : ownKnob Tryd.prog.godebug = none := by kernel_rfl
theorem laidOut : laidOutB Tryd.prog = true := by kernel_rfl
set_option maxRecDepth 100000 in
/-- What the walk gives, for every argument and every world: the same for both forms. -/
theorem contract (H : Type) (enc : TypeId × Value → H) (W : World) (base : Nat) (args : Array Value) (ds gs : List (DataW H)) (before : List MemPlace)
    (hval : ∀ (j : Nat) t v, Tryd.f6.params[j]? = some t → args[j]? = some v → Value.okWide Tryd.prog W .any base t v)
    (hW : DataW.Whole enc Tryd.prog Tryd.f6.params.toList Rows.partsWholeSpec.vars false W args.toList ds gs before)
    (hsz : (DataW.weightsEach Tryd.prog (Tryd.f6.params.toList ++ (OpenSpec.ofChange Rows.partsWholeSpec).bare.plain.varTypes Tryd.prog) (ds ++ gs)).all (· ≤ reachBytes) = true) (hcond : ∀ k, (Rows.OpenSpec.upto Rows.partsWholeSpec).cond = some k → k H (ds ++ gs) = true) (hG : GG W) :
    Calls Tryd.prog 6 args W fun e W' => ∃ v, e = .returned v ∧ Rows.partsWholeSpec.post enc Tryd.prog Tryd.f6 false true false false W args v W' := by
  have hW' := hW
  obtain ⟨p, q, hA0, hV, rfl, hfz, hnd⟩ := hW
  have hA : DataW.TrodAll enc Tryd.prog W 0 (fun _ => true) true Tryd.f6.params.toList args.toList ds p := hA0
  rw [Tryd.params6] at hA hval hsz
  obtain ⟨v0, vs0, d0, ds0, p0, q0, hargs, rfl, rfl, h0, r0⟩ := trodAll_cons hA
  obtain ⟨v1, vs1, d1, ds1, p1, q1, rfl, rfl, rfl, h1, r1⟩ := trodAll_cons r0
  obtain ⟨v2, vs2, d2, ds2, p2, q2, rfl, rfl, rfl, h2, r2⟩ := trodAll_cons r1
  obtain ⟨rfl, rfl, rfl⟩ := trodAll_nil r2
  obtain rfl : args = #[v0, v1, v2] := by cases args; simp_all
  obtain ⟨rfl, rfl⟩ := trodVars_none hV
  obtain ⟨A0, len0, cap0, rfl⟩ := okWide_slice Tryd.underlying22 (hval 0 22 v0 rfl rfl)
  have k0 := h0
  have lt0 : ∀ x ∈ p0, x.block < W.heap.size := by obtain ⟨m, hm⟩ := k0; exact DataW.trod_lt m _ _ _ hm
  obtain ⟨fuel0, hf0⟩ := h0
  obtain ⟨l0, hK0, wt0, bk0⟩ := (KO.opensParts).out enc W _ _ _ fuel0 _ _ hf0
  obtain ⟨B0, c0, he0, hcap0, hr0⟩ := hK0
  simp only [Value.cells, List.cons.injEq, and_true] at he0
  injection he0 with e1 e2 e3
  subst e1 e2 e3
  obtain ⟨A1, len1, cap1, rfl⟩ := okWide_slice Tryd.underlying23 (hval 1 23 v1 rfl rfl)
  have k1 := h1
  have lt1 : ∀ x ∈ p1, x.block < W.heap.size := by obtain ⟨m, hm⟩ := k1; exact DataW.trod_lt m _ _ _ hm
  obtain ⟨fuel1, hf1⟩ := h1
  obtain ⟨l1, hK1, wt1, bk1⟩ := (KO.opensPicks).out enc W _ _ _ fuel1 _ _ hf1
  obtain ⟨B1, c1, he1, hcap1, hr1⟩ := hK1
  simp only [Value.cells, List.cons.injEq, and_true] at he1
  injection he1 with e1 e2 e3
  subst e1 e2 e3
  obtain ⟨a2, rfl, rfl, rfl, y2⟩ := open_int Tryd.underlying3 (hval 2 3 v2 rfl rfl) h2
  have hup := hcond _ rfl
  simp only [Rows.uptoSmall, decide_eq_true_eq, List.cons_append, List.nil_append, Rows.uptoBulkAll, Rows.uptoBulk] at hup
  have hb0 : (l0.map fun y : Pure.Part => (1 + (1 + ((y.f2.size + 1) + ((y.f3.map fun z => ((z.f0.size + 1) + 1) + 1).sum + 1)))) + 1).sum + 1 ≤ Rows.uptoBulk d0 := bk0
  have hs0 := KO.small_parts l0 hb0 (by omega)
  have hb1 : (l1.map fun y : Pure.Pick => (1 + (y.f1.size + 1)) + 1).sum + 1 ≤ Rows.uptoBulk d1 := bk1
  have hs1 := KO.picks_len l1 hb1 (by omega)
  have hq1 : ∀ m ∈ DataW.weights Tryd.prog 23 d1, m ≤ reachBytes := fun m hm => by simpa using List.all_eq_true.1 hsz m (by simp [DataW.weightsEach, hm])
  have hw1 : ∀ x ∈ l1, Pure.wf x.f0 := fun x hx => KO.wf_of ((wt1 hq1).2 x hx).1
  obtain ⟨k, hk⟩ := Pure.PartsWhole_true l0 l1 a2 hs0 hs1 hw1
  refine (stowagelaw14_PartsWhole.calls k _ _ l0 _ _ l1 a2 true W hr0 hcap0 hr1 hcap1 hk hG).mono fun e W' ⟨he, bel⟩ => ?_
  subst he
  exact ⟨_, rfl, _, _, _, [], _, [], hW', trodAll_mk1 (shut_bool Tryd.underlying4 _), (trodAll_cons_mk (Below.trod laidOut (by kernel_rfl) (of_decide_eq_true (by kernel_rfl)) k0 bel lt0) (trodAll_cons_mk (Below.trod laidOut (by kernel_rfl) (of_decide_eq_true (by kernel_rfl)) k1 bel lt1) (trodAll_cons_mk (shut_int Tryd.underlying3 y2) trodAll_mk0))), rfl, bel.frame _, fun h => by cases h⟩
/-- The cells of a datum without pointers. -/
def flat : DataW Unit → List Value
  | .lit (.int k n) => [.int k n]
  | .agg xs => flats xs
  | _ => []
where flats : List (DataW Unit) → List Value
  | [] => []
  | x :: xs => flat x ++ flats xs
def put (cs : List Value) : Obj → Obj
  | .cells _ t z => .cells cs.toArray t z
  | ob => ob
/-- A world for the witness: the listed tables hold what their text lays. -/
noncomputable def laidWorld (os : Os) : World :=
  { World.holding Tryd.prog os ⟨#[], #[], []⟩ with heap := Rows.partsWholeUptoRow.laid.foldl (fun h x => match Tryd.prog.globalNamed x.1 with | some g => h.modify g (put (flat x.2)) | none => h) (World.holding Tryd.prog os ⟨#[], #[], []⟩).heap }
theorem laid_met (os : Os) : laidMet Tryd.prog Rows.partsWholeUptoRow.laid ((laidWorld os).forCall (fun _ _ => 0) ⟨#[], #[.slice none 0 0, .slice none 0 0, .int .i64 0], []⟩).memory :=
  laidMet_of_run3 8 (by kernel_rfl) (by kernel_rfl) (by kernel_rfl)
theorem reads (os : Os) {H : Type} (enc : TypeId × Value → H) : ∃ places, DataW.whole enc Tryd.prog ((laidWorld os).forCall (fun _ _ => 0) ⟨#[], #[.slice none 0 0, .slice none 0 0, .int .i64 0], []⟩).memory Tryd.f6.params.toList Rows.partsWholeSpec.vars false (#[.slice none 0 0, .slice none 0 0, .int .i64 0] : Array Value).toList 8 = some ([.nil, .nil, .lit (.int .i64 0)], [], places) :=
  ⟨[], by kernel_rfl⟩
set_option maxRecDepth 100000 in
theorem lifted (os : Os) (started : os.Started) (H : Type) (enc : TypeId × Value → H) (F : Stop.Interp) :
    ReturnsInHanded {} Tryd.checked os 6 .any ((Rows.OpenSpec.upto Rows.partsWholeSpec).preRow enc Tryd.prog Tryd.f6 Rows.partsWholeUptoRow.domain false Rows.partsWholeUptoRow.laid) (((Rows.OpenSpec.upto Rows.partsWholeSpec).at F).post enc Tryd.prog Tryd.f6 false true false false) := by
  obtain ⟨places, hx⟩ := reads os enc
  refine returnsInHanded_of_row (C := Tryd.checked) (s := (Rows.OpenSpec.upto Rows.partsWholeSpec)) own started (by kernel_rfl) Tryd.func6
    (witness_row_at (enc := enc) (C := Tryd.checked) false (laidWorld os) #[.slice none 0 0, .slice none 0 0, .int .i64 0] rfl (by kernel_rfl) (by kernel_rfl) (by kernel_rfl)
      (OpenSpec.preRow_of_cond 8 hx (by kernel_rfl) (fun k hk => by cases hk; kernel_rfl) (by kernel_rfl) (laid_met os))) ?_
  intro W base args ds gs before hval hW _ hcond hsz hlaid hsh _
  exact contract H enc W base args ds gs before hval hW hsz hcond (KO.gg_of_laid hlaid)
theorem said : Rows.PartsWholeUptoSaid :=
  OpenClaim.holds_of_cond 6 Tryd.f6 rfl rfl rfl rfl rfl rfl rfl ⟨rfl, rfl, rfl, rfl, rfl⟩ rfl rfl rfl rfl rfl (by kernel_rfl) Tryd.func6 (by kernel_rfl)
    (of_decide_eq_true (by kernel_rfl)) (by unfold Func.isWrapper; first | (rw [if_pos (by decide +kernel)]; kernel_rfl) | (rw [if_neg (by decide +kernel)]; exact ⟨rfl, rfl⟩))
    (fun os started H enc _ F => by rw [OpenClaim.pre_eq_preRow]; exact lifted os started H enc F)
/-- No parameter wants a stand-in; the program's own looks are off: what the card asks. -/
theorem plain (f : FuncId) (fn : Func) (hf : Tryd.pinned.checked.prog.funcNamed "stowage/stowagelaw14.PartsWhole" = some f) (hfn : Tryd.pinned.checked.prog.funcs[f]? = some fn) :
    false = Tryd.pinned.checked.prog.looks [] ∧ ∀ (j : Nat) t, fn.params[j]? = some t → Tryd.pinned.checked.prog.wantsStandIn t = false := by
  obtain rfl : f = 6 := Option.some.inj ((show Tryd.prog.funcNamed "stowage/stowagelaw14.PartsWhole" = some 6 by kernel_rfl).symm.trans hf) |>.symm
  obtain rfl : fn = Tryd.f6 := (Option.some.inj (Tryd.func6.symm.trans hfn)).symm
  refine ⟨by kernel_rfl, fun j t ht => ?_⟩
  rw [Tryd.params6] at ht
  have hm := Array.mem_of_getElem? ht
  simp only [List.mem_toArray, List.mem_cons, List.not_mem_nil, or_false] at hm
  rcases hm with rfl | rfl | rfl
  · exact (show Tryd.prog.wantsStandIn 22 = false by kernel_rfl)
  · exact (show Tryd.prog.wantsStandIn 23 = false by kernel_rfl)
  · exact (show Tryd.prog.wantsStandIn 3 = false by kernel_rfl)
/-- The card. -/
theorem card : Rows.PartsWholeUptoCardSaid :=
  Claim7.holds_tied_plain_at .later [] _ _ _ _ said (fun _ h => by cases h) (by kernel_rfl) (fun _ h => by cases h) partsWholeUpto_row_tie rfl ⟨rfl, rfl⟩ (by kernel_rfl) rfl plain (by kernel_rfl)
end Go.Proofs.YtoiockmmlanimaaDoor.partsWhole
namespace Go.Proofs.YtoiockmmlanimaaDoor
theorem partsWhole_cardUpto : Rows.PartsWholeUptoCardSaid := partsWhole.card
end Go.Proofs.YtoiockmmlanimaaDoor
end
