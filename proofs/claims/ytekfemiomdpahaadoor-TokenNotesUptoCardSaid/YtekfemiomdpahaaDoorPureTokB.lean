/- Layer 15, the plain side: tables, the search, what a token is, in the program and in the reference. No program in sight. -/
import Derived.Test.YtekfemiomdpahaaDoorPureTokA
import Derived.Test.YtekfemiomdpahaaDoorHx5
import Derived.Test.YtekfemiomdpahaaDoorHx6
import Derived.Test.YtekfemiomdpahaaDoorHx7
import Derived.Test.YtekfemiomdpahaaDoorHx9
import Derived.Test.YtekfemiomdpahaaDoorHx10
namespace Go.Proofs.YtekfemiomdpahaaDoor.Pure
open Go.RowKit Go.Proofs.YtekfemiomdpahaaDoor.Hx Go.Proofs.YtekfemiomdpahaaDoorW.PrintWords Go.Proofs.YtekfemiomdpahaaDoorW.PrintLast Go.Proofs.YtekfemiomdpahaaDoorW.PrintMore
set_option linter.unusedVariables false
set_option linter.unusedSimpArgs false
/-! ### The order of texts -/
theorem bl_irrefl : ∀ a, Op.bytesLess a a = false
  | [] => rfl
  | a :: x => by simp [Op.bytesLess, bl_irrefl x]
theorem bl_trans : ∀ a b c, Op.bytesLess a b = true → Op.bytesLess b c = true → Op.bytesLess a c = true
  | _, [], _, h, _ => by cases ‹List UInt8› <;> simp [Op.bytesLess] at h
  | _, _ :: _, [], _, h => by simp [Op.bytesLess] at h
  | [], _ :: _, _ :: _, _, _ => rfl
  | a :: x, b :: y, c :: z, h1, h2 => by
    simp only [Op.bytesLess, Bool.or_eq_true, Bool.and_eq_true, decide_eq_true_eq, beq_iff_eq] at h1 h2 ⊢
    rcases h1 with h1 | ⟨rfl, h1⟩
    · rcases h2 with h2 | ⟨rfl, h2⟩
      · exact .inl (UInt8.lt_trans h1 h2)
      · exact .inl h1
    · rcases h2 with h2 | ⟨rfl, h2⟩
      · exact .inl h2
      · exact .inr ⟨rfl, bl_trans x y z h1 h2⟩
theorem bl_le : ∀ a b, (Op.bytesLess a b || a == b) = !Op.bytesLess b a
  | [], [] => rfl
  | _ :: _, [] => by simp [Op.bytesLess]
  | [], _ :: _ => by simp [Op.bytesLess]
  | a :: x, b :: y => by
    have ih := bl_le x y
    simp only [Op.bytesLess]
    by_cases h1 : a < b
    · have h2 : ¬ b < a := fun h => absurd (UInt8.lt_trans h1 h) (by simp)
      have h3 : b ≠ a := fun h => by subst h; exact absurd h1 (by simp)
      simp [h1, h2, h3]
    · by_cases h2 : b < a
      · have h3 : a ≠ b := fun h => by subst h; exact absurd h2 (by simp)
        simp [h1, h2, h3]
      · obtain rfl : a = b := by
          have h3 := UInt8.not_lt.1 h1
          have h4 := UInt8.not_lt.1 h2
          exact UInt8.le_antisymm h4 h3
        simpa [h1] using ih
theorem cmp_lt : ∀ a b, (Lib.compareBytes a b < 0) ↔ Op.bytesLess a b = true
  | [], [] => by simp [Lib.compareBytes, Op.bytesLess]
  | _ :: _, [] => by simp [Lib.compareBytes, Op.bytesLess]
  | [], _ :: _ => by simp [Lib.compareBytes, Op.bytesLess]
  | a :: x, b :: y => by
    have ih := cmp_lt x y
    simp only [Lib.compareBytes, Op.bytesLess]
    by_cases h1 : a < b
    · simp [h1]
    · by_cases h2 : b < a
      · have h3 : a ≠ b := fun h => by subst h; exact absurd h2 (by simp)
        simp [h1, h2, h3]
      · obtain rfl : a = b := UInt8.le_antisymm (UInt8.not_lt.1 h2) (UInt8.not_lt.1 h1)
        simpa [h1] using ih
theorem cmp_eq : ∀ a b, Lib.compareBytes a b = 0 ↔ a = b
  | [], [] => by simp [Lib.compareBytes]
  | _ :: _, [] => by simp [Lib.compareBytes]
  | [], _ :: _ => by simp [Lib.compareBytes]
  | a :: x, b :: y => by
    have ih := cmp_eq x y
    simp only [Lib.compareBytes]
    by_cases h1 : a < b
    · have h3 : a ≠ b := fun h => by subst h; exact absurd h1 (by simp)
      simp [h1, h3]
    · by_cases h2 : b < a
      · have h3 : a ≠ b := fun h => by subst h; exact absurd h2 (by simp)
        simp [h1, h2, h3]
      · obtain rfl : a = b := UInt8.le_antisymm (UInt8.not_lt.1 h2) (UInt8.not_lt.1 h1)
        simpa [h1] using ih
/-! ### Tables -/
abbrev Held := S31
abbrev Ref := S37
def ref (y : Held) : Ref := ⟨y.f0, y.f1, y.f2, y.f3⟩
def one (y : Held) : Bool := tokOk y.f0 && (hexOk y.f1 && (decide (y.f2.size ≤ 4096) && (decide (1 ≤ y.f3) && decide (y.f3 ≤ 1099511627776))))
def Small (l : List Held) : Prop := l.length ≤ 1048576 ∧ ∀ y ∈ l, y.f0.size ≤ 1048576 ∧ y.f1.size ≤ 1048576
abbrev rd (l : List Held) (i : Nat) : Held := rd_T31 l (i : Int)
theorem rd_mem {l : List Held} {i : Nat} (h : i < l.length) : rd l i ∈ l := by
  show l.getD _ _ ∈ l
  rw [Int.toNat_natCast, List.getD_eq_getElem?_getD, List.getElem?_eq_getElem h]
  exact List.getElem_mem h
theorem rd_eq {l : List Held} {i : Nat} (h : i < l.length) : l[i]? = some (rd l i) := by
  show _ = some (l.getD _ _)
  rw [Int.toNat_natCast, List.getD_eq_getElem?_getD, List.getElem?_eq_getElem h]
  rfl
theorem rd_ref {l : List Held} {i : Nat} (h : i < l.length) : rd_T37 (l.map ref) (i : Int) = ref (rd l i) := by
  show (l.map ref).getD _ _ = ref (l.getD _ _)
  rw [Int.toNat_natCast, List.getD_eq_getElem?_getD, List.getD_eq_getElem?_getD, List.getElem?_map, List.getElem?_eq_getElem h]
  rfl
def less (a b : Held) : Bool := Op.bytesLess a.f0.toList b.f0.toList
def chk (l : List Held) : Nat → Nat → Bool
  | 0, _ => true
  | n + 1, i => one (rd l i) && ((decide (i = 0) || less (rd l (i - 1)) (rd l i)) && chk l n (i + 1))
def tableOk (l : List Held) : Bool := chk l l.length 0 && decide (l.length ≤ 64)
theorem go_eq (l : List Held) (hs : Small l) (k : Nat) (hk : 5242881 ≤ k) : ∀ n i, i + n = l.length → token_right.go k l n i = some (chk l n i)
  | 0, _, _ => rfl
  | n + 1, i, h => by
    have hm := hs.2 _ (rd_mem (l := l) (i := i) (by omega))
    have ih := go_eq l hs k hk n (i + 1) (by omega)
    rw [token_right.go, may_eq _ _ _ _ hm.1 hm.2 k (by omega), Option.bind_some]
    show (if one (rd l i) = true then _ else _) = some (one (rd l i) && _)
    cases one (rd l i) with
    | false => rw [if_neg (by simp)]; rfl
    | true =>
      rw [if_pos rfl, Bool.true_and]
      by_cases h0 : i = 0
      · rw [if_pos h0, ih]; simp [h0]
      · rw [if_neg h0, bl_le, ih, show ((i : Int) - 1) = ((i - 1 : Nat) : Int) by omega]
        have : decide (i = 0) = false := decide_eq_false h0
        rw [this, Bool.false_or]
        show (if (!less (rd l (i - 1)) (rd l i)) = true then _ else _) = _
        cases less (rd l (i - 1)) (rd l i) <;> simp
theorem right_eq (l : List Held) (hs : Small l) (k : Nat) (hk : 5242881 ≤ k) : token_right.f k l = some (tableOk l) := by
  unfold token_right.f
  rw [if_pos (by have := hs.1; omega), go_eq l hs k hk l.length 0 (by omega), Option.bind_some]
  rfl
theorem may_l (l : List Held) (hs : Small l) : ∀ n i k, i + n = l.length → 5242881 + n < k → stowageref15_May.l0 k (l.map ref) (i : Int) = some (chk l n i && decide (l.length ≤ 64)) := by
  have hlen := hs.1
  intro n
  induction n with
  | zero =>
    intro i k hi hk
    obtain ⟨k, rfl⟩ : ∃ j, k = j + 1 := ⟨k - 1, by omega⟩
    rw [stowageref15_May.l0, List.length_map, if_neg (by omega)]
    show some _ = some (true && _)
    rw [Bool.true_and]
    congr 1
    exact decide_eq_decide.2 (by omega)
  | succ n ih =>
    intro i k hi hk
    obtain ⟨k, rfl⟩ : ∃ j, k = j + 1 := ⟨k - 1, by omega⟩
    have hm := hs.2 _ (rd_mem (l := l) (i := i) (by omega))
    rw [stowageref15_May.l0, List.length_map, if_pos (by omega), if_pos (by omega), rd_ref (by omega)]
    rw [show stowageref15_One.f k (ref (rd l i)).f0 (ref (rd l i)).f1 (ref (rd l i)).f2 (ref (rd l i)).f3 = some (one (rd l i)) from one_eq _ _ _ _ hm.1 hm.2 k (by omega), Option.bind_some, chk]
    cases one (rd l i) with
    | false => rw [if_neg (by simp)]; rfl
    | true =>
      rw [if_pos rfl, Bool.true_and, IntWalk.wrap64_in ((i : Int) + 1) (by omega), show ((i : Int) + 1) = ((i + 1 : Nat) : Int) by omega, ih (i + 1) k (by omega) (by omega)]
      by_cases h0 : i = 0
      · rw [if_neg (by omega)]; simp [h0]
      · rw [if_pos (by omega), IntWalk.wrap64_in ((i : Int) - 1) (by omega), if_pos (by omega), if_pos (by omega), show ((i : Int) - 1) = ((i - 1 : Nat) : Int) by omega, rd_ref (by omega)]
        have : decide (i = 0) = false := decide_eq_false h0
        rw [this, Bool.false_or]
        show (if (less (rd l (i - 1)) (rd l i)) = true then _ else _) = _
        cases less (rd l (i - 1)) (rd l i) <;> simp
theorem may15_eq (l : List Held) (hs : Small l) (k : Nat) (hk : 6291459 ≤ k) : stowageref15_May.f k (l.map ref) = some (tableOk l) :=
  may_l l hs l.length 0 k (by omega) (by have := hs.1; omega)
theorem refs_l (l : List Held) (hl : l.length ≤ 1048576) : ∀ n i k, i + n = l.length → n < k → stowagelaw15_Refs.l0 k l ((l.take i).map ref) (i : Int) = some (l.map ref) := by
  intro n
  induction n with
  | zero =>
    intro i k hi hk
    obtain ⟨k, rfl⟩ : ∃ j, k = j + 1 := ⟨k - 1, by omega⟩
    rw [stowagelaw15_Refs.l0, if_neg (by omega), List.take_of_length_le (by omega)]
  | succ n ih =>
    intro i k hi hk
    obtain ⟨k, rfl⟩ : ∃ j, k = j + 1 := ⟨k - 1, by omega⟩
    rw [stowagelaw15_Refs.l0, if_pos (by omega), if_pos (by omega), if_pos (by rw [List.length_map, List.length_take]; omega), IntWalk.wrap64_in ((i : Int) + 1) (by omega), show ((i : Int) + 1) = ((i + 1 : Nat) : Int) by omega, ← ih (i + 1) k (by omega) (by omega)]
    congr 1
    rw [List.take_add_one, rd_eq (l := l) (i := i) (by omega), List.map_append]
    rfl
theorem refs_eq (l : List Held) (hl : l.length ≤ 1048576) (k : Nat) (hk : 1048577 ≤ k) : stowagelaw15_Refs.f k l = some (l.map ref) :=
  refs_l l hl l.length 0 k (by omega) (by omega)
/-! ### Order in a table, and the search -/
theorem chk_at (l : List Held) : ∀ n i, chk l n i = true → ∀ m, i ≤ m → m < i + n → one (rd l m) = true ∧ (m = 0 ∨ less (rd l (m - 1)) (rd l m) = true)
  | 0, i, _, m, h1, h2 => by omega
  | n + 1, i, h, m, h1, h2 => by
    rw [chk] at h
    simp only [Bool.and_eq_true, Bool.or_eq_true, decide_eq_true_eq] at h
    by_cases hm : m = i
    · subst hm; exact ⟨h.1, h.2.1⟩
    · exact chk_at l n (i + 1) h.2.2 m (by omega) (by omega)
def Sorted (l : List Held) : Prop := ∀ i j, i < j → j < l.length → less (rd l i) (rd l j) = true
theorem sorted_of {l : List Held} (h : tableOk l = true) : Sorted l := by
  unfold tableOk at h
  simp only [Bool.and_eq_true] at h
  intro i j hij
  induction j with
  | zero => omega
  | succ j ih =>
    intro hj
    have h1 := (chk_at l l.length 0 h.1 (j + 1) (by omega) (by omega)).2
    rcases h1 with h1 | h1
    · omega
    · rw [Nat.add_sub_cancel] at h1
      by_cases he : i = j
      · rw [he]; exact h1
      · exact bl_trans _ _ _ (ih (by omega) (by omega)) h1
theorem len_of {l : List Held} (h : tableOk l = true) : l.length ≤ 64 := by
  unfold tableOk at h
  simp only [Bool.and_eq_true, decide_eq_true_eq] at h
  exact h.2
def bel (l : List Held) (t : ByteArray) (i : Nat) : Bool := Op.bytesLess (rd l i).f0.toList t.toList
theorem bel_down {l : List Held} (hs : Sorted l) {t : ByteArray} {i j : Nat} (hij : i < j) (hj : j < l.length) (h : bel l t j = true) : bel l t i = true := bl_trans _ _ _ (hs i j hij hj) h
theorem bs_spec (l : List Held) (hs : Sorted l) (t : ByteArray) : ∀ n i j, i ≤ j → j ≤ l.length → j - i ≤ n → (∀ m, m < i → bel l t m = true) → (∀ m, j ≤ m → m < l.length → bel l t m = false) →
    token_find_bs l t n i j ≤ l.length ∧ (∀ m, m < token_find_bs l t n i j → bel l t m = true) ∧ (∀ m, token_find_bs l t n i j ≤ m → m < l.length → bel l t m = false)
  | 0, i, j, h1, h2, h3, ha, hb => by
    obtain rfl : i = j := by omega
    exact ⟨h2, ha, hb⟩
  | n + 1, i, j, h1, h2, h3, ha, hb => by
    rw [token_find_bs]
    by_cases hij : i < j
    · rw [if_pos hij]
      by_cases hc : Lib.compareBytes (rd_T31 l (((i + j) / 2 : Nat) : Int)).f0.data.toList t.data.toList < 0
      · rw [if_pos hc]
        have hb1 : bel l t ((i + j) / 2) = true := by unfold bel; rw [ByteArray.toList_eq, ByteArray.toList_eq]; exact (cmp_lt _ _).1 hc
        refine bs_spec l hs t n _ _ (by omega) h2 (by omega) (fun m hm => ?_) hb
        by_cases he : m = (i + j) / 2
        · rw [he]; exact hb1
        · exact bel_down hs (show m < (i + j) / 2 by omega) (by omega) hb1
      · rw [if_neg hc]
        have hb1 : bel l t ((i + j) / 2) = false := by
          cases hq : bel l t ((i + j) / 2) with
          | false => rfl
          | true => unfold bel at hq; rw [ByteArray.toList_eq, ByteArray.toList_eq] at hq; exact absurd ((cmp_lt _ _).2 hq) hc
        refine bs_spec l hs t n _ _ (by omega) (by omega) (by omega) ha (fun m hm hml => ?_)
        cases hq : bel l t m with
        | false => rfl
        | true =>
          by_cases he : m = (i + j) / 2
          · rw [he, hb1] at hq; cases hq
          · rw [bel_down hs (show (i + j) / 2 < m by omega) hml hq] at hb1; cases hb1
    · rw [if_neg hij]
      obtain rfl : i = j := by omega
      exact ⟨h2, ha, hb⟩
/-- The search in a table: the place R, and whether the token stands there; if it does it stands nowhere else, if not it stands nowhere. -/
theorem find_eq (l : List Held) (hs : Sorted l) (hl : l.length ≤ 64) (t : ByteArray) : ∃ R is, token_find.f l t = some (((R : Nat) : Int), is) ∧ R ≤ l.length ∧ (∀ m, m < R → bel l t m = true) ∧ (∀ m, R ≤ m → m < l.length → bel l t m = false) ∧
    (is = true → R < l.length ∧ (rd l R).f0.toList = t.toList) ∧ (is = false → ∀ m, m < l.length → (rd l m).f0.toList ≠ t.toList) ∧ (∀ m, m < R → (rd l m).f0.toList ≠ t.toList) := by
  obtain ⟨h1, h2, h3⟩ := bs_spec l hs t l.length 0 l.length (by omega) (by omega) (by omega) (fun m hm => by omega) (fun m hm hm2 => by omega)
  have hne : ∀ m, m < token_find_bs l t l.length 0 l.length → (rd l m).f0.toList ≠ t.toList := fun m hm e => by
    have := h2 m hm
    unfold bel at this
    rw [e, bl_irrefl] at this
    cases this
  refine ⟨token_find_bs l t l.length 0 l.length, decide (token_find_bs l t l.length 0 l.length < l.length) && Lib.compareBytes (rd_T31 l ((token_find_bs l t l.length 0 l.length : Nat) : Int)).f0.data.toList t.data.toList == 0, ?_, h1, h2, h3, ?_, ?_, hne⟩
  · unfold token_find.f
    rw [if_pos (by omega)]
  · intro h
    simp only [Bool.and_eq_true, decide_eq_true_eq, beq_iff_eq] at h
    exact ⟨h.1, by rw [ByteArray.toList_eq, ByteArray.toList_eq]; exact (cmp_eq _ _).1 h.2⟩
  · intro h m hm e
    have hR : ¬ m < token_find_bs l t l.length 0 l.length := fun hlt => hne m hlt e
    by_cases he : m = token_find_bs l t l.length 0 l.length
    · rw [← he] at h
      have h4 : decide (m < l.length) = true := decide_eq_true hm
      have h5 : Lib.compareBytes (rd_T31 l (m : Int)).f0.data.toList t.data.toList = 0 := (cmp_eq _ _).2 (by rw [← ByteArray.toList_eq, ← ByteArray.toList_eq]; exact e)
      rw [h4, h5] at h
      simp at h
    · have h6 := h3 (token_find_bs l t l.length 0 l.length) (Nat.le_refl _) (by omega)
      have h7 := hs (token_find_bs l t l.length 0 l.length) m (by omega) hm
      unfold less at h7
      unfold bel at h6
      rw [e, h6] at h7
      cases h7
theorem look_hit (l : List Held) (t s : ByteArray) (R : Nat) (hR : R < l.length) (hl : l.length ≤ 64) (he : (rd l R).f0.toList = t.toList) (hne : ∀ m, m < R → (rd l m).f0.toList ≠ t.toList) : ∀ n i k, i + n = R → n < k →
    stowageref15_Look.l0 k (l.map ref) t s (i : Int) = some (if (rd l R).f1.toList = s.toList then ((1 : Int), (rd l R).f2) else (2, (⟨#[]⟩ : ByteArray))) := by
  intro n
  induction n with
  | zero =>
    intro i k hi hk
    obtain ⟨k, rfl⟩ : ∃ j, k = j + 1 := ⟨k - 1, by omega⟩
    obtain rfl : i = R := by omega
    rw [stowageref15_Look.l0, List.length_map, if_pos (by omega), if_pos (by omega), rd_ref hR, if_pos (by exact he)]
    show (if (rd l i).f1.toList = s.toList then _ else _) = _
    split <;> rfl
  | succ n ih =>
    intro i k hi hk
    obtain ⟨k, rfl⟩ : ∃ j, k = j + 1 := ⟨k - 1, by omega⟩
    rw [stowageref15_Look.l0, List.length_map, if_pos (by omega), if_pos (by omega), rd_ref (by omega), if_neg (by exact hne i (by omega)), IntWalk.wrap64_in ((i : Int) + 1) (by omega), show ((i : Int) + 1) = ((i + 1 : Nat) : Int) by omega]
    exact ih (i + 1) k (by omega) (by omega)
theorem look_miss (l : List Held) (t s : ByteArray) (hl : l.length ≤ 64) (hne : ∀ m, m < l.length → (rd l m).f0.toList ≠ t.toList) : ∀ n i k, i + n = l.length → n < k →
    stowageref15_Look.l0 k (l.map ref) t s (i : Int) = some ((0 : Int), (⟨#[]⟩ : ByteArray)) := by
  intro n
  induction n with
  | zero =>
    intro i k hi hk
    obtain ⟨k, rfl⟩ : ∃ j, k = j + 1 := ⟨k - 1, by omega⟩
    rw [stowageref15_Look.l0, List.length_map, if_neg (by omega)]
  | succ n ih =>
    intro i k hi hk
    obtain ⟨k, rfl⟩ : ∃ j, k = j + 1 := ⟨k - 1, by omega⟩
    rw [stowageref15_Look.l0, List.length_map, if_pos (by omega), if_pos (by omega), rd_ref (by omega), if_neg (by exact hne i (by omega)), IntWalk.wrap64_in ((i : Int) + 1) (by omega), show ((i : Int) + 1) = ((i + 1 : Nat) : Int) by omega]
    exact ih (i + 1) k (by omega) (by omega)
/-- The program's answer and the reference's, of any table. -/
theorem look_eq (l : List Held) (hs : Small l) (t s : ByteArray) (k : Nat) (hk : 6291460 ≤ k) : ∃ a u, token_Look.f k l t s = some (a, u) ∧ stowageref15_Look.f k (l.map ref) t s = some (a, u) := by
  unfold token_Look.f stowageref15_Look.f
  rw [right_eq l hs k (by omega), may15_eq l hs k (by omega), Option.bind_some, Option.bind_some]
  cases ht : tableOk l with
  | false => exact ⟨_, _, by rw [if_neg (by simp)], by rw [if_neg (by simp)]⟩
  | true =>
    have hl := len_of ht
    obtain ⟨R, is, hf, h1, h2, h3, h4, h5, h6⟩ := find_eq l (sorted_of ht) hl t
    rw [if_pos rfl, if_pos rfl, hf, Option.bind_some]
    cases is with
    | false =>
      exact ⟨_, _, by rw [if_neg (by simp)], look_miss l t s hl (h5 rfl) l.length 0 k (by omega) (by omega)⟩
    | true =>
      obtain ⟨hR, he⟩ := h4 rfl
      refine ⟨(if (rd l R).f1.toList = s.toList then ((1 : Int), (rd l R).f2) else (2, (⟨#[]⟩ : ByteArray))).1, (if (rd l R).f1.toList = s.toList then ((1 : Int), (rd l R).f2) else (2, (⟨#[]⟩ : ByteArray))).2, ?_, look_hit l t s R hR hl he h6 R 0 k (by omega) (by omega)⟩
      rw [if_pos rfl, if_pos (by omega), if_pos (by omega)]
      show (if (rd l R).f1.toList = s.toList then _ else _) = _
      split <;> rfl
end Go.Proofs.YtekfemiomdpahaaDoor.Pure
