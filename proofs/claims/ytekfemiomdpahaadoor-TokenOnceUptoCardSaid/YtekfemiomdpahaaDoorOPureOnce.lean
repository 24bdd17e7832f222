/- Layer 15, the plain side of TokenOnce: tables, the search, keeping and forgetting. No program in sight. -/
import Derived.IntWalk
import Derived.Test.YtekfemiomdpahaaDoorHoModel
namespace Go.Proofs.YtekfemiomdpahaaDoor.Pure
open Go.RowKit Go.Proofs.YtekfemiomdpahaaDoor.Ho Go.Proofs.YtekfemiomdpahaaDoorW.PrintWords Go.Proofs.YtekfemiomdpahaaDoorW.PrintLast Go.Proofs.YtekfemiomdpahaaDoorW.PrintMore
set_option linter.unusedVariables false
set_option linter.unusedSimpArgs false
def tokC (c : UInt8) : Bool := decide (33 ≤ c.toNat) && decide (c.toNat ≤ 126)
def hexC (c : UInt8) : Bool := (decide (48 ≤ c.toNat) && decide (c.toNat ≤ 57)) || (decide (97 ≤ c.toNat) && decide (c.toNat ≤ 102))
def tokOk (a : ByteArray) : Bool := a.data.toList.all tokC && (decide (1 ≤ a.size) && decide (a.size ≤ 64))
def hexOk (a : ByteArray) : Bool := a.data.toList.all hexC && decide (a.size = 64)
theorem len_eq (a : ByteArray) : a.data.toList.length = a.size := Array.length_toList (xs := a.data)
theorem bt_get (a : ByteArray) (i : Nat) (h : i < a.size) : ∃ c, a.data.toList.drop i = c :: a.data.toList.drop (i + 1) ∧ bt a (i : Int) = (c.toNat : Int) := by
  have hl : i < a.data.toList.length := by rw [len_eq]; exact h
  refine ⟨a.data.toList[i], List.drop_eq_getElem_cons hl, ?_⟩
  unfold bt
  rw [dif_pos (by rw [Int.toNat_natCast]; exact h)]
  simp only [Int.toNat_natCast, Array.getElem_toList]
  rfl
theorem toList_nil (a : ByteArray) : a.toList = ([] : List UInt8) ↔ a.size = 0 := by
  rw [ByteArray.toList_eq, ← len_eq, List.length_eq_zero_iff]
theorem names_tok (a : ByteArray) (hs : a.size ≤ 1048576) : ∀ n i k, i + n = a.size → n < k → names_Token.l0 k a (a.size : Int) (i : Int) = some ((a.data.toList.drop i).all tokC && (decide (1 ≤ a.size) && decide (a.size ≤ 64))) := by
  intro n
  induction n with
  | zero =>
    intro i k hi hk
    obtain ⟨k, rfl⟩ : ∃ j, k = j + 1 := ⟨k - 1, by omega⟩
    rw [names_Token.l0, if_neg (by omega), List.drop_of_length_le (by rw [len_eq]; omega)]
    by_cases h0 : a.size = 0
    · rw [if_pos ((toList_nil a).2 h0)]; simp [h0]
    · rw [if_neg (fun h => h0 ((toList_nil a).1 h))]
      have h1 : decide (1 ≤ a.size) = true := decide_eq_true (by omega)
      rw [h1]
      simp only [List.all_nil, Bool.true_and]
      congr 1
      exact decide_eq_decide.2 (by omega)
  | succ n ih =>
    intro i k hi hk
    obtain ⟨k, rfl⟩ : ∃ j, k = j + 1 := ⟨k - 1, by omega⟩
    obtain ⟨c, hd, hb⟩ := bt_get a i (by omega)
    rw [names_Token.l0, if_pos (by omega), if_pos (by omega), if_pos (by omega), hb, hd, List.all_cons]
    by_cases h1 : (c.toNat : Int) < 33
    · rw [if_pos h1]; simp [tokC, show ¬ 33 ≤ c.toNat by omega]
    · rw [if_neg h1]
      by_cases h2 : (c.toNat : Int) > 126
      · rw [if_pos h2]; simp [tokC, show ¬ c.toNat ≤ 126 by omega]
      · rw [if_neg h2, IntWalk.wrap64_in _ (by omega), show ((i : Int) + 1) = ((i + 1 : Nat) : Int) by omega, ih (i + 1) k (by omega) (by omega)]
        have h3 : tokC c = true := by simp [tokC]; omega
        rw [h3, Bool.true_and]
theorem names_Token_eq (a : ByteArray) (hs : a.size ≤ 1048576) (k : Nat) (hk : 1048577 ≤ k) : names_Token.f k a = some (tokOk a) :=
  names_tok a hs a.size 0 k (by omega) (by omega)
/-! ### Sums -/
theorem dropWhile_nil {α : Type} (p : α → Bool) : ∀ l : List α, l.dropWhile p = [] ↔ l.all p = true
  | [] => by simp
  | a :: l => by
    rw [List.dropWhile_cons, List.all_cons]
    cases h : p a
    · simp
    · simp [dropWhile_nil p l]
theorem trimS_nil (l cs : List UInt8) : Lib.trimS l cs = [] ↔ l.all (cs.contains ·) = true := by
  unfold Lib.trimS Lib.trimLeftS Lib.trimRightS
  rw [dropWhile_nil, List.all_reverse]
  constructor
  · intro h
    have h2 : l.reverse.dropWhile (cs.contains ·) = [] := by
      cases hd : l.reverse.dropWhile (cs.contains ·) with
      | nil => rfl
      | cons x t =>
        have h3 := List.head?_dropWhile_not (cs.contains ·) l.reverse
        rw [hd] at h3 h
        simp only [List.head?_cons] at h3
        rw [List.all_cons] at h
        simp only [Bool.and_eq_true] at h
        exact absurd h.1 (by simpa using h3)
    rw [dropWhile_nil, List.all_reverse] at h2
    exact h2
  · intro h
    have h2 : l.reverse.dropWhile (cs.contains ·) = [] := by rw [dropWhile_nil, List.all_reverse]; exact h
    rw [h2]; rfl
theorem hex_byte (c : UInt8) : (strings_Trim_hex.data.toList.contains c) = hexC c := by
  have h : ∀ n, n < 256 → (strings_Trim_hex.data.toList.contains (UInt8.ofNat n)) = hexC (UInt8.ofNat n) := by decide +kernel
  have h2 := h c.toNat (UInt8.toNat_lt c)
  rwa [UInt8.ofNat_toNat] at h2
theorem trim_eq (b : ByteArray) (hs : b.size ≤ 1048576) : ∃ r, strings_Trim.f b (⟨#[48, 49, 50, 51, 52, 53, 54, 55, 56, 57, 97, 98, 99, 100, 101, 102]⟩ : ByteArray) = some r ∧ (r.toList = ([] : List UInt8) ↔ b.data.toList.all hexC = true) := by
  refine ⟨⟨(Lib.trimS b.data.toList strings_Trim_hex.data.toList).toArray⟩, ?_, ?_⟩
  · unfold strings_Trim.f
    rw [if_pos ⟨by omega, rfl⟩]
  · rw [ByteArray.toList_eq]
    show (Lib.trimS b.data.toList strings_Trim_hex.data.toList) = [] ↔ _
    rw [trimS_nil]
    have : (fun x => strings_Trim_hex.data.toList.contains x) = hexC := funext hex_byte
    rw [this]
theorem may_eq (a b c : ByteArray) (d : Int) (ha : a.size ≤ 1048576) (hb : b.size ≤ 1048576) (k : Nat) (hk : 1048577 ≤ k) :
    token_may.f k a b c d = some (tokOk a && (hexOk b && (decide (c.size ≤ 4096) && (decide (1 ≤ d) && decide (d ≤ 1099511627776))))) := by
  unfold token_may.f
  rw [names_Token_eq a ha k hk, Option.bind_some]
  cases tokOk a with
  | false => rw [if_neg (by simp)]; rfl
  | true =>
    rw [if_pos rfl, Bool.true_and]
    unfold hexOk
    by_cases h1 : b.size = 64
    · rw [if_pos (by omega)]
      obtain ⟨r, hr, hx⟩ := trim_eq b hb
      rw [hr, Option.bind_some]
      by_cases h2 : b.data.toList.all hexC = true
      · rw [if_pos (hx.2 h2), h2]
        by_cases h3 : c.size ≤ 4096
        · rw [if_pos (by omega)]
          by_cases h4 : 1 ≤ d
          · rw [if_pos h4]; simp [h1, h3, h4]
          · rw [if_neg h4]; simp [h4]
        · rw [if_neg (by omega)]; simp [h3]
      · rw [if_neg (fun h => h2 (hx.1 h))]
        have h2' : b.data.toList.all hexC = false := by simpa using h2
        rw [h2']; rfl
    · rw [if_neg (by omega)]; simp [h1]
/-! ### The order of texts -/
theorem bl_irrefl : ∀ a, Op.bytesLess a a = false
  | [] => rfl
  | a :: x => by simp [Op.bytesLess, bl_irrefl x]
theorem bl_trans : ∀ a b c, Op.bytesLess a b = true → Op.bytesLess b c = true → Op.bytesLess a c = true
  | _, [], _, h, _ => by cases ‹List UInt8› <;> simp [Op.bytesLess] at h
  | _, _ :: _, [], _, h => by simp [Op.bytesLess] at h
  | [], _ :: _, _ :: _, _, _ => rfl
  | a :: x, b :: y, c :: z, h1, h2 => by
    simp only [Op.bytesLess, Bool.or_eq_true, Bool.and_eq_true, decide_eq_true_eq, beq_iff_eq] at h1 h2 ⊢
    rcases h1 with h1 | ⟨rfl, h1⟩
    · rcases h2 with h2 | ⟨rfl, h2⟩
      · exact .inl (UInt8.lt_trans h1 h2)
      · exact .inl h1
    · rcases h2 with h2 | ⟨rfl, h2⟩
      · exact .inl h2
      · exact .inr ⟨rfl, bl_trans x y z h1 h2⟩
theorem bl_le : ∀ a b, (Op.bytesLess a b || a == b) = !Op.bytesLess b a
  | [], [] => rfl
  | _ :: _, [] => by simp [Op.bytesLess]
  | [], _ :: _ => by simp [Op.bytesLess]
  | a :: x, b :: y => by
    have ih := bl_le x y
    simp only [Op.bytesLess]
    by_cases h1 : a < b
    · have h2 : ¬ b < a := fun h => absurd (UInt8.lt_trans h1 h) (by simp)
      have h3 : b ≠ a := fun h => by subst h; exact absurd h1 (by simp)
      simp [h1, h2, h3]
    · by_cases h2 : b < a
      · have h3 : a ≠ b := fun h => by subst h; exact absurd h2 (by simp)
        simp [h1, h2, h3]
      · obtain rfl : a = b := by
          have h3 := UInt8.not_lt.1 h1
          have h4 := UInt8.not_lt.1 h2
          exact UInt8.le_antisymm h4 h3
        simpa [h1] using ih
theorem cmp_lt : ∀ a b, (Lib.compareBytes a b < 0) ↔ Op.bytesLess a b = true
  | [], [] => by simp [Lib.compareBytes, Op.bytesLess]
  | _ :: _, [] => by simp [Lib.compareBytes, Op.bytesLess]
  | [], _ :: _ => by simp [Lib.compareBytes, Op.bytesLess]
  | a :: x, b :: y => by
    have ih := cmp_lt x y
    simp only [Lib.compareBytes, Op.bytesLess]
    by_cases h1 : a < b
    · simp [h1]
    · by_cases h2 : b < a
      · have h3 : a ≠ b := fun h => by subst h; exact absurd h2 (by simp)
        simp [h1, h2, h3]
      · obtain rfl : a = b := UInt8.le_antisymm (UInt8.not_lt.1 h2) (UInt8.not_lt.1 h1)
        simpa [h1] using ih
theorem cmp_eq : ∀ a b, Lib.compareBytes a b = 0 ↔ a = b
  | [], [] => by simp [Lib.compareBytes]
  | _ :: _, [] => by simp [Lib.compareBytes]
  | [], _ :: _ => by simp [Lib.compareBytes]
  | a :: x, b :: y => by
    have ih := cmp_eq x y
    simp only [Lib.compareBytes]
    by_cases h1 : a < b
    · have h3 : a ≠ b := fun h => by subst h; exact absurd h1 (by simp)
      simp [h1, h3]
    · by_cases h2 : b < a
      · have h3 : a ≠ b := fun h => by subst h; exact absurd h2 (by simp)
        simp [h1, h2, h3]
      · obtain rfl : a = b := UInt8.le_antisymm (UInt8.not_lt.1 h2) (UInt8.not_lt.1 h1)
        simpa [h1] using ih
/-! ### Tables -/
abbrev Held := S31
def one (y : Held) : Bool := tokOk y.f0 && (hexOk y.f1 && (decide (y.f2.size ≤ 4096) && (decide (1 ≤ y.f3) && decide (y.f3 ≤ 1099511627776))))
def Small (l : List Held) : Prop := l.length ≤ 1048576 ∧ ∀ y ∈ l, y.f0.size ≤ 1048576 ∧ y.f1.size ≤ 1048576
abbrev rd (l : List Held) (i : Nat) : Held := rd_T31 l (i : Int)
theorem rd_mem {l : List Held} {i : Nat} (h : i < l.length) : rd l i ∈ l := by
  show l.getD _ _ ∈ l
  rw [Int.toNat_natCast, List.getD_eq_getElem?_getD, List.getElem?_eq_getElem h]
  exact List.getElem_mem h
theorem rd_eq {l : List Held} {i : Nat} (h : i < l.length) : l[i]? = some (rd l i) := by
  show _ = some (l.getD _ _)
  rw [Int.toNat_natCast, List.getD_eq_getElem?_getD, List.getElem?_eq_getElem h]
  rfl
def less (a b : Held) : Bool := Op.bytesLess a.f0.toList b.f0.toList
def chk (l : List Held) : Nat → Nat → Bool
  | 0, _ => true
  | n + 1, i => one (rd l i) && ((decide (i = 0) || less (rd l (i - 1)) (rd l i)) && chk l n (i + 1))
def tableOk (l : List Held) : Bool := chk l l.length 0 && decide (l.length ≤ 64)
theorem go_eq (l : List Held) (hs : Small l) (k : Nat) (hk : 5242881 ≤ k) : ∀ n i, i + n = l.length → token_right.go k l n i = some (chk l n i)
  | 0, _, _ => rfl
  | n + 1, i, h => by
    have hm := hs.2 _ (rd_mem (l := l) (i := i) (by omega))
    have ih := go_eq l hs k hk n (i + 1) (by omega)
    rw [token_right.go, may_eq _ _ _ _ hm.1 hm.2 k (by omega), Option.bind_some]
    show (if one (rd l i) = true then _ else _) = some (one (rd l i) && _)
    cases one (rd l i) with
    | false => rw [if_neg (by simp)]; rfl
    | true =>
      rw [if_pos rfl, Bool.true_and]
      by_cases h0 : i = 0
      · rw [if_pos h0, ih]; simp [h0]
      · rw [if_neg h0, bl_le, ih, show ((i : Int) - 1) = ((i - 1 : Nat) : Int) by omega]
        have : decide (i = 0) = false := decide_eq_false h0
        rw [this, Bool.false_or]
        show (if (!less (rd l (i - 1)) (rd l i)) = true then _ else _) = _
        cases less (rd l (i - 1)) (rd l i) <;> simp
theorem right_eq (l : List Held) (hs : Small l) (k : Nat) (hk : 5242881 ≤ k) : token_right.f k l = some (tableOk l) := by
  unfold token_right.f
  rw [if_pos (by have := hs.1; omega), go_eq l hs k hk l.length 0 (by omega), Option.bind_some]
  rfl
/-! ### Order in a table, and the search -/
theorem chk_at (l : List Held) : ∀ n i, chk l n i = true → ∀ m, i ≤ m → m < i + n → one (rd l m) = true ∧ (m = 0 ∨ less (rd l (m - 1)) (rd l m) = true)
  | 0, i, _, m, h1, h2 => by omega
  | n + 1, i, h, m, h1, h2 => by
    rw [chk] at h
    simp only [Bool.and_eq_true, Bool.or_eq_true, decide_eq_true_eq] at h
    by_cases hm : m = i
    · subst hm; exact ⟨h.1, h.2.1⟩
    · exact chk_at l n (i + 1) h.2.2 m (by omega) (by omega)
def Sorted (l : List Held) : Prop := ∀ i j, i < j → j < l.length → less (rd l i) (rd l j) = true
theorem sorted_of {l : List Held} (h : tableOk l = true) : Sorted l := by
  unfold tableOk at h
  simp only [Bool.and_eq_true] at h
  intro i j hij
  induction j with
  | zero => omega
  | succ j ih =>
    intro hj
    have h1 := (chk_at l l.length 0 h.1 (j + 1) (by omega) (by omega)).2
    rcases h1 with h1 | h1
    · omega
    · rw [Nat.add_sub_cancel] at h1
      by_cases he : i = j
      · rw [he]; exact h1
      · exact bl_trans _ _ _ (ih (by omega) (by omega)) h1
theorem len_of {l : List Held} (h : tableOk l = true) : l.length ≤ 64 := by
  unfold tableOk at h
  simp only [Bool.and_eq_true, decide_eq_true_eq] at h
  exact h.2
def bel (l : List Held) (t : ByteArray) (i : Nat) : Bool := Op.bytesLess (rd l i).f0.toList t.toList
theorem bel_down {l : List Held} (hs : Sorted l) {t : ByteArray} {i j : Nat} (hij : i < j) (hj : j < l.length) (h : bel l t j = true) : bel l t i = true := bl_trans _ _ _ (hs i j hij hj) h
theorem bs_spec (l : List Held) (hs : Sorted l) (t : ByteArray) : ∀ n i j, i ≤ j → j ≤ l.length → j - i ≤ n → (∀ m, m < i → bel l t m = true) → (∀ m, j ≤ m → m < l.length → bel l t m = false) →
    token_find_bs l t n i j ≤ l.length ∧ (∀ m, m < token_find_bs l t n i j → bel l t m = true) ∧ (∀ m, token_find_bs l t n i j ≤ m → m < l.length → bel l t m = false)
  | 0, i, j, h1, h2, h3, ha, hb => by
    obtain rfl : i = j := by omega
    exact ⟨h2, ha, hb⟩
  | n + 1, i, j, h1, h2, h3, ha, hb => by
    rw [token_find_bs]
    by_cases hij : i < j
    · rw [if_pos hij]
      by_cases hc : Lib.compareBytes (rd_T31 l (((i + j) / 2 : Nat) : Int)).f0.data.toList t.data.toList < 0
      · rw [if_pos hc]
        have hb1 : bel l t ((i + j) / 2) = true := by unfold bel; rw [ByteArray.toList_eq, ByteArray.toList_eq]; exact (cmp_lt _ _).1 hc
        refine bs_spec l hs t n _ _ (by omega) h2 (by omega) (fun m hm => ?_) hb
        by_cases he : m = (i + j) / 2
        · rw [he]; exact hb1
        · exact bel_down hs (show m < (i + j) / 2 by omega) (by omega) hb1
      · rw [if_neg hc]
        have hb1 : bel l t ((i + j) / 2) = false := by
          cases hq : bel l t ((i + j) / 2) with
          | false => rfl
          | true => unfold bel at hq; rw [ByteArray.toList_eq, ByteArray.toList_eq] at hq; exact absurd ((cmp_lt _ _).2 hq) hc
        refine bs_spec l hs t n _ _ (by omega) (by omega) (by omega) ha (fun m hm hml => ?_)
        cases hq : bel l t m with
        | false => rfl
        | true =>
          by_cases he : m = (i + j) / 2
          · rw [he, hb1] at hq; cases hq
          · rw [bel_down hs (show (i + j) / 2 < m by omega) hml hq] at hb1; cases hb1
    · rw [if_neg hij]
      obtain rfl : i = j := by omega
      exact ⟨h2, ha, hb⟩
/-- The search in a table: the place R, and whether the token stands there; if it does it stands nowhere else, if not it stands nowhere. -/
theorem find_eq (l : List Held) (hs : Sorted l) (hl : l.length ≤ 64) (t : ByteArray) : ∃ R is, token_find.f l t = some (((R : Nat) : Int), is) ∧ R ≤ l.length ∧ (∀ m, m < R → bel l t m = true) ∧ (∀ m, R ≤ m → m < l.length → bel l t m = false) ∧
    (is = true → R < l.length ∧ (rd l R).f0.toList = t.toList) ∧ (is = false → ∀ m, m < l.length → (rd l m).f0.toList ≠ t.toList) ∧ (∀ m, m < R → (rd l m).f0.toList ≠ t.toList) := by
  obtain ⟨h1, h2, h3⟩ := bs_spec l hs t l.length 0 l.length (by omega) (by omega) (by omega) (fun m hm => by omega) (fun m hm hm2 => by omega)
  have hne : ∀ m, m < token_find_bs l t l.length 0 l.length → (rd l m).f0.toList ≠ t.toList := fun m hm e => by
    have := h2 m hm
    unfold bel at this
    rw [e, bl_irrefl] at this
    cases this
  refine ⟨token_find_bs l t l.length 0 l.length, decide (token_find_bs l t l.length 0 l.length < l.length) && Lib.compareBytes (rd_T31 l ((token_find_bs l t l.length 0 l.length : Nat) : Int)).f0.data.toList t.data.toList == 0, ?_, h1, h2, h3, ?_, ?_, hne⟩
  · unfold token_find.f
    rw [if_pos (by omega)]
  · intro h
    simp only [Bool.and_eq_true, decide_eq_true_eq, beq_iff_eq] at h
    exact ⟨h.1, by rw [ByteArray.toList_eq, ByteArray.toList_eq]; exact (cmp_eq _ _).1 h.2⟩
  · intro h m hm e
    have hR : ¬ m < token_find_bs l t l.length 0 l.length := fun hlt => hne m hlt e
    by_cases he : m = token_find_bs l t l.length 0 l.length
    · rw [← he] at h
      have h4 : decide (m < l.length) = true := decide_eq_true hm
      have h5 : Lib.compareBytes (rd_T31 l (m : Int)).f0.data.toList t.data.toList = 0 := (cmp_eq _ _).2 (by rw [← ByteArray.toList_eq, ← ByteArray.toList_eq]; exact e)
      rw [h4, h5] at h
      simp at h
    · have h6 := h3 (token_find_bs l t l.length 0 l.length) (Nat.le_refl _) (by omega)
      have h7 := hs (token_find_bs l t l.length 0 l.length) m (by omega) hm
      unfold less at h7
      unfold bel at h6
      rw [e, h6] at h7
      cases h7
/-- The program's answer and the reference's, of any table. -/
def zz : ByteArray := ⟨(List.replicate 64 (48 : UInt8)).toArray⟩
theorem zeros_true : stowagelaw15_zeros.f 66 = some zz := by kernel_rfl
def e0 : Held := ⟨⟨#[116]⟩, zz, ⟨#[100, 111, 110, 101]⟩, 3⟩
theorem small0 : Small [] := ⟨by simp, fun y h => by cases h⟩
theorem small1 : Small [e0] := ⟨by simp, fun y h => by
  obtain rfl := List.mem_singleton.1 h
  exact ⟨of_decide_eq_true (by kernel_rfl), of_decide_eq_true (by kernel_rfl)⟩⟩
theorem may0 (k : Nat) (hk : 5242881 ≤ k) : token_may.f k (⟨#[116]⟩ : ByteArray) zz (⟨#[100, 111, 110, 101]⟩ : ByteArray) 3 = some true := by
  rw [may_eq _ _ _ _ (of_decide_eq_true (by kernel_rfl)) (of_decide_eq_true (by kernel_rfl)) k (by omega)]
  kernel_rfl
theorem awake_note (k : Nat) (hk : 5242881 ≤ k) : token_Note.f k ([] : List Held) (⟨#[116]⟩ : ByteArray) zz (⟨#[100, 111, 110, 101]⟩ : ByteArray) 3 = some ([e0], 0) := by
  unfold token_Note.f
  rw [right_eq [] small0 k hk, show tableOk [] = true from rfl, Option.bind_some, if_pos rfl, may0 k hk, Option.bind_some, if_pos rfl, show token_find.f ([] : List Held) (⟨#[116]⟩ : ByteArray) = some (0, false) by kernel_rfl]
  kernel_rfl
theorem awake_look (k : Nat) (hk : 5242881 ≤ k) (s : ByteArray) : token_Look.f k [e0] (⟨#[116]⟩ : ByteArray) s = if zz.toList = s.toList then some (1, (⟨#[100, 111, 110, 101]⟩ : ByteArray)) else some (2, (⟨#[]⟩ : ByteArray)) := by
  unfold token_Look.f
  rw [right_eq [e0] small1 k hk, show tableOk [e0] = true by kernel_rfl, Option.bind_some, if_pos rfl, show token_find.f [e0] (⟨#[116]⟩ : ByteArray) = some (0, true) by kernel_rfl, Option.bind_some, if_pos rfl, if_pos (by decide), if_pos (by decide)]
  rfl
theorem awake_look0 (k : Nat) (hk : 5242881 ≤ k) (s : ByteArray) : token_Look.f k [] (⟨#[116]⟩ : ByteArray) s = some (0, (⟨#[]⟩ : ByteArray)) := by
  unfold token_Look.f
  rw [right_eq [] small0 k hk, show tableOk [] = true from rfl, Option.bind_some, if_pos rfl, show token_find.f ([] : List Held) (⟨#[116]⟩ : ByteArray) = some (0, false) by kernel_rfl]
  rfl
theorem awake_expire (k : Nat) (hk : 5242881 ≤ k) : token_Expire.f k [e0] 3 = some ([], 1) := by
  unfold token_Expire.f
  rw [right_eq [e0] small1 k hk, show tableOk [e0] = true by kernel_rfl, Option.bind_some, if_pos rfl]
  kernel_rfl
theorem awake_at (k : Nat) (hk : 5242881 ≤ k) : stowagelaw15_awake.f k = some true := by
  unfold stowagelaw15_awake.f
  rw [at_rounds stowagelaw15_zeros.mono (show 66 ≤ k by omega) zeros_true]
  simp only [Option.bind_some]
  rw [awake_note k hk]
  simp only [Option.bind_some]
  rw [awake_look k hk, awake_look k hk, awake_expire k hk, if_pos rfl, if_neg (by rw [ByteArray.toList_eq, ByteArray.toList_eq]; decide +kernel)]
  simp only [Option.bind_some]
  rw [awake_look0 k hk]
  simp only [ByteArray.toList_eq]
  kernel_rfl
/-! ### Tables, once more -/
theorem rd_get {l : List Held} {i : Nat} (h : i < l.length) : rd l i = l[i] := by
  have h1 := rd_eq h
  rw [List.getElem?_eq_getElem h] at h1
  exact (Option.some.inj h1).symm
theorem chk_of (l : List Held) (h1 : ∀ m, m < l.length → one (rd l m) = true) (h2 : ∀ m, 0 < m → m < l.length → less (rd l (m - 1)) (rd l m) = true) : ∀ n i, i + n = l.length → chk l n i = true
  | 0, _, _ => rfl
  | n + 1, i, h => by
    rw [chk, h1 i (by omega), chk_of l h1 h2 n (i + 1) (by omega), Bool.true_and, Bool.and_true, Bool.or_eq_true]
    by_cases h0 : i = 0
    · exact .inl (decide_eq_true h0)
    · exact .inr (h2 i (by omega) (by omega))
def Tab (l : List Held) : Prop := (∀ y ∈ l, one y = true) ∧ l.Pairwise (fun a b => less a b = true) ∧ l.length ≤ 64
theorem tab_of {l : List Held} (h : tableOk l = true) : Tab l := by
  refine ⟨fun y hy => ?_, ?_, len_of h⟩
  · obtain ⟨i, hi, rfl⟩ := List.getElem_of_mem hy
    unfold tableOk at h
    simp only [Bool.and_eq_true] at h
    have := (chk_at l l.length 0 h.1 i (by omega) (by omega)).1
    rwa [rd_get hi] at this
  · rw [List.pairwise_iff_getElem]
    intro i j hi hj hij
    have := sorted_of h i j hij hj
    rwa [rd_get hi, rd_get hj] at this
theorem of_tab {l : List Held} (h : Tab l) : tableOk l = true := by
  obtain ⟨h1, h2, h3⟩ := h
  unfold tableOk
  rw [chk_of l (fun m hm => by rw [rd_get hm]; exact h1 _ (List.getElem_mem hm)) (fun m h0 hm => by
    rw [rd_get (show m - 1 < l.length by omega), rd_get hm]
    exact List.pairwise_iff_getElem.1 h2 (m - 1) m (by omega) hm (by omega)) l.length 0 (by omega), Bool.true_and]
  exact decide_eq_true h3
theorem one_sizes {y : Held} (h : one y = true) : y.f0.size ≤ 64 ∧ y.f1.size = 64 := by
  unfold one tokOk hexOk at h
  simp only [Bool.and_eq_true, decide_eq_true_eq] at h
  exact ⟨h.1.2.2, h.2.1.2⟩
theorem tab_small {l : List Held} (h : Tab l) : Small l := ⟨by have := h.2.2; omega, fun y hy => by have := one_sizes (h.1 y hy); omega⟩
theorem tab_filter {l : List Held} (h : Tab l) (p : Held → Bool) : Tab (l.filter p) :=
  ⟨fun y hy => h.1 y (List.mem_filter.1 hy).1, h.2.1.filter p, Nat.le_trans (List.length_filter_le _ _) h.2.2⟩
theorem tab_one {t : List Held} (ht : Tab t) {i j : Nat} (hi : i < t.length) (hj : j < t.length) (he : (rd t i).f0.toList = (rd t j).f0.toList) : i = j := by
  have hs := sorted_of (of_tab ht)
  by_cases h1 : i < j
  · have := hs i j h1 hj
    unfold less at this
    rw [he, bl_irrefl] at this
    cases this
  · by_cases h2 : j < i
    · have := hs j i h2 hi
      unfold less at this
      rw [he, bl_irrefl] at this
      cases this
    · omega
/-- What is kept is known: by its sum; by another one it clashes. -/
theorem look_kept {t : List Held} (ht : Tab t) {y : Held} (hy : y ∈ t) (s : ByteArray) (k : Nat) (hk : 5242881 ≤ k) : token_Look.f k t y.f0 s = if y.f1.toList = s.toList then some (1, y.f2) else some (2, (⟨#[]⟩ : ByteArray)) := by
  unfold token_Look.f
  rw [right_eq t (tab_small ht) k hk, of_tab ht, Option.bind_some, if_pos rfl]
  obtain ⟨m, hm, rfl⟩ := List.getElem_of_mem hy
  rw [← rd_get hm]
  obtain ⟨R, is, hf, h1, h2, h3, h4, h5, h6⟩ := find_eq t (sorted_of (of_tab ht)) ht.2.2 (rd t m).f0
  rw [hf, Option.bind_some]
  cases is with
  | false => exact absurd rfl (h5 rfl m hm)
  | true =>
    obtain ⟨hR, he⟩ := h4 rfl
    obtain rfl : R = m := tab_one ht hR hm he
    rw [if_pos rfl, if_pos (by omega), if_pos (by omega)]
/-- What Note answers, of any table. -/
theorem note_cases {t : List Held} (ht : Tab t) (h : Held) (h0 : h.f0.size ≤ 1048576) (h1 : h.f1.size ≤ 1048576) (k : Nat) (hk : 5242881 ≤ k) : ∃ r e, token_Note.f k t h.f0 h.f1 h.f2 h.f3 = some (r, e) ∧
    (e = 1 ∨ (e = 71 ∧ ∃ y ∈ t, y.f0.toList = h.f0.toList) ∨ (e = 131 ∧ (∀ y ∈ t, y.f0.toList ≠ h.f0.toList) ∧ t.length = 64) ∨ (e = 0 ∧ (∀ y ∈ t, y.f0.toList ≠ h.f0.toList) ∧ t.length < 64 ∧ Tab r ∧ r.Perm (t ++ [h]))) := by
  unfold token_Note.f
  rw [right_eq t (tab_small ht) k hk, of_tab ht, Option.bind_some, if_pos rfl, may_eq _ _ _ _ h0 h1 k (by omega), Option.bind_some]
  cases ho : (tokOk h.f0 && (hexOk h.f1 && (decide (h.f2.size ≤ 4096) && (decide (1 ≤ h.f3) && decide (h.f3 ≤ 1099511627776))))) with
  | false => exact ⟨[], 1, by rw [if_neg (by simp)], .inl rfl⟩
  | true =>
    rw [if_pos rfl]
    have hone : one h = true := ho
    obtain ⟨R, is, hf, g1, g2, g3, g4, g5, g6⟩ := find_eq t (sorted_of (of_tab ht)) ht.2.2 h.f0
    rw [hf, Option.bind_some]
    unfold token_Note_ins
    cases is with
    | true =>
      obtain ⟨hR, he⟩ := g4 rfl
      exact ⟨[], 71, by rw [if_pos rfl], .inr (.inl ⟨rfl, rd t R, rd_mem hR, he⟩)⟩
    | false =>
      have hne : ∀ y ∈ t, y.f0.toList ≠ h.f0.toList := fun y hy => by
        obtain ⟨m, hm, rfl⟩ := List.getElem_of_mem hy
        rw [← rd_get hm]
        exact g5 rfl m hm
      rw [if_neg (by simp)]
      by_cases h64 : t.length = 64
      · exact ⟨[], 131, by rw [if_pos h64], .inr (.inr (.inl ⟨rfl, hne, h64⟩))⟩
      · rw [if_neg h64, if_pos ⟨by omega, by omega, ht.2.2⟩, Int.toNat_natCast]
        refine ⟨_, _, rfl, .inr (.inr (.inr ⟨rfl, hne, by have := ht.2.2; omega, ⟨?_, ?_, ?_⟩, ?_⟩))⟩
        · intro y hy
          rcases List.mem_append.1 hy with hy | hy
          · exact ht.1 y (List.mem_of_mem_take hy)
          · rcases List.mem_cons.1 hy with rfl | hy
            · exact hone
            · exact ht.1 y (List.mem_of_mem_drop hy)
        · have hp := ht.2.1
          rw [← List.take_append_drop R t, List.pairwise_append] at hp
          rw [List.pairwise_append, List.pairwise_cons]
          refine ⟨hp.1, ⟨fun y hy => ?_, hp.2.1⟩, fun x hx y hy => ?_⟩
          · obtain ⟨j, hj, rfl⟩ := List.getElem_of_mem hy
            rw [List.length_drop] at hj
            rw [List.getElem_drop, ← rd_get (show R + j < t.length by omega)]
            have h5 := g3 (R + j) (by omega) (by omega)
            have h6 := bl_le h.f0.toList (rd t (R + j)).f0.toList
            unfold bel at h5
            rw [h5, Bool.not_false, Bool.or_eq_true] at h6
            rcases h6 with h6 | h6
            · exact h6
            · exact absurd (beq_iff_eq.1 h6).symm (g5 rfl (R + j) (by omega))
          · rcases List.mem_cons.1 hy with rfl | hy
            · obtain ⟨j, hj, rfl⟩ := List.getElem_of_mem hx
              rw [List.length_take] at hj
              rw [List.getElem_take, ← rd_get (show j < t.length by omega)]
              exact g2 j (by omega)
            · exact hp.2.2 x hx y hy
        · have := ht.2.2
          simp only [List.length_append, List.length_cons, List.length_take, List.length_drop]; omega
        · have h7 : (t.take R ++ h :: t.drop R).Perm (h :: (t.take R ++ t.drop R)) := List.perm_middle
          rw [List.take_append_drop] at h7
          exact h7.trans (List.perm_append_singleton h t).symm
theorem expire_tab {t : List Held} (ht : Tab t) (u : Int) (k : Nat) (hk : 5242881 ≤ k) : ∃ e, token_Expire.f k t u = some (t.filter fun h => !decide (h.f3 ≤ u), e) := by
  unfold token_Expire.f
  rw [right_eq t (tab_small ht) k hk, of_tab ht, Option.bind_some, if_pos rfl, token_Expire_cut, if_pos ht.2.2]
  exact ⟨_, rfl⟩
/-! ### The rounds -/
theorem once_l3 (l : List Held) (u : List Int) (t kept : List Held) (i : Int) (ht : Tab t) (hp : t.Perm kept) (hi : 0 ≤ i) (hi2 : i ≤ 200) : ∀ m j k, j + m = kept.length → 5242881 ≤ k →
    stowagelaw15_TokenOnce.l3 (k + m + 1) l u t kept i (j : Int) = stowagelaw15_TokenOnce.l0 k l u t kept (i + 1) := by
  have hlen : kept.length ≤ 64 := by rw [← hp.length_eq]; exact ht.2.2
  intro m
  induction m with
  | zero =>
    intro j k hj hk
    rw [stowagelaw15_TokenOnce.l3, if_neg (by omega), IntWalk.wrap64_in _ (by omega)]
  | succ m ih =>
    intro j k hj hk
    have hy : rd kept j ∈ t := hp.mem_iff.2 (rd_mem (by omega))
    have hsz := one_sizes (ht.1 _ hy)
    rw [stowagelaw15_TokenOnce.l3, if_pos (by omega), if_pos (by omega), look_kept ht hy _ _ (by omega), if_pos rfl, Option.bind_some, if_pos (by show (rd kept j).f1.size + 1 ≤ _; omega), look_kept ht hy _ _ (by omega), if_neg (fun e => ?_), Option.bind_some, if_pos rfl, if_pos rfl, if_pos rfl, IntWalk.wrap64_in _ (by omega), show ((j : Int) + 1) = ((j + 1 : Nat) : Int) by omega]
    · exact ih (j + 1) k (by omega) hk
    · have h1 := congrArg List.length e
      rw [ByteArray.toList_eq, ByteArray.toList_eq, len_eq, len_eq, ByteArray.size_append] at h1
      have h3 : (rd kept j).f1.size = (rd kept j).f1.size + 1 := h1
      omega
theorem once_j6 (l : List Held) (u : List Int) (t kept : List Held) (i : Int) (ht : Tab t) (hp : t.Perm kept) (hi : 0 ≤ i) (hi2 : i ≤ 200) (k : Nat) (hk : 5242881 ≤ k) :
    stowagelaw15_TokenOnce.j6 (k + kept.length + 2) l u t kept i = stowagelaw15_TokenOnce.l0 k l u t kept (i + 1) := by
  rw [stowagelaw15_TokenOnce.j6, if_pos (by rw [hp.length_eq])]
  exact once_l3 l u t kept i ht hp hi hi2 kept.length 0 k (by omega) hk
theorem once_l2 (l : List Held) (u : List Int) (t kept : List Held) (i : Nat) (v : Int) (hv : Go.Proofs.YtekfemiomdpahaaDoorW.PrintWords.rd u (i : Int) = v) (hiu : i < u.length) (hlen : kept.length ≤ 64) : ∀ m j k, j + m = kept.length →
    stowagelaw15_TokenOnce.l2 (k + m + 1) l u t kept (i : Int) ((kept.take j).filter fun h => !decide (h.f3 ≤ v)) (j : Int) = stowagelaw15_TokenOnce.j6 k l u t (kept.filter fun h => !decide (h.f3 ≤ v)) (i : Int) := by
  intro m
  induction m with
  | zero =>
    intro j k hj
    rw [stowagelaw15_TokenOnce.l2, if_neg (by omega), List.take_of_length_le (by omega)]
  | succ m ih =>
    intro j k hj
    have hfl := List.length_filter_le (fun h : Held => !decide (h.f3 ≤ v)) (kept.take j)
    rw [List.length_take] at hfl
    have ht : kept.take (j + 1) = kept.take j ++ [rd kept j] := by rw [List.take_add_one, rd_eq (l := kept) (i := j) (by omega)]; rfl
    rw [stowagelaw15_TokenOnce.l2, if_pos (by omega), if_pos (by omega), if_pos (by omega), if_pos (by omega), hv, IntWalk.wrap64_in _ (by omega), show ((j : Int) + 1) = ((j + 1 : Nat) : Int) by omega, ← ih (j + 1) k (by omega), ht, List.filter_append]
    show (if (rd kept j).f3 > v then _ else _) = _
    by_cases hb : (rd kept j).f3 ≤ v
    · rw [if_neg (by omega), show ([rd kept j].filter fun h => !decide (h.f3 ≤ v)) = [] by simp [hb], List.append_nil]
      rfl
    · rw [if_pos (by omega), if_pos (Nat.lt_of_le_of_lt (List.length_filter_le _ _) (by rw [List.length_take]; omega)), show ([rd kept j].filter fun h => !decide (h.f3 ≤ v)) = [rd kept j] by simp; omega]
      rfl
/-- From j3 on: the round's end, whatever is asked to be forgotten. -/
theorem once_j3 (l : List Held) (u : List Int) (hu : u.length ≤ 1048576) (t kept : List Held) (i : Nat) (ht : Tab t) (hp : t.Perm kept) (hi : i ≤ 120) (k : Nat) (hk : 5242881 ≤ k) :
    ∃ k' t' kept', k ≤ k' ∧ Tab t' ∧ t'.Perm kept' ∧ stowagelaw15_TokenOnce.j3 (k + 150) l u t kept (i : Int) = stowagelaw15_TokenOnce.l0 k' l u t' kept' ((i + 1 : Nat) : Int) := by
  have hlen : kept.length ≤ 64 := by rw [← hp.length_eq]; exact ht.2.2
  have plain : ∀ j, 147 ≤ j → ∃ k' t' kept', k ≤ k' ∧ Tab t' ∧ t'.Perm kept' ∧ stowagelaw15_TokenOnce.j4 (k + j + 1) l u t kept (i : Int) false = stowagelaw15_TokenOnce.l0 k' l u t' kept' ((i + 1 : Nat) : Int) := by
    intro j hj
    refine ⟨k + (j - kept.length - 2), t, kept, by omega, ht, hp, ?_⟩
    rw [stowagelaw15_TokenOnce.j4, if_neg (by simp), show k + j = k + (j - kept.length - 2) + kept.length + 2 by omega, once_j6 l u t kept (i : Int) ht hp (by omega) (by omega) _ (by omega)]
    rfl
  rw [show k + 150 = (k + 148 + 1) + 1 by omega, stowagelaw15_TokenOnce.j3]
  by_cases hiu : (i : Int) < (u.length : Int)
  · rw [if_pos hiu, if_pos (by omega)]
    obtain ⟨v, hv⟩ : ∃ v, Go.Proofs.YtekfemiomdpahaaDoorW.PrintWords.rd u (i : Int) = v := ⟨_, rfl⟩
    rw [hv]
    by_cases h0 : v > 0
    · rw [decide_eq_true h0, stowagelaw15_TokenOnce.j4, if_pos rfl, if_pos (by omega), if_pos hiu, hv]
      obtain ⟨e, he⟩ := expire_tab ht v (k + 148) (by omega)
      rw [he, Option.bind_some]
      have hp2 : (t.filter fun h => !decide (h.f3 ≤ v)).Perm (kept.filter fun h => !decide (h.f3 ≤ v)) := hp.filter _
      have hfl := List.length_filter_le (fun h : Held => !decide (h.f3 ≤ v)) kept
      refine ⟨k + (147 - kept.length - (kept.filter fun h => !decide (h.f3 ≤ v)).length - 2), _, _, by omega, tab_filter ht _, hp2, ?_⟩
      have h2 := once_l2 l u (t.filter fun h => !decide (h.f3 ≤ v)) kept i v hv (by omega) hlen kept.length 0 (k + (147 - kept.length)) (by omega)
      rw [show k + (147 - kept.length) + kept.length + 1 = k + 148 by omega] at h2
      refine Eq.trans h2 ?_
      rw [show k + (147 - kept.length) = k + (147 - kept.length - (kept.filter fun h => !decide (h.f3 ≤ v)).length - 2) + (kept.filter fun h => !decide (h.f3 ≤ v)).length + 2 by omega, once_j6 l u _ _ (i : Int) (tab_filter ht _) hp2 (by omega) (by omega) _ (by omega)]
      rfl
    · rw [decide_eq_false h0]
      exact plain 148 (by omega)
  · rw [if_neg hiu]
    exact plain 148 (by omega)
theorem once_l1 (l : List Held) (u : List Int) (t kept n : List Held) (e : Int) (i : Nat) (hi : i < l.length) (hlen : kept.length ≤ 64) : ∀ m j k was, j + m = kept.length →
    stowagelaw15_TokenOnce.l1 (k + m + 1) l u t kept (i : Int) n e was (j : Int) = stowagelaw15_TokenOnce.l1 (k + 1) l u t kept (i : Int) n e (was || (kept.drop j).any fun y => y.f0.toList == (rd l i).f0.toList) (kept.length : Int) := by
  intro m
  induction m with
  | zero =>
    intro j k was hj
    rw [List.drop_of_length_le (by omega), show j = kept.length by omega]
    simp
  | succ m ih =>
    intro j k was hj
    have hd : kept.drop j = rd kept j :: kept.drop (j + 1) := by rw [rd_get (show j < kept.length by omega)]; exact List.drop_eq_getElem_cons (by omega)
    rw [show k + (m + 1) + 1 = (k + m + 1) + 1 by omega, stowagelaw15_TokenOnce.l1, if_pos (by omega), IntWalk.wrap64_in _ (by omega), show ((j : Int) + 1) = ((j + 1 : Nat) : Int) by omega, hd, List.any_cons]
    cases was with
    | true => rw [if_pos rfl, ih (j + 1) k true (by omega)]; simp
    | false =>
      rw [if_neg (by simp), if_pos (by omega), if_pos (by omega), if_pos (by omega), ih (j + 1) k _ (by omega), Bool.false_or]
set_option maxRecDepth 100000 in
theorem once_l0 (l : List Held) (u : List Int) (hl : l.length ≤ 1048576) (hu : u.length ≤ 1048576) (hs : ∀ y ∈ l, y.f0.size ≤ 1048576 ∧ y.f1.size ≤ 1048576) : ∀ (n i : Nat) (t kept : List Held) (k : Nat), i + n = 120 → Tab t → t.Perm kept → 5242881 + 300 * (n + 1) ≤ k →
    stowagelaw15_TokenOnce.l0 k l u t kept (i : Int) = some true := by
  intro n
  induction n with
  | zero =>
    intro i t kept k hi ht hp hk
    obtain ⟨k, rfl⟩ : ∃ j, k = j + 1 + 1 := ⟨k - 2, by omega⟩
    rw [stowagelaw15_TokenOnce.l0]
    have h1 : decide ((i : Int) < 120) = false := decide_eq_false (by omega)
    rw [h1]
    split <;> rw [stowagelaw15_TokenOnce.j1, if_neg (by simp)]
  | succ n ih =>
    intro i t kept k hi ht hp hk
    have hlen : kept.length ≤ 64 := by rw [← hp.length_eq]; exact ht.2.2
    obtain ⟨k, rfl⟩ : ∃ j, k = j + 150 + kept.length + 1 + 1 + 1 := ⟨k - 150 - kept.length - 3, by omega⟩
    rw [stowagelaw15_TokenOnce.l0]
    by_cases hil : (i : Int) < (l.length : Int)
    · rw [if_pos hil, decide_eq_true (show (i : Int) < 120 by omega), stowagelaw15_TokenOnce.j1, if_pos rfl, if_pos (by omega), if_pos hil]
      have hm := hs _ (rd_mem (l := l) (i := i) (by omega))
      obtain ⟨r, e, hr, hc⟩ := note_cases ht (rd l i) hm.1 hm.2 (k + 150 + kept.length + 1) (by omega)
      have hr' : token_Note.f (k + 150 + kept.length + 1) t (rd_T31 l (i : Int)).f0 (rd_T31 l (i : Int)).f1 (rd_T31 l (i : Int)).f2 (rd_T31 l (i : Int)).f3 = some (r, e) := hr
      rw [hr', Option.bind_some]
      have h1 := once_l1 l u t kept r e i (by omega) hlen kept.length 0 (k + 150) false (by omega)
      refine Eq.trans h1 ?_
      rw [List.drop_zero, Bool.false_or]
      have hwas : ∀ b, (kept.any fun y => y.f0.toList == (rd l i).f0.toList) = b → (b = true ↔ ∃ y ∈ t, y.f0.toList = (rd l i).f0.toList) := by
        intro b hb
        rw [← hb, List.any_eq_true]
        constructor
        · rintro ⟨y, hy, he⟩; exact ⟨y, hp.mem_iff.2 hy, beq_iff_eq.1 he⟩
        · rintro ⟨y, hy, he⟩; exact ⟨y, hp.mem_iff.1 hy, beq_iff_eq.2 he⟩
      obtain ⟨b, hb⟩ : ∃ b, (kept.any fun y => y.f0.toList == (rd l i).f0.toList) = b := ⟨_, rfl⟩
      have hw := hwas b hb
      rw [hb]
      have go : ∀ (t2 kept2 : List Held), Tab t2 → t2.Perm kept2 → stowagelaw15_TokenOnce.j3 (k + 150) l u t2 kept2 (i : Int) = some true := by
        intro t2 kept2 ht2 hp2
        obtain ⟨k', t', kept', hk', ht', hp', he⟩ := once_j3 l u hu t2 kept2 i ht2 hp2 (by omega) k (by omega)
        rw [he]
        exact ih (i + 1) t' kept' k' (by omega) ht' hp' (by omega)
      rw [stowagelaw15_TokenOnce.l1, if_neg (by omega)]
      have hkl : kept.length = t.length := hp.length_eq.symm
      rcases hc with rfl | ⟨rfl, hx⟩ | ⟨rfl, hx, h64⟩ | ⟨rfl, hx, h64, htr, hpr⟩
      · rw [if_neg (by omega)]
        cases b with
        | true => rw [if_pos rfl, if_neg (by omega), if_pos rfl, if_neg (by omega)]; exact go t kept ht hp
        | false => rw [if_neg (by simp), if_neg (by omega), if_neg (by omega)]; exact go t kept ht hp
      · rw [if_neg (by omega)]
        obtain rfl : b = true := hw.2 hx
        rw [if_pos rfl, if_pos rfl, if_neg (by omega)]
        exact go t kept ht hp
      · rw [if_neg (by omega)]
        have hbf : b = false := by
          cases b with
          | false => rfl
          | true => obtain ⟨y, hy, he⟩ := hw.1 rfl; exact absurd he (hx y hy)
        subst hbf
        rw [if_neg (by simp), if_neg (by omega), if_pos rfl, if_neg (by omega)]
        exact go t kept ht hp
      · rw [if_pos rfl]
        have hbf : b = false := by
          cases b with
          | false => rfl
          | true => obtain ⟨y, hy, he⟩ := hw.1 rfl; exact absurd he (hx y hy)
        subst hbf
        rw [if_neg (by simp), if_neg (by omega), if_pos (by omega), if_pos (by omega), if_pos (by omega)]
        exact go r (kept ++ [rd l i]) htr (hpr.trans (hp.append_right [rd l i]))
    · rw [if_neg hil, stowagelaw15_TokenOnce.j1, if_neg (by simp)]
theorem TokenOnce_true (l : List Held) (u : List Int) (hs : Small l) (hu : u.length ≤ 1048576) : ∃ k, stowagelaw15_TokenOnce.f k l u = some true := by
  refine ⟨5400000, ?_⟩
  unfold stowagelaw15_TokenOnce.f
  rw [awake_at 5400000 (by omega), Option.bind_some, if_pos rfl]
  exact once_l0 l u hs.1 hu hs.2 120 0 [] [] 5400000 (by omega) ⟨fun y hy => (by cases hy), List.Pairwise.nil, by simp⟩ (List.Perm.refl _) (by omega)
end Go.Proofs.YtekfemiomdpahaaDoor.Pure
