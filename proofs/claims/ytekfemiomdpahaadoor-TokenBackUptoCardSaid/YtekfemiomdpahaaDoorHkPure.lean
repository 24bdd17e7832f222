/- Layer 15, the plain side: tables, tokens, numbers and texts, written and read. No program in sight. -/
import Derived.IntWalk
import Derived.Laws.Bits64b
import Derived.Test.YtekfemiomdpahaaDoorHk18
namespace Go.Proofs.YtekfemiomdpahaaDoor.Pure
open Go.RowKit Go.Proofs.YtekfemiomdpahaaDoor.Hk Go.Proofs.YtekfemiomdpahaaDoorW.PrintWords Go.Proofs.YtekfemiomdpahaaDoorW.PrintLast Go.Proofs.YtekfemiomdpahaaDoorW.PrintMore
set_option linter.unusedVariables false
set_option linter.unusedSimpArgs false
def tokC (c : UInt8) : Bool := decide (33 ≤ c.toNat) && decide (c.toNat ≤ 126)
def hexC (c : UInt8) : Bool := (decide (48 ≤ c.toNat) && decide (c.toNat ≤ 57)) || (decide (97 ≤ c.toNat) && decide (c.toNat ≤ 102))
def tokOk (a : ByteArray) : Bool := a.data.toList.all tokC && (decide (1 ≤ a.size) && decide (a.size ≤ 64))
def hexOk (a : ByteArray) : Bool := a.data.toList.all hexC && decide (a.size = 64)
theorem len_eq (a : ByteArray) : a.data.toList.length = a.size := Array.length_toList (xs := a.data)
theorem bt_get (a : ByteArray) (i : Nat) (h : i < a.size) : ∃ c, a.data.toList.drop i = c :: a.data.toList.drop (i + 1) ∧ bt a (i : Int) = (c.toNat : Int) := by
  have hl : i < a.data.toList.length := by rw [len_eq]; exact h
  refine ⟨a.data.toList[i], List.drop_eq_getElem_cons hl, ?_⟩
  unfold bt
  rw [dif_pos (by rw [Int.toNat_natCast]; exact h)]
  simp only [Int.toNat_natCast, Array.getElem_toList]
  rfl
theorem toList_nil (a : ByteArray) : a.toList = ([] : List UInt8) ↔ a.size = 0 := by
  rw [ByteArray.toList_eq, ← len_eq, List.length_eq_zero_iff]
theorem names_tok (a : ByteArray) (hs : a.size ≤ 1048576) : ∀ n i k, i + n = a.size → n < k → names_Token.l0 k a (a.size : Int) (i : Int) = some ((a.data.toList.drop i).all tokC && (decide (1 ≤ a.size) && decide (a.size ≤ 64))) := by
  intro n
  induction n with
  | zero =>
    intro i k hi hk
    obtain ⟨k, rfl⟩ : ∃ j, k = j + 1 := ⟨k - 1, by omega⟩
    rw [names_Token.l0, if_neg (by omega), List.drop_of_length_le (by rw [len_eq]; omega)]
    by_cases h0 : a.size = 0
    · rw [if_pos ((toList_nil a).2 h0)]; simp [h0]
    · rw [if_neg (fun h => h0 ((toList_nil a).1 h))]
      have h1 : decide (1 ≤ a.size) = true := decide_eq_true (by omega)
      rw [h1]
      simp only [List.all_nil, Bool.true_and]
      congr 1
      exact decide_eq_decide.2 (by omega)
  | succ n ih =>
    intro i k hi hk
    obtain ⟨k, rfl⟩ : ∃ j, k = j + 1 := ⟨k - 1, by omega⟩
    obtain ⟨c, hd, hb⟩ := bt_get a i (by omega)
    rw [names_Token.l0, if_pos (by omega), if_pos (by omega), if_pos (by omega), hb, hd, List.all_cons]
    by_cases h1 : (c.toNat : Int) < 33
    · rw [if_pos h1]; simp [tokC, show ¬ 33 ≤ c.toNat by omega]
    · rw [if_neg h1]
      by_cases h2 : (c.toNat : Int) > 126
      · rw [if_pos h2]; simp [tokC, show ¬ c.toNat ≤ 126 by omega]
      · rw [if_neg h2, IntWalk.wrap64_in _ (by omega), show ((i : Int) + 1) = ((i + 1 : Nat) : Int) by omega, ih (i + 1) k (by omega) (by omega)]
        have h3 : tokC c = true := by simp [tokC]; omega
        rw [h3, Bool.true_and]
theorem names_Token_eq (a : ByteArray) (hs : a.size ≤ 1048576) (k : Nat) (hk : 1048577 ≤ k) : names_Token.f k a = some (tokOk a) :=
  names_tok a hs a.size 0 k (by omega) (by omega)
theorem dropWhile_nil {α : Type} (p : α → Bool) : ∀ l : List α, l.dropWhile p = [] ↔ l.all p = true
  | [] => by simp
  | a :: l => by
    rw [List.dropWhile_cons, List.all_cons]
    cases h : p a
    · simp
    · simp [dropWhile_nil p l]
theorem trimS_nil (l cs : List UInt8) : Lib.trimS l cs = [] ↔ l.all (cs.contains ·) = true := by
  unfold Lib.trimS Lib.trimLeftS Lib.trimRightS
  rw [dropWhile_nil, List.all_reverse]
  constructor
  · intro h
    have h2 : l.reverse.dropWhile (cs.contains ·) = [] := by
      cases hd : l.reverse.dropWhile (cs.contains ·) with
      | nil => rfl
      | cons x t =>
        have h3 := List.head?_dropWhile_not (cs.contains ·) l.reverse
        rw [hd] at h3 h
        simp only [List.head?_cons] at h3
        rw [List.all_cons] at h
        simp only [Bool.and_eq_true] at h
        exact absurd h.1 (by simpa using h3)
    rw [dropWhile_nil, List.all_reverse] at h2
    exact h2
  · intro h
    have h2 : l.reverse.dropWhile (cs.contains ·) = [] := by rw [dropWhile_nil, List.all_reverse]; exact h
    rw [h2]; rfl
theorem hex_byte (c : UInt8) : (strings_Trim_hex.data.toList.contains c) = hexC c := by
  have h : ∀ n, n < 256 → (strings_Trim_hex.data.toList.contains (UInt8.ofNat n)) = hexC (UInt8.ofNat n) := by decide +kernel
  have h2 := h c.toNat (UInt8.toNat_lt c)
  rwa [UInt8.ofNat_toNat] at h2
theorem trim_eq (b : ByteArray) (hs : b.size ≤ 1048576) : ∃ r, strings_Trim.f b (⟨#[48, 49, 50, 51, 52, 53, 54, 55, 56, 57, 97, 98, 99, 100, 101, 102]⟩ : ByteArray) = some r ∧ (r.toList = ([] : List UInt8) ↔ b.data.toList.all hexC = true) := by
  refine ⟨⟨(Lib.trimS b.data.toList strings_Trim_hex.data.toList).toArray⟩, ?_, ?_⟩
  · unfold strings_Trim.f
    rw [if_pos ⟨by omega, rfl⟩]
  · rw [ByteArray.toList_eq]
    show (Lib.trimS b.data.toList strings_Trim_hex.data.toList) = [] ↔ _
    rw [trimS_nil]
    have : (fun x => strings_Trim_hex.data.toList.contains x) = hexC := funext hex_byte
    rw [this]
theorem may_eq (a b c : ByteArray) (d : Int) (ha : a.size ≤ 1048576) (hb : b.size ≤ 1048576) (k : Nat) (hk : 1048577 ≤ k) :
    token_may.f k a b c d = some (tokOk a && (hexOk b && (decide (c.size ≤ 4096) && (decide (1 ≤ d) && decide (d ≤ 1099511627776))))) := by
  unfold token_may.f
  rw [names_Token_eq a ha k hk, Option.bind_some]
  cases tokOk a with
  | false => rw [if_neg (by simp)]; rfl
  | true =>
    rw [if_pos rfl, Bool.true_and]
    unfold hexOk
    by_cases h1 : b.size = 64
    · rw [if_pos (by omega)]
      obtain ⟨r, hr, hx⟩ := trim_eq b hb
      rw [hr, Option.bind_some]
      by_cases h2 : b.data.toList.all hexC = true
      · rw [if_pos (hx.2 h2), h2]
        by_cases h3 : c.size ≤ 4096
        · rw [if_pos (by omega)]
          by_cases h4 : 1 ≤ d
          · rw [if_pos h4]; simp [h1, h3, h4]
          · rw [if_neg h4]; simp [h4]
        · rw [if_neg (by omega)]; simp [h3]
      · rw [if_neg (fun h => h2 (hx.1 h))]
        have h2' : b.data.toList.all hexC = false := by simpa using h2
        rw [h2']; rfl
    · rw [if_neg (by omega)]; simp [h1]
theorem bl_irrefl : ∀ a, Op.bytesLess a a = false
  | [] => rfl
  | a :: x => by simp [Op.bytesLess, bl_irrefl x]
theorem bl_trans : ∀ a b c, Op.bytesLess a b = true → Op.bytesLess b c = true → Op.bytesLess a c = true
  | _, [], _, h, _ => by cases ‹List UInt8› <;> simp [Op.bytesLess] at h
  | _, _ :: _, [], _, h => by simp [Op.bytesLess] at h
  | [], _ :: _, _ :: _, _, _ => rfl
  | a :: x, b :: y, c :: z, h1, h2 => by
    simp only [Op.bytesLess, Bool.or_eq_true, Bool.and_eq_true, decide_eq_true_eq, beq_iff_eq] at h1 h2 ⊢
    rcases h1 with h1 | ⟨rfl, h1⟩
    · rcases h2 with h2 | ⟨rfl, h2⟩
      · exact .inl (UInt8.lt_trans h1 h2)
      · exact .inl h1
    · rcases h2 with h2 | ⟨rfl, h2⟩
      · exact .inl h2
      · exact .inr ⟨rfl, bl_trans x y z h1 h2⟩
theorem bl_le : ∀ a b, (Op.bytesLess a b || a == b) = !Op.bytesLess b a
  | [], [] => rfl
  | _ :: _, [] => by simp [Op.bytesLess]
  | [], _ :: _ => by simp [Op.bytesLess]
  | a :: x, b :: y => by
    have ih := bl_le x y
    simp only [Op.bytesLess]
    by_cases h1 : a < b
    · have h2 : ¬ b < a := fun h => absurd (UInt8.lt_trans h1 h) (by simp)
      have h3 : b ≠ a := fun h => by subst h; exact absurd h1 (by simp)
      simp [h1, h2, h3]
    · by_cases h2 : b < a
      · have h3 : a ≠ b := fun h => by subst h; exact absurd h2 (by simp)
        simp [h1, h2, h3]
      · obtain rfl : a = b := by
          have h3 := UInt8.not_lt.1 h1
          have h4 := UInt8.not_lt.1 h2
          exact UInt8.le_antisymm h4 h3
        simpa [h1] using ih
theorem cmp_lt : ∀ a b, (Lib.compareBytes a b < 0) ↔ Op.bytesLess a b = true
  | [], [] => by simp [Lib.compareBytes, Op.bytesLess]
  | _ :: _, [] => by simp [Lib.compareBytes, Op.bytesLess]
  | [], _ :: _ => by simp [Lib.compareBytes, Op.bytesLess]
  | a :: x, b :: y => by
    have ih := cmp_lt x y
    simp only [Lib.compareBytes, Op.bytesLess]
    by_cases h1 : a < b
    · simp [h1]
    · by_cases h2 : b < a
      · have h3 : a ≠ b := fun h => by subst h; exact absurd h2 (by simp)
        simp [h1, h2, h3]
      · obtain rfl : a = b := UInt8.le_antisymm (UInt8.not_lt.1 h2) (UInt8.not_lt.1 h1)
        simpa [h1] using ih
theorem cmp_eq : ∀ a b, Lib.compareBytes a b = 0 ↔ a = b
  | [], [] => by simp [Lib.compareBytes]
  | _ :: _, [] => by simp [Lib.compareBytes]
  | [], _ :: _ => by simp [Lib.compareBytes]
  | a :: x, b :: y => by
    have ih := cmp_eq x y
    simp only [Lib.compareBytes]
    by_cases h1 : a < b
    · have h3 : a ≠ b := fun h => by subst h; exact absurd h1 (by simp)
      simp [h1, h3]
    · by_cases h2 : b < a
      · have h3 : a ≠ b := fun h => by subst h; exact absurd h2 (by simp)
        simp [h1, h2, h3]
      · obtain rfl : a = b := UInt8.le_antisymm (UInt8.not_lt.1 h2) (UInt8.not_lt.1 h1)
        simpa [h1] using ih
abbrev Held := S31
abbrev Ref := S37
def ref (y : Held) : Ref := ⟨y.f0, y.f1, y.f2, y.f3⟩
def one (y : Held) : Bool := tokOk y.f0 && (hexOk y.f1 && (decide (y.f2.size ≤ 4096) && (decide (1 ≤ y.f3) && decide (y.f3 ≤ 1099511627776))))
def Small (l : List Held) : Prop := l.length ≤ 1048576 ∧ ∀ y ∈ l, y.f0.size ≤ 1048576 ∧ y.f1.size ≤ 1048576
abbrev rd (l : List Held) (i : Nat) : Held := rd_T31 l (i : Int)
theorem rd_mem {l : List Held} {i : Nat} (h : i < l.length) : rd l i ∈ l := by
  show l.getD _ _ ∈ l
  rw [Int.toNat_natCast, List.getD_eq_getElem?_getD, List.getElem?_eq_getElem h]
  exact List.getElem_mem h
theorem rd_eq {l : List Held} {i : Nat} (h : i < l.length) : l[i]? = some (rd l i) := by
  show _ = some (l.getD _ _)
  rw [Int.toNat_natCast, List.getD_eq_getElem?_getD, List.getElem?_eq_getElem h]
  rfl
theorem rd_ref {l : List Held} {i : Nat} (h : i < l.length) : rd_T37 (l.map ref) (i : Int) = ref (rd l i) := by
  show (l.map ref).getD _ _ = ref (l.getD _ _)
  rw [Int.toNat_natCast, List.getD_eq_getElem?_getD, List.getD_eq_getElem?_getD, List.getElem?_map, List.getElem?_eq_getElem h]
  rfl
def less (a b : Held) : Bool := Op.bytesLess a.f0.toList b.f0.toList
def chk (l : List Held) : Nat → Nat → Bool
  | 0, _ => true
  | n + 1, i => one (rd l i) && ((decide (i = 0) || less (rd l (i - 1)) (rd l i)) && chk l n (i + 1))
def tableOk (l : List Held) : Bool := chk l l.length 0 && decide (l.length ≤ 64)
theorem go_eq (l : List Held) (hs : Small l) (k : Nat) (hk : 5242881 ≤ k) : ∀ n i, i + n = l.length → token_right.go k l n i = some (chk l n i)
  | 0, _, _ => rfl
  | n + 1, i, h => by
    have hm := hs.2 _ (rd_mem (l := l) (i := i) (by omega))
    have ih := go_eq l hs k hk n (i + 1) (by omega)
    rw [token_right.go, may_eq _ _ _ _ hm.1 hm.2 k (by omega), Option.bind_some]
    show (if one (rd l i) = true then _ else _) = some (one (rd l i) && _)
    cases one (rd l i) with
    | false => rw [if_neg (by simp)]; rfl
    | true =>
      rw [if_pos rfl, Bool.true_and]
      by_cases h0 : i = 0
      · rw [if_pos h0, ih]; simp [h0]
      · rw [if_neg h0, bl_le, ih, show ((i : Int) - 1) = ((i - 1 : Nat) : Int) by omega]
        have : decide (i = 0) = false := decide_eq_false h0
        rw [this, Bool.false_or]
        show (if (!less (rd l (i - 1)) (rd l i)) = true then _ else _) = _
        cases less (rd l (i - 1)) (rd l i) <;> simp
theorem right_eq (l : List Held) (hs : Small l) (k : Nat) (hk : 5242881 ≤ k) : token_right.f k l = some (tableOk l) := by
  unfold token_right.f
  rw [if_pos (by have := hs.1; omega), go_eq l hs k hk l.length 0 (by omega), Option.bind_some]
  rfl
theorem refs_l (l : List Held) (hl : l.length ≤ 1048576) : ∀ n i k, i + n = l.length → n < k → stowagelaw15_Refs.l0 k l ((l.take i).map ref) (i : Int) = some (l.map ref) := by
  intro n
  induction n with
  | zero =>
    intro i k hi hk
    obtain ⟨k, rfl⟩ : ∃ j, k = j + 1 := ⟨k - 1, by omega⟩
    rw [stowagelaw15_Refs.l0, if_neg (by omega), List.take_of_length_le (by omega)]
  | succ n ih =>
    intro i k hi hk
    obtain ⟨k, rfl⟩ : ∃ j, k = j + 1 := ⟨k - 1, by omega⟩
    rw [stowagelaw15_Refs.l0, if_pos (by omega), if_pos (by omega), if_pos (by rw [List.length_map, List.length_take]; omega), IntWalk.wrap64_in ((i : Int) + 1) (by omega), show ((i : Int) + 1) = ((i + 1 : Nat) : Int) by omega, ← ih (i + 1) k (by omega) (by omega)]
    congr 1
    rw [List.take_add_one, rd_eq (l := l) (i := i) (by omega), List.map_append]
    rfl
theorem refs_eq (l : List Held) (hl : l.length ≤ 1048576) (k : Nat) (hk : 1048577 ≤ k) : stowagelaw15_Refs.f k l = some (l.map ref) :=
  refs_l l hl l.length 0 k (by omega) (by omega)
theorem chk_at (l : List Held) : ∀ n i, chk l n i = true → ∀ m, i ≤ m → m < i + n → one (rd l m) = true ∧ (m = 0 ∨ less (rd l (m - 1)) (rd l m) = true)
  | 0, i, _, m, h1, h2 => by omega
  | n + 1, i, h, m, h1, h2 => by
    rw [chk] at h
    simp only [Bool.and_eq_true, Bool.or_eq_true, decide_eq_true_eq] at h
    by_cases hm : m = i
    · subst hm; exact ⟨h.1, h.2.1⟩
    · exact chk_at l n (i + 1) h.2.2 m (by omega) (by omega)
def Sorted (l : List Held) : Prop := ∀ i j, i < j → j < l.length → less (rd l i) (rd l j) = true
theorem sorted_of {l : List Held} (h : tableOk l = true) : Sorted l := by
  unfold tableOk at h
  simp only [Bool.and_eq_true] at h
  intro i j hij
  induction j with
  | zero => omega
  | succ j ih =>
    intro hj
    have h1 := (chk_at l l.length 0 h.1 (j + 1) (by omega) (by omega)).2
    rcases h1 with h1 | h1
    · omega
    · rw [Nat.add_sub_cancel] at h1
      by_cases he : i = j
      · rw [he]; exact h1
      · exact bl_trans _ _ _ (ih (by omega) (by omega)) h1
theorem len_of {l : List Held} (h : tableOk l = true) : l.length ≤ 64 := by
  unfold tableOk at h
  simp only [Bool.and_eq_true, decide_eq_true_eq] at h
  exact h.2
def bel (l : List Held) (t : ByteArray) (i : Nat) : Bool := Op.bytesLess (rd l i).f0.toList t.toList
theorem bel_down {l : List Held} (hs : Sorted l) {t : ByteArray} {i j : Nat} (hij : i < j) (hj : j < l.length) (h : bel l t j = true) : bel l t i = true := bl_trans _ _ _ (hs i j hij hj) h
theorem bs_spec (l : List Held) (hs : Sorted l) (t : ByteArray) : ∀ n i j, i ≤ j → j ≤ l.length → j - i ≤ n → (∀ m, m < i → bel l t m = true) → (∀ m, j ≤ m → m < l.length → bel l t m = false) →
    token_find_bs l t n i j ≤ l.length ∧ (∀ m, m < token_find_bs l t n i j → bel l t m = true) ∧ (∀ m, token_find_bs l t n i j ≤ m → m < l.length → bel l t m = false)
  | 0, i, j, h1, h2, h3, ha, hb => by
    obtain rfl : i = j := by omega
    exact ⟨h2, ha, hb⟩
  | n + 1, i, j, h1, h2, h3, ha, hb => by
    rw [token_find_bs]
    by_cases hij : i < j
    · rw [if_pos hij]
      by_cases hc : Lib.compareBytes (rd_T31 l (((i + j) / 2 : Nat) : Int)).f0.data.toList t.data.toList < 0
      · rw [if_pos hc]
        have hb1 : bel l t ((i + j) / 2) = true := by unfold bel; rw [ByteArray.toList_eq, ByteArray.toList_eq]; exact (cmp_lt _ _).1 hc
        refine bs_spec l hs t n _ _ (by omega) h2 (by omega) (fun m hm => ?_) hb
        by_cases he : m = (i + j) / 2
        · rw [he]; exact hb1
        · exact bel_down hs (show m < (i + j) / 2 by omega) (by omega) hb1
      · rw [if_neg hc]
        have hb1 : bel l t ((i + j) / 2) = false := by
          cases hq : bel l t ((i + j) / 2) with
          | false => rfl
          | true => unfold bel at hq; rw [ByteArray.toList_eq, ByteArray.toList_eq] at hq; exact absurd ((cmp_lt _ _).2 hq) hc
        refine bs_spec l hs t n _ _ (by omega) (by omega) (by omega) ha (fun m hm hml => ?_)
        cases hq : bel l t m with
        | false => rfl
        | true =>
          by_cases he : m = (i + j) / 2
          · rw [he, hb1] at hq; cases hq
          · rw [bel_down hs (show (i + j) / 2 < m by omega) hml hq] at hb1; cases hb1
    · rw [if_neg hij]
      obtain rfl : i = j := by omega
      exact ⟨h2, ha, hb⟩
theorem find_eq (l : List Held) (hs : Sorted l) (hl : l.length ≤ 64) (t : ByteArray) : ∃ R is, token_find.f l t = some (((R : Nat) : Int), is) ∧ R ≤ l.length ∧ (∀ m, m < R → bel l t m = true) ∧ (∀ m, R ≤ m → m < l.length → bel l t m = false) ∧
    (is = true → R < l.length ∧ (rd l R).f0.toList = t.toList) ∧ (is = false → ∀ m, m < l.length → (rd l m).f0.toList ≠ t.toList) ∧ (∀ m, m < R → (rd l m).f0.toList ≠ t.toList) := by
  obtain ⟨h1, h2, h3⟩ := bs_spec l hs t l.length 0 l.length (by omega) (by omega) (by omega) (fun m hm => by omega) (fun m hm hm2 => by omega)
  have hne : ∀ m, m < token_find_bs l t l.length 0 l.length → (rd l m).f0.toList ≠ t.toList := fun m hm e => by
    have := h2 m hm
    unfold bel at this
    rw [e, bl_irrefl] at this
    cases this
  refine ⟨token_find_bs l t l.length 0 l.length, decide (token_find_bs l t l.length 0 l.length < l.length) && Lib.compareBytes (rd_T31 l ((token_find_bs l t l.length 0 l.length : Nat) : Int)).f0.data.toList t.data.toList == 0, ?_, h1, h2, h3, ?_, ?_, hne⟩
  · unfold token_find.f
    rw [if_pos (by omega)]
  · intro h
    simp only [Bool.and_eq_true, decide_eq_true_eq, beq_iff_eq] at h
    exact ⟨h.1, by rw [ByteArray.toList_eq, ByteArray.toList_eq]; exact (cmp_eq _ _).1 h.2⟩
  · intro h m hm e
    have hR : ¬ m < token_find_bs l t l.length 0 l.length := fun hlt => hne m hlt e
    by_cases he : m = token_find_bs l t l.length 0 l.length
    · rw [← he] at h
      have h4 : decide (m < l.length) = true := decide_eq_true hm
      have h5 : Lib.compareBytes (rd_T31 l (m : Int)).f0.data.toList t.data.toList = 0 := (cmp_eq _ _).2 (by rw [← ByteArray.toList_eq, ← ByteArray.toList_eq]; exact e)
      rw [h4, h5] at h
      simp at h
    · have h6 := h3 (token_find_bs l t l.length 0 l.length) (Nat.le_refl _) (by omega)
      have h7 := hs (token_find_bs l t l.length 0 l.length) m (by omega) hm
      unfold less at h7
      unfold bel at h6
      rw [e, h6] at h7
      cases h7
def zz : ByteArray := ⟨(List.replicate 64 (48 : UInt8)).toArray⟩
theorem zeros_true : stowagelaw15_zeros.f 66 = some zz := by kernel_rfl
def e0 : Held := ⟨⟨#[116]⟩, zz, ⟨#[100, 111, 110, 101]⟩, 3⟩
theorem small0 : Small [] := ⟨by simp, fun y h => by cases h⟩
theorem small1 : Small [e0] := ⟨by simp, fun y h => by
  obtain rfl := List.mem_singleton.1 h
  exact ⟨of_decide_eq_true (by kernel_rfl), of_decide_eq_true (by kernel_rfl)⟩⟩
theorem may0 (k : Nat) (hk : 5242881 ≤ k) : token_may.f k (⟨#[116]⟩ : ByteArray) zz (⟨#[100, 111, 110, 101]⟩ : ByteArray) 3 = some true := by
  rw [may_eq _ _ _ _ (of_decide_eq_true (by kernel_rfl)) (of_decide_eq_true (by kernel_rfl)) k (by omega)]
  kernel_rfl
theorem awake_note (k : Nat) (hk : 5242881 ≤ k) : token_Note.f k ([] : List Held) (⟨#[116]⟩ : ByteArray) zz (⟨#[100, 111, 110, 101]⟩ : ByteArray) 3 = some ([e0], 0) := by
  unfold token_Note.f
  rw [right_eq [] small0 k hk, show tableOk [] = true from rfl, Option.bind_some, if_pos rfl, may0 k hk, Option.bind_some, if_pos rfl, show token_find.f ([] : List Held) (⟨#[116]⟩ : ByteArray) = some (0, false) by kernel_rfl]
  kernel_rfl
theorem awake_look (k : Nat) (hk : 5242881 ≤ k) (s : ByteArray) : token_Look.f k [e0] (⟨#[116]⟩ : ByteArray) s = if zz.toList = s.toList then some (1, (⟨#[100, 111, 110, 101]⟩ : ByteArray)) else some (2, (⟨#[]⟩ : ByteArray)) := by
  unfold token_Look.f
  rw [right_eq [e0] small1 k hk, show tableOk [e0] = true by kernel_rfl, Option.bind_some, if_pos rfl, show token_find.f [e0] (⟨#[116]⟩ : ByteArray) = some (0, true) by kernel_rfl, Option.bind_some, if_pos rfl, if_pos (by decide), if_pos (by decide)]
  rfl
theorem awake_look0 (k : Nat) (hk : 5242881 ≤ k) (s : ByteArray) : token_Look.f k [] (⟨#[116]⟩ : ByteArray) s = some (0, (⟨#[]⟩ : ByteArray)) := by
  unfold token_Look.f
  rw [right_eq [] small0 k hk, show tableOk [] = true from rfl, Option.bind_some, if_pos rfl, show token_find.f ([] : List Held) (⟨#[116]⟩ : ByteArray) = some (0, false) by kernel_rfl]
  rfl
theorem awake_expire (k : Nat) (hk : 5242881 ≤ k) : token_Expire.f k [e0] 3 = some ([], 1) := by
  unfold token_Expire.f
  rw [right_eq [e0] small1 k hk, show tableOk [e0] = true by kernel_rfl, Option.bind_some, if_pos rfl]
  kernel_rfl
theorem awake_at (k : Nat) (hk : 5242881 ≤ k) : stowagelaw15_awake.f k = some true := by
  unfold stowagelaw15_awake.f
  rw [at_rounds stowagelaw15_zeros.mono (show 66 ≤ k by omega) zeros_true]
  simp only [Option.bind_some]
  rw [awake_note k hk]
  simp only [Option.bind_some]
  rw [awake_look k hk, awake_look k hk, awake_expire k hk, if_pos rfl, if_neg (by rw [ByteArray.toList_eq, ByteArray.toList_eq]; decide +kernel)]
  simp only [Option.bind_some]
  rw [awake_look0 k hk]
  simp only [ByteArray.toList_eq]
  kernel_rfl
theorem same_l (l : List Ref) (hl : l.length ≤ 65) : ∀ n i k, i + n = l.length → n < k → stowageref15_Same.l0 k l l (i : Int) = some true := by
  intro n
  induction n with
  | zero =>
    intro i k hi hk
    obtain ⟨k, rfl⟩ : ∃ j, k = j + 1 := ⟨k - 1, by omega⟩
    rw [stowageref15_Same.l0, if_neg (by omega)]
  | succ n ih =>
    intro i k hi hk
    obtain ⟨k, rfl⟩ : ∃ j, k = j + 1 := ⟨k - 1, by omega⟩
    rw [stowageref15_Same.l0, if_pos (by omega), if_pos (by omega), if_pos (by omega), if_neg (by simp), IntWalk.wrap64_in ((i : Int) + 1) (by omega), show ((i : Int) + 1) = ((i + 1 : Nat) : Int) by omega]
    exact ih (i + 1) k (by omega) (by omega)
theorem same_eq (l : List Ref) (hl : l.length ≤ 65) (k : Nat) (hk : 66 ≤ k) : stowageref15_Same.f k l l = some true := by
  unfold stowageref15_Same.f
  rw [if_pos rfl]
  exact same_l l hl l.length 0 k (by omega) (by omega)
theorem or128 (m : Int) (h0 : 0 ≤ m) (h1 : m < 256) : Go.bits .or .u8 m 128 = m % 128 + 128 := by
  obtain ⟨n, rfl⟩ : ∃ n : Nat, m = (n : Int) := ⟨m.toNat, by omega⟩
  have h : ∀ n, n < 256 → Go.bits .or .u8 ((n : Nat) : Int) 128 = ((n : Nat) : Int) % 128 + 128 := by decide +kernel
  exact h n (by omega)
def nl : Nat → Int → List Int
  | 0, n => [n]
  | d + 1, n => if n < 128 then [n] else (n % 128 + 128) :: nl d (n / 128)
theorem nl_len : ∀ d n, (nl d n).length ≤ d + 1
  | 0, _ => by simp [nl]
  | d + 1, n => by
    rw [nl]
    split
    · simp
    · have := nl_len d (n / 128)
      simp only [List.length_cons]; omega
theorem sn_append (a b : List Int) : strOfNums (a ++ b) = strOfNums a ++ strOfNums b := by
  apply ByteArray.ext
  rw [ByteArray.data_append]
  simp [strOfNums]
theorem oct_num : ∀ (d k : Nat) (n : Int) (x3 : List Int), 0 ≤ n → n < 128 ^ (d + 1) → d < k → x3.length + d ≤ 100 → octet_Number.l0 k n x3 = some (strOfNums (x3 ++ nl d n)) := by
  intro d
  induction d with
  | zero =>
    intro k n x3 h0 h1 hk h3
    obtain ⟨k, rfl⟩ : ∃ j, k = j + 1 := ⟨k - 1, by omega⟩
    have h1' : n < 128 := by simpa using h1
    rw [octet_Number.l0, if_neg (by omega), if_pos (by omega), nl, Int.emod_eq_of_lt h0 (by omega)]
  | succ d ih =>
    intro k n x3 h0 h1 hk h3
    obtain ⟨k, rfl⟩ : ∃ j, k = j + 1 := ⟨k - 1, by omega⟩
    rw [octet_Number.l0, nl]
    by_cases h : n < 128
    · rw [if_neg (by omega), if_pos (by omega), if_pos h, Int.emod_eq_of_lt h0 (by omega)]
    · rw [if_pos (by omega), if_pos (by omega), if_neg h, or128 _ (by omega) (by omega), show n % 256 % 128 = n % 128 by omega, ih k (n / 128) _ (by omega) (Int.ediv_lt_of_lt_mul (by omega) (by rw [← Int.pow_succ]; exact h1)) (by omega) (by simp; omega), List.append_assoc]
      rfl
def num (n : Int) : ByteArray := strOfNums (nl 9 n)
theorem num_size (n : Int) : (num n).size ≤ 10 := by
  unfold num
  rw [strOfNums_size]
  exact nl_len 9 n
theorem oct_Number (n : Int) (h0 : 0 ≤ n) (h1 : n ≤ 18446744073709551615) (k : Nat) (hk : 10 ≤ k) : octet_Number.f k n = some (num n) := by
  unfold octet_Number.f
  rw [oct_num 9 k n [] h0 (by omega) (by omega) (by simp)]
  rfl
def txt (a : ByteArray) : ByteArray := num (a.size : Int) ++ a
theorem oct_Text (a : ByteArray) (ha : a.size ≤ 1048576) (k : Nat) (hk : 10 ≤ k) : octet_Text.f k a = some (txt a) := by
  unfold octet_Text.f
  have := num_size (a.size : Int)
  rw [IntWalk.u64_in _ (by omega), oct_Number _ (by omega) (by omega) k hk, Option.bind_some, if_pos (by omega)]
  rfl
theorem and127 (m : Int) (h0 : 0 ≤ m) (h1 : m < 256) : Go.bits .and .u8 m 127 = m % 128 := by
  obtain ⟨n, rfl⟩ : ∃ n : Nat, m = (n : Int) := ⟨m.toNat, by omega⟩
  have h : ∀ n, n < 256 → Go.bits .and .u8 ((n : Nat) : Int) 127 = ((n : Nat) : Int) % 128 := by decide +kernel
  exact h n (by omega)
def rn (s : ByteArray) (a : Nat) : Nat → Nat → Int → Int × Int × Int
  | 0, _, _ => (0, 0, 3)
  | n + 1, i, x => if s.size ≤ a + i then (0, 0, 5) else if (i = 9 ∧ bt s ((a + i : Nat) : Int) > 1) ∨ (0 < i ∧ bt s ((a + i : Nat) : Int) = 0) then (0, 0, 3)
    else if bt s ((a + i : Nat) : Int) < 128 then (x + bt s ((a + i : Nat) : Int) % 128 * 128 ^ i, ((a + i + 1 : Nat) : Int), 0) else rn s a n (i + 1) (x + bt s ((a + i : Nat) : Int) % 128 * 128 ^ i)
theorem or_add (x d : Nat) (i : Nat) (hx : x < 128 ^ i) : x ||| (d * 128 ^ i) = x + d * 128 ^ i := by
  have h : (128 : Nat) ^ i = 2 ^ (7 * i) := by rw [Nat.pow_mul]
  rw [h] at hx ⊢
  rw [Nat.or_comm, Nat.mul_comm d, ← Nat.two_pow_add_eq_or_of_lt hx d, Nat.add_comm]
theorem step_bits (x b : Int) (i : Nat) (h0 : 0 ≤ x) (hx : x < 128 ^ i) (hb0 : 0 ≤ b) (hb : b < 256) (hi : i < 9 ∨ (i = 9 ∧ b ≤ 1)) :
    Go.bits .or .u64 x (shl .u64 (IntKind.u64.wrap (Go.bits .and .u8 b 127)) (7 * (i : Int))) = x + b % 128 * 128 ^ i ∧ 0 ≤ x + b % 128 * 128 ^ i ∧ x + b % 128 * 128 ^ i < 128 ^ (i + 1) ∧ x + b % 128 * 128 ^ i ≤ 18446744073709551615 := by
  obtain ⟨n, rfl⟩ : ∃ n : Nat, x = (n : Int) := ⟨x.toNat, by omega⟩
  obtain ⟨d, hd⟩ : ∃ d : Nat, b % 128 = (d : Int) := ⟨(b % 128).toNat, by omega⟩
  have hd1 : d < 128 := by omega
  have hn : n < 128 ^ i := by exact_mod_cast hx
  have hpow : (128 : Nat) ^ i = 2 ^ (7 * i) := by rw [Nat.pow_mul]
  have hlt : n + d * 128 ^ i < 128 ^ (i + 1) := by
    have h1 : d * 128 ^ i ≤ 127 * 128 ^ i := Nat.mul_le_mul_right _ (by omega)
    rw [Nat.pow_succ]; omega
  have hmax : n + d * 128 ^ i < 18446744073709551616 := by
    rcases hi with hi | ⟨rfl, hb1⟩
    · have h2 : (128 : Nat) ^ (i + 1) ≤ 128 ^ 9 := Nat.pow_le_pow_right (by decide) (by omega)
      have h3 : (128 : Nat) ^ 9 = 9223372036854775808 := by decide
      omega
    · have h3 : (128 : Nat) ^ 9 = 9223372036854775808 := by decide
      have h4 : d ≤ 1 := by omega
      rw [h3] at hn ⊢
      rcases (show d = 0 ∨ d = 1 by omega) with rfl | rfl <;> omega
  have hpi : (0 : Nat) < 128 ^ i := Nat.pow_pos (by decide)
  have hdm : d * 128 ^ i < 18446744073709551616 := by omega
  have hi9 : i ≤ 9 := by omega
  have hshl : shl .u64 (IntKind.u64.wrap (Go.bits .and .u8 b 127)) (7 * (i : Int)) = ((d * 128 ^ i : Nat) : Int) := by
    rw [and127 b hb0 hb, hd, IntWalk.u64_in _ (by omega)]
    unfold shl
    have hbits : IntKind.u64.bits = 64 := rfl
    rw [hbits, show (7 * (i : Int)).toNat = 7 * i by omega, Nat.min_eq_left (by omega), hpow]
    rw [hpow] at hdm
    have hc : ((d : Int) * 2 ^ (7 * i)) = ((d * 2 ^ (7 * i) : Nat) : Int) := by rw [Int.natCast_mul, Int.natCast_pow]; rfl
    rw [hc, IntWalk.u64_in _ (by omega)]
  have hc2 : (n : Int) + b % 128 * 128 ^ i = ((n + d * 128 ^ i : Nat) : Int) := by rw [hd, Int.natCast_add, Int.natCast_mul, Int.natCast_pow]; rfl
  rw [hshl, bits_or_u64_nat n _ (by omega) hdm, or_add n d i hn, hc2]
  refine ⟨rfl, by omega, ?_, by omega⟩
  have : ((128 : Int) ^ (i + 1)) = ((128 ^ (i + 1) : Nat) : Int) := by rw [Int.natCast_pow]; rfl
  rw [this]
  omega
theorem oct_rn (s : ByteArray) (a : Nat) (hs : s.size ≤ 1048576) (ha : a ≤ s.size) : ∀ (n i k : Nat) (x : Int), i + n = 10 → 2 * n < k → 0 ≤ x → x < 128 ^ i → octet_ReadNumber.l0 k s (a : Int) x (i : Int) = some (rn s a n i x) := by
  intro n
  induction n with
  | zero =>
    intro i k x hi hk h0 hx
    obtain ⟨k, rfl⟩ : ∃ j, k = j + 1 := ⟨k - 1, by omega⟩
    rw [octet_ReadNumber.l0, if_neg (by omega)]
    rfl
  | succ n ih =>
    intro i k x hi hk h0 hx
    obtain ⟨k, rfl⟩ : ∃ j, k = j + 1 + 1 := ⟨k - 2, by omega⟩
    have hbr := bt_range s ((a + i : Nat) : Int)
    rw [octet_ReadNumber.l0, if_pos (by omega), IntWalk.wrap64_in ((a : Int) + (i : Int)) (by omega), show ((a : Int) + (i : Int)) = ((a + i : Nat) : Int) by omega, rn]
    obtain ⟨b, hb⟩ : ∃ b, bt s ((a + i : Nat) : Int) = b := ⟨_, rfl⟩
    rw [hb] at hbr ⊢
    by_cases he : s.size ≤ a + i
    · rw [if_pos (by omega), if_pos he]
    · rw [if_neg (by omega), if_neg he, if_pos (by omega), if_pos (by omega)]
      have tail : ∀ c : Bool, (c = true ↔ ((i = 9 ∧ b > 1) ∨ (0 < i ∧ b = 0))) → octet_ReadNumber.j2 (k + 1) s (a : Int) x (i : Int) b (i : Int) c = some (if (i = 9 ∧ b > 1) ∨ (0 < i ∧ b = 0) then (0, 0, 3) else if b < 128 then (x + b % 128 * 128 ^ i, ((a + i + 1 : Nat) : Int), 0) else rn s a n (i + 1) (x + b % 128 * 128 ^ i)) := by
        intro c hc
        rw [octet_ReadNumber.j2]
        by_cases hq : (i = 9 ∧ b > 1) ∨ (0 < i ∧ b = 0)
        · rw [if_pos (hc.2 hq), if_pos hq]
        · rw [if_neg (fun h => hq (hc.1 h)), if_neg hq, IntWalk.wrap64_in (7 * (i : Int)) (by omega), if_pos (by omega)]
          obtain ⟨e1, e2, e3, e4⟩ := step_bits x b i h0 hx hbr.1 (by omega) (by omega)
          rw [e1]
          by_cases hlt : b < 128
          · rw [if_pos hlt, if_pos hlt, IntWalk.wrap64_in ((a : Int) + (i : Int)) (by omega), IntWalk.wrap64_in _ (by omega)]
            rfl
          · rw [if_neg hlt, if_neg hlt, IntWalk.wrap64_in ((i : Int) + 1) (by omega), show ((i : Int) + 1) = ((i + 1 : Nat) : Int) by omega]
            exact ih (i + 1) k _ (by omega) (by omega) e2 e3
      by_cases h9 : i = 9
      · rw [if_pos (by omega)]
        by_cases hb1 : b > 1
        · rw [if_pos hb1]; exact tail true (by simp; omega)
        · rw [if_neg hb1, if_pos (by omega)]; exact tail _ (by simp; omega)
      · rw [if_neg (by omega)]
        by_cases hi0 : i = 0
        · rw [if_neg (by omega)]; exact tail false (by simp; omega)
        · rw [if_pos (by omega)]; exact tail _ (by simp; omega)
theorem rn_spec (s : ByteArray) (a : Nat) : ∀ (n i : Nat) (x : Int), i + n = 10 → 0 ≤ x → x < 128 ^ i → (rn s a n i x).2.2 = 0 → 0 ≤ (rn s a n i x).1 ∧ (rn s a n i x).1 ≤ 18446744073709551615 ∧ ∃ m : Nat, (rn s a n i x).2.1 = (m : Int) ∧ a ≤ m ∧ m ≤ s.size
  | 0, _, _, _, _, _, h => by simp [rn] at h
  | n + 1, i, x, hi, h0, hx, h => by
    have hbr := bt_range s ((a + i : Nat) : Int)
    rw [rn] at h ⊢
    split at h
    · simp at h
    · rename_i he
      split at h
      · simp at h
      · rename_i hq
        obtain ⟨e1, e2, e3, e4⟩ := step_bits x _ i h0 hx hbr.1 (by omega) (by omega)
        rw [if_neg he, if_neg hq]
        split at h
        · rename_i hlt
          rw [if_pos hlt]
          exact ⟨e2, e4, a + i + 1, rfl, by omega, by omega⟩
        · rename_i hlt
          rw [if_neg hlt]
          exact rn_spec s a n (i + 1) _ (by omega) e2 e3 h
def rd0 (s : ByteArray) (a : Nat) : Int × Int × Int := rn s a 10 0 0
theorem oct_ReadNumber (s : ByteArray) (a : Nat) (hs : s.size ≤ 1048576) (ha : a ≤ s.size) (k : Nat) (hk : 25 ≤ k) : octet_ReadNumber.f k s (a : Int) = some (rd0 s a) := by
  unfold octet_ReadNumber.f
  obtain ⟨k, rfl⟩ : ∃ j, k = j + 1 := ⟨k - 1, by omega⟩
  rw [if_neg (by omega), decide_eq_false (by omega), octet_ReadNumber.j0, if_neg (by simp)]
  exact oct_rn s a hs ha 10 0 k 0 (by omega) (by omega) (by omega) (by decide)
theorem rd0_spec (s : ByteArray) (a : Nat) (h : (rd0 s a).2.2 = 0) : 0 ≤ (rd0 s a).1 ∧ (rd0 s a).1 ≤ 18446744073709551615 ∧ ∃ m : Nat, (rd0 s a).2.1 = (m : Int) ∧ a ≤ m ∧ m ≤ s.size :=
  rn_spec s a 10 0 0 (by omega) (by omega) (by decide) h
def ent (y : Held) : ByteArray := ((txt y.f0 ++ txt y.f1) ++ txt y.f2) ++ num y.f3
def enc (x : ByteArray) : List Held → ByteArray
  | [] => x
  | y :: l => enc (x ++ ent y) l
theorem txt_size (a : ByteArray) : (txt a).size ≤ a.size + 10 := by
  unfold txt
  have := num_size (a.size : Int)
  rw [ByteArray.size_append]; omega
theorem ba_assoc (a b c : ByteArray) : a ++ b ++ c = a ++ (b ++ c) := by
  apply ByteArray.ext
  simp only [ByteArray.data_append, Array.append_assoc]
def Fine (y : Held) : Prop := y.f0.size ≤ 64 ∧ y.f1.size ≤ 64 ∧ y.f2.size ≤ 4096 ∧ 0 ≤ y.f3 ∧ y.f3 ≤ 1099511627776
theorem fine_of {y : Held} (h : one y = true) : Fine y := by
  unfold one tokOk hexOk at h
  simp only [Bool.and_eq_true, decide_eq_true_eq] at h
  exact ⟨h.1.2.2, by omega, h.2.2.1, by omega, h.2.2.2.2⟩
theorem one_of {l : List Held} (h : tableOk l = true) : ∀ m, m < l.length → one (rd l m) = true := by
  unfold tableOk at h
  simp only [Bool.and_eq_true] at h
  intro m hm
  exact (chk_at l l.length 0 h.1 m (by omega) (by omega)).1
theorem rd_get' {l : List Held} {i : Nat} (h : i < l.length) : rd l i = l[i] := by
  have h1 := rd_eq h
  rw [List.getElem?_eq_getElem h] at h1
  exact (Option.some.inj h1).symm
theorem tenc_l (l : List Held) (hl : l.length ≤ 64) (hf : ∀ m, m < l.length → Fine (rd l m)) : ∀ n i k x, i + n = l.length → n + 20 ≤ k → x.size ≤ 10 + i * 5000 → token_Encode.l0 k x l (l.length : Int) (i : Int) = some (enc x (l.drop i), 0) := by
  intro n
  induction n with
  | zero =>
    intro i k x hi hk hx
    obtain ⟨k, rfl⟩ : ∃ j, k = j + 1 := ⟨k - 1, by omega⟩
    rw [token_Encode.l0, if_neg (by omega), List.drop_of_length_le (by omega)]
    rfl
  | succ n ih =>
    intro i k x hi hk hx
    obtain ⟨k, rfl⟩ : ∃ j, k = j + 1 := ⟨k - 1, by omega⟩
    obtain ⟨f0, f1, f2, f3, f4⟩ := hf i (by omega)
    have s0 := txt_size (rd l i).f0
    have s1 := txt_size (rd l i).f1
    have s2 := txt_size (rd l i).f2
    have s3 := num_size (rd l i).f3
    have hd : l.drop i = rd l i :: l.drop (i + 1) := by rw [rd_get' (show i < l.length by omega)]; exact List.drop_eq_getElem_cons (by omega)
    have t0 : octet_Text.f k (rd_T31 l (i : Int)).f0 = some (txt (rd l i).f0) := oct_Text (rd l i).f0 (by omega) k (by omega)
    have t1 : octet_Text.f k (rd_T31 l (i : Int)).f1 = some (txt (rd l i).f1) := oct_Text (rd l i).f1 (by omega) k (by omega)
    have t2 : octet_Text.f k (rd_T31 l (i : Int)).f2 = some (txt (rd l i).f2) := oct_Text (rd l i).f2 (by omega) k (by omega)
    have t3 : octet_Number.f k (IntKind.u64.wrap (rd_T31 l (i : Int)).f3) = some (num (rd l i).f3) := by
      show octet_Number.f k (IntKind.u64.wrap (rd l i).f3) = _
      rw [IntWalk.u64_in _ (by omega), oct_Number _ (by omega) (by omega) k (by omega)]
    rw [token_Encode.l0, if_pos (by omega), if_pos (by omega), if_pos (by omega), t0, Option.bind_some, t1, Option.bind_some, if_pos (by omega), t2, Option.bind_some, if_pos (by rw [ByteArray.size_append]; omega), t3, Option.bind_some, if_pos (by rw [ByteArray.size_append, ByteArray.size_append]; omega), if_pos (by rw [ByteArray.size_append, ByteArray.size_append, ByteArray.size_append]; omega), IntWalk.wrap64_in _ (by omega), show ((i : Int) + 1) = ((i + 1 : Nat) : Int) by omega, ih (i + 1) k _ (by omega) (by omega) (by rw [ByteArray.size_append, ByteArray.size_append, ByteArray.size_append, ByteArray.size_append]; omega), hd]
    rfl
theorem tencode_eq (l : List Held) (hs : Small l) (k : Nat) (hk : 6291460 ≤ k) : token_Encode.f k l = (if tableOk l = true then some (enc (num (l.length : Int)) l, 0) else some ((⟨#[]⟩ : ByteArray), 1)) := by
  unfold token_Encode.f
  rw [right_eq l hs k (by omega), Option.bind_some]
  cases ht : tableOk l with
  | false => rw [if_neg (by simp), if_neg (by simp)]
  | true =>
    have hl := len_of ht
    have hf : ∀ m, m < l.length → Fine (rd l m) := fun m hm => fine_of (one_of ht m hm)
    have hn := num_size (l.length : Int)
    rw [if_pos rfl, if_pos rfl, IntWalk.u64_in _ (by omega), oct_Number _ (by omega) (by omega) k (by omega), Option.bind_some]
    exact tenc_l l hl hf l.length 0 k _ (by omega) (by omega) (by omega)
def xn (s : ByteArray) (a : Nat) (e : Int) (most : Int) : Int × Int × Int :=
  if e = 0 then (if (rd0 s a).2.2 = 0 then (if (rd0 s a).1 > most then (0, (a : Int), 2) else ((rd0 s a).1, (rd0 s a).2.1, 0)) else (0, (a : Int), (rd0 s a).2.2)) else (0, (a : Int), e)
theorem oct_RNumber (s : ByteArray) (a : Nat) (hs : s.size ≤ 1048576) (ha : a ≤ s.size) (e most : Int) (k : Nat) (hk : 30 ≤ k) :
    octet_Reader_Number.f k s (a : Int) e most = some ((xn s a e most).1, s, (xn s a e most).2.1, (xn s a e most).2.2) := by
  unfold octet_Reader_Number.f octet_Reader_Err.f xn
  obtain ⟨k, rfl⟩ : ∃ j, k = j + 1 := ⟨k - 1, by omega⟩
  rw [Option.bind_some]
  by_cases he : e = 0
  · rw [if_pos he, if_pos he, oct_ReadNumber s a hs ha (k + 1) (by omega), Option.bind_some]
    by_cases h0 : (rd0 s a).2.2 = 0
    · rw [if_pos h0, if_pos h0, octet_Reader_Number.j0]
      by_cases hm : (rd0 s a).1 > most
      · rw [if_pos (decide_eq_true hm), if_neg (by omega), if_pos hm]
      · rw [if_neg (by simpa using hm), if_pos h0, if_neg hm, he]
    · rw [if_neg h0, if_neg h0, octet_Reader_Number.j0, if_neg (by simp), if_neg h0]
  · rw [if_neg he, if_neg he]
theorem xn_at (s : ByteArray) (a : Nat) (ha : a ≤ s.size) (e most : Int) (hm : 0 ≤ most) : 0 ≤ (xn s a e most).1 ∧ (xn s a e most).1 ≤ most ∧ ∃ m : Nat, (xn s a e most).2.1 = (m : Int) ∧ a ≤ m ∧ m ≤ s.size := by
  unfold xn
  by_cases he : e = 0
  · rw [if_pos he]
    by_cases h0 : (rd0 s a).2.2 = 0
    · rw [if_pos h0]
      obtain ⟨g1, g2, m, g3, g4, g5⟩ := rd0_spec s a h0
      by_cases hmm : (rd0 s a).1 > most
      · rw [if_pos hmm]; exact ⟨Int.le_refl _, hm, a, rfl, Nat.le_refl _, ha⟩
      · rw [if_neg hmm]; exact ⟨g1, by omega, m, g3, g4, g5⟩
    · rw [if_neg h0]; exact ⟨Int.le_refl _, hm, a, rfl, Nat.le_refl _, ha⟩
  · rw [if_neg he]; exact ⟨Int.le_refl _, hm, a, rfl, Nat.le_refl _, ha⟩
theorem oct_RInt (s : ByteArray) (a : Nat) (hs : s.size ≤ 1048576) (ha : a ≤ s.size) (e most : Int) (hm : 0 ≤ most) (hm2 : most ≤ 9223372036854775807) (k : Nat) (hk : 30 ≤ k) :
    octet_Reader_Int.f k s (a : Int) e most = some ((xn s a e most).1, s, (xn s a e most).2.1, (xn s a e most).2.2) := by
  unfold octet_Reader_Int.f
  obtain ⟨h1, h2, _⟩ := xn_at s a ha e most hm
  rw [if_neg (by omega), IntWalk.u64_in most (by omega), oct_RNumber s a hs ha e most k hk, Option.bind_some]
  show some (wrap64 ((xn s a e most).1), s, (xn s a e most).2.1, (xn s a e most).2.2) = _
  rw [IntWalk.wrap64_in _ (by omega)]
def rt (s : ByteArray) (a : Nat) : ByteArray × Int × Int :=
  if (rd0 s a).2.2 = 0 then (if (rd0 s a).1 > (s.size : Int) - (rd0 s a).2.1 then ((⟨#[]⟩ : ByteArray), 0, 5) else (s.extract (rd0 s a).2.1.toNat ((rd0 s a).2.1 + (rd0 s a).1).toNat, (rd0 s a).2.1 + (rd0 s a).1, 0)) else ((⟨#[]⟩ : ByteArray), 0, (rd0 s a).2.2)
theorem oct_ReadText (s : ByteArray) (a : Nat) (hs : s.size ≤ 1048576) (ha : a ≤ s.size) (k : Nat) (hk : 25 ≤ k) : octet_ReadText.f k s (a : Int) = some (rt s a) := by
  unfold octet_ReadText.f rt
  rw [oct_ReadNumber s a hs ha k hk, Option.bind_some]
  by_cases h0 : (rd0 s a).2.2 = 0
  · obtain ⟨g1, g2, m, g3, g4, g5⟩ := rd0_spec s a h0
    rw [if_pos h0, if_pos h0, g3, IntWalk.wrap64_in ((s.size : Int) - (m : Int)) (by omega), IntWalk.u64_in _ (by omega)]
    by_cases hm : (rd0 s a).1 > (s.size : Int) - (m : Int)
    · rw [if_pos hm, if_pos hm]
    · rw [if_neg hm, if_neg hm, IntWalk.wrap64_in (rd0 s a).1 (by omega), IntWalk.wrap64_in _ (by omega), if_pos (by omega), if_pos (by omega), if_pos (by omega)]
  · rw [if_neg h0, if_neg h0]
theorem rt_spec (s : ByteArray) (a : Nat) (h : (rt s a).2.2 = 0) : ∃ m : Nat, (rt s a).2.1 = (m : Int) ∧ a ≤ m ∧ m ≤ s.size := by
  unfold rt at h ⊢
  by_cases h0 : (rd0 s a).2.2 = 0
  · obtain ⟨g1, g2, m, g3, g4, g5⟩ := rd0_spec s a h0
    rw [if_pos h0] at h ⊢
    by_cases hm : (rd0 s a).1 > (s.size : Int) - (rd0 s a).2.1
    · rw [if_pos hm] at h; simp at h
    · rw [if_neg hm]
      exact ⟨m + (rd0 s a).1.toNat, by show (rd0 s a).2.1 + (rd0 s a).1 = _; omega, by omega, by omega⟩
  · rw [if_neg h0] at h
    exact absurd h h0
def xt (s : ByteArray) (a : Nat) (e : Int) (most : Int) : ByteArray × Int × Int :=
  if e = 0 then (if (rt s a).2.2 = 0 then (if ((rt s a).1.size : Int) > most then ((⟨#[]⟩ : ByteArray), (a : Int), 2) else ((rt s a).1, (rt s a).2.1, 0)) else ((⟨#[]⟩ : ByteArray), (a : Int), (rt s a).2.2)) else ((⟨#[]⟩ : ByteArray), (a : Int), e)
theorem oct_RText (s : ByteArray) (a : Nat) (hs : s.size ≤ 1048576) (ha : a ≤ s.size) (e most : Int) (k : Nat) (hk : 30 ≤ k) :
    octet_Reader_Text.f k s (a : Int) e most = some ((xt s a e most).1, s, (xt s a e most).2.1, (xt s a e most).2.2) := by
  unfold octet_Reader_Text.f octet_Reader_Err.f xt
  obtain ⟨k, rfl⟩ : ∃ j, k = j + 1 := ⟨k - 1, by omega⟩
  rw [Option.bind_some]
  by_cases he : e = 0
  · rw [if_pos he, if_pos he, oct_ReadText s a hs ha (k + 1) (by omega), Option.bind_some]
    by_cases h0 : (rt s a).2.2 = 0
    · rw [if_pos h0, if_pos h0, octet_Reader_Text.j0]
      by_cases hm : ((rt s a).1.size : Int) > most
      · rw [if_pos (decide_eq_true hm), if_neg (by omega), if_pos hm]
      · rw [if_neg (by simpa using hm), if_pos h0, if_neg hm, he]
    · rw [if_neg h0, if_neg h0, octet_Reader_Text.j0, if_neg (by simp), if_neg h0]
  · rw [if_neg he, if_neg he]
theorem xt_at (s : ByteArray) (a : Nat) (ha : a ≤ s.size) (e most : Int) (hm : 0 ≤ most) : ((xt s a e most).1.size : Int) ≤ most ∧ ∃ m : Nat, (xt s a e most).2.1 = (m : Int) ∧ a ≤ m ∧ m ≤ s.size := by
  have hz : (((⟨#[]⟩ : ByteArray).size : Nat) : Int) = 0 := rfl
  unfold xt
  by_cases he : e = 0
  · rw [if_pos he]
    by_cases h0 : (rt s a).2.2 = 0
    · rw [if_pos h0]
      by_cases hmm : ((rt s a).1.size : Int) > most
      · rw [if_pos hmm]; exact ⟨by show (((⟨#[]⟩ : ByteArray).size : Nat) : Int) ≤ most; omega, a, rfl, Nat.le_refl _, ha⟩
      · rw [if_neg hmm]; exact ⟨by show ((rt s a).1.size : Int) ≤ most; omega, rt_spec s a h0⟩
    · rw [if_neg h0]; exact ⟨by show (((⟨#[]⟩ : ByteArray).size : Nat) : Int) ≤ most; omega, a, rfl, Nat.le_refl _, ha⟩
  · rw [if_neg he]; exact ⟨by show (((⟨#[]⟩ : ByteArray).size : Nat) : Int) ≤ most; omega, a, rfl, Nat.le_refl _, ha⟩
def by_ (l : List Int) : List UInt8 := l.map fun n => UInt8.ofNat n.toNat
theorem num_by (n : Int) : (num n).data.toList = by_ (nl 9 n) := rfl
theorem bt_head (s : ByteArray) (p : Nat) (b : Int) (h0 : 0 ≤ b) (h1 : b < 256) (rest : List UInt8) (h : s.data.toList.drop p = UInt8.ofNat b.toNat :: rest) : p < s.size ∧ bt s (p : Int) = b ∧ s.data.toList.drop (p + 1) = rest := by
  have hp : p < s.size := by
    rcases Nat.lt_or_ge p s.size with h2 | h2
    · exact h2
    · rw [List.drop_of_length_le (by rw [len_eq]; exact h2)] at h; cases h
  obtain ⟨c, hc, hb⟩ := bt_get s p hp
  rw [hc] at h
  injection h with e1 e2
  refine ⟨hp, ?_, e2⟩
  rw [hb, e1, UInt8.toNat_ofNat']
  omega
theorem rn_back (s : ByteArray) (a : Nat) : ∀ (d i : Nat) (x n : Int) (rest : List UInt8), i + d = 9 → 0 ≤ n → n < 128 ^ (d + 1) → (i = 9 → n ≤ 1) → (0 < i → n ≠ 0) → (8 < i → n < 128) → n * 128 ^ i ≤ 18446744073709551615 → s.data.toList.drop (a + i) = by_ (nl d n) ++ rest →
    rn s a (d + 1) i x = (x + n * 128 ^ i, ((a + i + (nl d n).length : Nat) : Int), 0) := by
  intro d
  induction d with
  | zero =>
    intro i x n rest hi h0 h1 h9 hz h8 hm h
    have h1' : n < 128 := by simpa using h1
    rw [nl] at h ⊢
    obtain ⟨hp, hb, _⟩ := bt_head s (a + i) n h0 (by omega) rest h
    rw [rn, hb, if_neg (by omega), if_neg (by omega), if_pos h1', Int.emod_eq_of_lt h0 h1']
    rfl
  | succ d ih =>
    intro i x n rest hi h0 h1 h9 hz h8 hm h
    by_cases h128 : n < 128
    · have e1 : nl (d + 1) n = [n] := by rw [nl, if_pos h128]
      rw [e1] at h ⊢
      obtain ⟨hp, hb, _⟩ := bt_head s (a + i) n h0 (by omega) rest h
      rw [rn, hb, if_neg (by omega), if_neg (by omega), if_pos h128, Int.emod_eq_of_lt h0 h128]
      rfl
    · have e1 : nl (d + 1) n = (n % 128 + 128) :: nl d (n / 128) := by rw [nl, if_neg h128]
      rw [e1] at h ⊢
      obtain ⟨hp, hb, ht⟩ := bt_head s (a + i) (n % 128 + 128) (by omega) (by omega) (by_ (nl d (n / 128)) ++ rest) h
      have hpow : (128 : Int) ^ (i + 1) = 128 ^ i * 128 := Int.pow_succ _ _
      have hpi : (0 : Int) < 128 ^ i := Int.pow_pos (by omega)
      have hsum : n % 128 * 128 ^ i + n / 128 * 128 ^ (i + 1) = n * 128 ^ i := by
        rw [hpow, Int.mul_comm (128 ^ i) 128, ← Int.mul_assoc, ← Int.add_mul]
        congr 1
        omega
      have hle : n / 128 * 128 ^ (i + 1) ≤ 18446744073709551615 := by
        have : 0 ≤ n % 128 * 128 ^ i := Int.mul_nonneg (by omega) (by omega)
        omega
      rw [rn, hb, if_neg (by omega), if_neg (by omega), if_neg (by omega), show (n % 128 + 128) % 128 = n % 128 by omega]
      rw [ih (i + 1) _ (n / 128) rest (by omega) (by omega) (Int.ediv_lt_of_lt_mul (by omega) (by rw [← Int.pow_succ]; exact h1)) ?_ (by omega) ?_ hle (by rw [← Nat.add_assoc]; exact ht)]
      · rw [Int.add_assoc, hsum]
        congr 2
        simp only [List.length_cons]; omega
      · intro hi9
        obtain rfl : i = 8 := by omega
        have h3 : (128 : Int) ^ (8 + 1) = 9223372036854775808 := by decide
        rw [h3] at hle
        omega
      · intro h8'
        have hi8 : i = 8 := by omega
        subst hi8
        have h3 : (128 : Int) ^ (8 + 1) = 9223372036854775808 := by decide
        rw [h3] at hle
        omega
theorem rd0_back (s : ByteArray) (a : Nat) (n : Int) (rest : List UInt8) (h0 : 0 ≤ n) (h1 : n ≤ 18446744073709551615) (h : s.data.toList.drop a = (num n).data.toList ++ rest) : rd0 s a = (n, ((a + (num n).size : Nat) : Int), 0) := by
  unfold rd0
  rw [rn_back s a 9 0 0 n rest rfl h0 (by omega) (by omega) (by omega) (by omega) (by omega) (by rw [Nat.add_zero]; exact h)]
  have : (num n).size = (nl 9 n).length := strOfNums_size _
  rw [this]
  simp
theorem rn_only (s : ByteArray) (a : Nat) : ∀ (d i : Nat) (x : Int), (rn s a (d + 1) i x).2.2 = 0 → ∃ (n : Int) (m : Nat), 0 ≤ n ∧ (0 < i → n ≠ 0) ∧ (rn s a (d + 1) i x).1 = x + n * 128 ^ i ∧ (rn s a (d + 1) i x).2.1 = (m : Int) ∧ m ≤ s.size ∧ m = a + i + (nl d n).length ∧ s.data.toList.drop (a + i) = by_ (nl d n) ++ s.data.toList.drop m := by
  intro d
  induction d with
  | zero =>
    intro i x h
    rw [rn] at h ⊢
    split at h
    · simp at h
    · rename_i he
      obtain ⟨c, hc, hb⟩ := bt_get s (a + i) (by omega)
      have hc8 := UInt8.toNat_lt c
      split at h
      · simp at h
      · rename_i hq
        split at h
        · rename_i hlt
          rw [if_neg he, if_neg hq, if_pos hlt]
          rw [hb] at hq hlt ⊢
          refine ⟨(c.toNat : Int), a + i + 1, by omega, by omega, by rw [Int.emod_eq_of_lt (by omega) hlt], rfl, by omega, rfl, ?_⟩
          rw [hc]
          show _ = UInt8.ofNat (c.toNat : Int).toNat :: _
          rw [Int.toNat_natCast, UInt8.ofNat_toNat]
          rfl
        · rw [rn] at h; simp at h
  | succ d ih =>
    intro i x h
    rw [rn] at h ⊢
    split at h
    · simp at h
    · rename_i he
      obtain ⟨c, hc, hb⟩ := bt_get s (a + i) (by omega)
      have hc8 := UInt8.toNat_lt c
      split at h
      · simp at h
      · rename_i hq
        split at h
        · rename_i hlt
          rw [if_neg he, if_neg hq, if_pos hlt]
          rw [hb] at hq hlt ⊢
          refine ⟨(c.toNat : Int), a + i + 1, by omega, by omega, by rw [Int.emod_eq_of_lt (by omega) hlt], rfl, by omega, by rw [nl, if_pos hlt]; rfl, ?_⟩
          rw [hc, nl, if_pos hlt]
          show _ = UInt8.ofNat (c.toNat : Int).toNat :: _
          rw [Int.toNat_natCast, UInt8.ofNat_toNat]
          rfl
        · rename_i hlt
          rw [if_neg he, if_neg hq, if_neg hlt]
          obtain ⟨n, m, g0, g1, g2, g3, g4, g5, g6⟩ := ih (i + 1) _ h
          rw [g2, g3]
          rw [hb] at hq hlt ⊢
          have hn1 : n ≠ 0 := g1 (by omega)
          have hge : ¬ (((c.toNat : Int) % 128 + 128 * n) < 128) := by omega
          have hnl : nl (d + 1) ((c.toNat : Int) % 128 + 128 * n) = (c.toNat : Int) :: nl d n := by
            rw [nl, if_neg hge, show ((c.toNat : Int) % 128 + 128 * n) % 128 + 128 = (c.toNat : Int) by omega, show ((c.toNat : Int) % 128 + 128 * n) / 128 = n by omega]
          refine ⟨(c.toNat : Int) % 128 + 128 * n, m, by omega, by omega, ?_, rfl, g4, by rw [hnl, List.length_cons]; omega, ?_⟩
          · have hpow : (128 : Int) ^ (i + 1) = 128 ^ i * 128 := Int.pow_succ _ _
            rw [hpow, Int.mul_comm (128 ^ i) 128, ← Int.mul_assoc, Int.mul_comm n 128, Int.add_assoc, ← Int.add_mul]
          · rw [hc, hnl]
            show _ = UInt8.ofNat (c.toNat : Int).toNat :: _
            rw [Int.toNat_natCast, UInt8.ofNat_toNat]
            show c :: _ = c :: (by_ (nl d n) ++ _)
            rw [← g6, Nat.add_assoc]
theorem rd0_only (s : ByteArray) (a : Nat) (h : (rd0 s a).2.2 = 0) : ∃ m : Nat, (rd0 s a).2.1 = (m : Int) ∧ m ≤ s.size ∧ m = a + (num (rd0 s a).1).size ∧ s.data.toList.drop a = (num (rd0 s a).1).data.toList ++ s.data.toList.drop m := by
  obtain ⟨n, m, g0, g1, g2, g3, g4, g5, g6⟩ := rn_only s a 9 0 0 h
  have e1 : (rd0 s a).1 = n := by
    show (rn s a 10 0 0).1 = n
    rw [g2]; simp
  have hsz : (num n).size = (nl 9 n).length := strOfNums_size _
  rw [e1]
  refine ⟨m, g3, g4, by rw [hsz]; omega, ?_⟩
  rw [num_by]
  simpa using g6
theorem extract_list (s : ByteArray) (i j : Nat) : (s.extract i j).data.toList = (s.data.toList.drop i).take (j - i) := by
  rw [ByteArray.data_extract, Array.toList_extract, List.extract_eq_take_drop]
theorem txt_list (t : ByteArray) : (txt t).data.toList = (num (t.size : Int)).data.toList ++ t.data.toList := by
  unfold txt
  rw [ByteArray.data_append, Array.toList_append]
theorem drop_add (s : ByteArray) (a : Nat) (p q : List UInt8) (h : s.data.toList.drop a = p ++ q) : s.data.toList.drop (a + p.length) = q := by
  rw [← List.drop_drop, h, List.drop_left]
set_option maxRecDepth 100000 in
theorem rt_back (s t : ByteArray) (a : Nat) (rest : List UInt8) (ht : t.size ≤ 1048576) (h : s.data.toList.drop a = (txt t).data.toList ++ rest) : rt s a = (t, ((a + (txt t).size : Nat) : Int), 0) := by
  rw [txt_list, List.append_assoc] at h
  have h1 := rd0_back s a (t.size : Int) _ (by omega) (by omega) h
  have h2 := drop_add s a _ _ h
  rw [len_eq] at h2
  have h3 : a + (num (t.size : Int)).size + t.size ≤ s.size := by
    have := congrArg List.length h2
    rw [List.length_drop, List.length_append, len_eq, len_eq] at this
    by_cases h0 : t.size = 0
    · have h4 := congrArg List.length h
      rw [List.length_drop, List.length_append, len_eq, len_eq] at h4
      have h5 : 0 < (num (t.size : Int)).size := by
        have : (num (t.size : Int)).size = (nl 9 (t.size : Int)).length := strOfNums_size _
        rw [this, nl]
        split <;> simp
      omega
    · omega
  have hts : (txt t).size = (num (t.size : Int)).size + t.size := ByteArray.size_append ..
  unfold rt
  rw [h1]
  rw [if_pos rfl, if_neg (by show ¬ ((t.size : Int) > (s.size : Int) - ((a + (num (t.size : Int)).size : Nat) : Int)); omega)]
  show (s.extract ((a + (num (t.size : Int)).size : Nat) : Int).toNat (((a + (num (t.size : Int)).size : Nat) : Int) + (t.size : Int)).toNat, ((a + (num (t.size : Int)).size : Nat) : Int) + (t.size : Int), (0 : Int)) = _
  have e2 : s.extract ((a + (num (t.size : Int)).size : Nat) : Int).toNat (((a + (num (t.size : Int)).size : Nat) : Int) + (t.size : Int)).toNat = t := by
    apply ByteArray.ext
    apply Array.ext'
    rw [extract_list, Int.toNat_natCast, h2, show (((a + (num (t.size : Int)).size : Nat) : Int) + (t.size : Int)).toNat - (a + (num (t.size : Int)).size) = t.data.toList.length by rw [len_eq]; omega, List.take_left]
  rw [e2, hts]
  congr 2
  omega
theorem rt_only (s : ByteArray) (a : Nat) (h : (rt s a).2.2 = 0) : ∃ m : Nat, (rt s a).2.1 = (m : Int) ∧ m ≤ s.size ∧ s.data.toList.drop a = (txt (rt s a).1).data.toList ++ s.data.toList.drop m := by
  unfold rt at h ⊢
  by_cases h0 : (rd0 s a).2.2 = 0
  · rw [if_pos h0] at h ⊢
    obtain ⟨m, g1, g2, g3, g4⟩ := rd0_only s a h0
    have hsp := rd0_spec s a h0
    rw [g1] at h ⊢
    by_cases hm : (rd0 s a).1 > (s.size : Int) - (m : Int)
    · rw [if_pos hm] at h; simp at h
    · rw [if_neg hm] at h ⊢
      have hz : (s.extract (m : Int).toNat ((m : Int) + (rd0 s a).1).toNat).data.toList = (s.data.toList.drop m).take (rd0 s a).1.toNat := by
        rw [extract_list, Int.toNat_natCast]
        congr 1
        omega
      have hsz : (((s.extract (m : Int).toNat ((m : Int) + (rd0 s a).1).toNat).size : Nat) : Int) = (rd0 s a).1 := by
        have := congrArg List.length hz
        rw [len_eq, List.length_take, List.length_drop, len_eq] at this
        omega
      refine ⟨m + (rd0 s a).1.toNat, by show (m : Int) + (rd0 s a).1 = _; omega, by omega, ?_⟩
      show _ = (txt (s.extract (m : Int).toNat ((m : Int) + (rd0 s a).1).toNat)).data.toList ++ _
      rw [txt_list, hsz, hz, g4, List.append_assoc]
      congr 1
      rw [← List.drop_drop, List.take_append_drop]
  · rw [if_neg h0] at h
    exact absurd h h0
def flat : List Held → List UInt8
  | [] => []
  | y :: l => (txt y.f0).data.toList ++ ((txt y.f1).data.toList ++ ((txt y.f2).data.toList ++ ((num y.f3).data.toList ++ flat l)))
theorem enc_list : ∀ (l : List Held) (x : ByteArray), (enc x l).data.toList = x.data.toList ++ flat l
  | [], x => by simp [enc, flat]
  | y :: l, x => by
    rw [enc, enc_list l, flat, ent]
    simp only [ByteArray.data_append, Array.toList_append, List.append_assoc]
theorem xt_back (s t : ByteArray) (a : Nat) (most : Int) (rest : List UInt8) (ht : t.size ≤ 1048576) (hm : (t.size : Int) ≤ most) (h : s.data.toList.drop a = (txt t).data.toList ++ rest) : xt s a 0 most = (t, ((a + (txt t).size : Nat) : Int), 0) := by
  unfold xt
  rw [rt_back s t a rest ht h, if_pos rfl, if_pos rfl, if_neg (by show ¬ ((t.size : Int) > most); omega)]
theorem xn_back (s : ByteArray) (a : Nat) (n most : Int) (rest : List UInt8) (h0 : 0 ≤ n) (h1 : n ≤ 18446744073709551615) (hm : n ≤ most) (h : s.data.toList.drop a = (num n).data.toList ++ rest) : xn s a 0 most = (n, ((a + (num n).size : Nat) : Int), 0) := by
  unfold xn
  rw [rd0_back s a n rest h0 h1 h, if_pos rfl, if_pos rfl, if_neg (by show ¬ (n > most); omega)]
theorem size_le (s : ByteArray) (a : Nat) (p q : List UInt8) (hp : 0 < p.length) (h : s.data.toList.drop a = p ++ q) : a + p.length ≤ s.size := by
  have := congrArg List.length h
  rw [List.length_drop, List.length_append, len_eq] at this
  omega
theorem num_pos (n : Int) : 0 < (num n).data.toList.length := by
  rw [len_eq, show (num n).size = (nl 9 n).length from strOfNums_size _, nl]
  split <;> simp
theorem txt_pos (t : ByteArray) : 0 < (txt t).data.toList.length := by
  rw [txt_list, List.length_append]
  have := num_pos (t.size : Int)
  omega
theorem back_l (s : ByteArray) (hs : s.size ≤ 1048576) (l : List Held) (hl : tableOk l = true) : ∀ (m i : Nat) (k : Nat) (c : Int) (a : Nat), (c : Int) = (l.length : Int) → i + m = l.length → a ≤ s.size → s.data.toList.drop a = flat (l.drop i) → 6291470 + m ≤ k →
    token_Decode.l0 k (l.take i) c (i : Int) s (a : Int) 0 = some (l, 0) := by
  have hlen := len_of hl
  have hsm : Small l := ⟨by omega, fun y hy => by
    obtain ⟨j, hj, rfl⟩ := List.getElem_of_mem hy
    have := fine_of (one_of hl j hj)
    rw [rd_get' hj] at this
    exact ⟨by have := this.1; omega, by have := this.2.1; omega⟩⟩
  intro m
  induction m with
  | zero =>
    intro i k c a hc hi ha hd hk
    obtain ⟨k, rfl⟩ : ∃ j, k = j + 1 := ⟨k - 1, by omega⟩
    rw [List.drop_of_length_le (show l.length ≤ i by omega)] at hd
    have hae : ¬ (a : Int) < (s.size : Int) := by
      have := congrArg List.length hd
      rw [List.length_drop, len_eq] at this
      simp [flat] at this
      omega
    rw [token_Decode.l0, if_neg (by omega)]
    unfold octet_Reader_End.f
    rw [if_pos rfl, if_neg hae, Option.bind_some, if_pos rfl, List.take_of_length_le (by omega), right_eq l hsm k (by omega), hl, Option.bind_some, if_pos rfl]
  | succ m ih =>
    intro i k c a hc hi ha hd hk
    obtain ⟨k, rfl⟩ : ∃ j, k = j + 1 := ⟨k - 1, by omega⟩
    have hdl : l.drop i = rd l i :: l.drop (i + 1) := by rw [rd_get' (show i < l.length by omega)]; exact List.drop_eq_getElem_cons (by omega)
    obtain ⟨f0, f1, f2, f3, f4⟩ := fine_of (one_of hl i (by omega))
    rw [hdl, flat] at hd
    have l1 := size_le s a _ _ (txt_pos _) hd
    have d1 := drop_add s a _ _ hd
    have l2 := size_le s _ _ _ (txt_pos _) d1
    have d2 := drop_add s _ _ _ d1
    have l3 := size_le s _ _ _ (txt_pos _) d2
    have d3 := drop_add s _ _ _ d2
    have l4 := size_le s _ _ _ (num_pos _) d3
    have d4 := drop_add s _ _ _ d3
    rw [len_eq] at l1 d1 l2 d2 l3 d3 l4 d4
    rw [len_eq] at l2 d2 l3 d3 l4 d4
    rw [len_eq] at l3 d3 l4 d4
    rw [len_eq] at l4 d4
    rw [token_Decode.l0, if_pos (by omega), oct_RText s a hs ha 0 64 k (by omega), xt_back s (rd l i).f0 a 64 _ (by omega) (by omega) hd]
    simp only [Option.bind_some]
    rw [oct_RText s _ hs l1 0 64 k (by omega), xt_back s (rd l i).f1 _ 64 _ (by omega) (by omega) d1]
    simp only [Option.bind_some]
    rw [oct_RText s _ hs l2 0 4096 k (by omega), xt_back s (rd l i).f2 _ 4096 _ (by omega) (by omega) d2]
    simp only [Option.bind_some]
    rw [oct_RInt s _ hs l3 0 1099511627776 (by omega) (by omega) k (by omega), xn_back s _ (rd l i).f3 1099511627776 _ (by omega) (by omega) (by omega) d3]
    simp only [Option.bind_some]
    rw [if_pos (by rw [List.length_take]; omega), IntWalk.wrap64_in ((i : Int) + 1) (by omega), show ((i : Int) + 1) = ((i + 1 : Nat) : Int) by omega]
    have ht : l.take (i + 1) = l.take i ++ [rd l i] := by rw [List.take_add_one, rd_eq (l := l) (i := i) (by omega)]; rfl
    have := ih (i + 1) k c _ hc (by omega) l4 d4 (by omega)
    rw [ht] at this
    exact this
theorem xn_e (s : ByteArray) (a : Nat) (e most : Int) (h : (xn s a e most).2.2 = 0) : e = 0 ∧ ∃ m : Nat, (xn s a e most).2.1 = (m : Int) ∧ m ≤ s.size ∧ s.data.toList.drop a = (num (xn s a e most).1).data.toList ++ s.data.toList.drop m := by
  unfold xn at h ⊢
  by_cases he : e = 0
  · rw [if_pos he] at h ⊢
    by_cases h0 : (rd0 s a).2.2 = 0
    · rw [if_pos h0] at h ⊢
      by_cases hm : (rd0 s a).1 > most
      · rw [if_pos hm] at h; simp at h
      · rw [if_neg hm]
        obtain ⟨m, g1, g2, g3, g4⟩ := rd0_only s a h0
        exact ⟨he, m, g1, g2, g4⟩
    · rw [if_neg h0] at h; exact absurd h h0
  · rw [if_neg he] at h; exact absurd h he
theorem xt_e (s : ByteArray) (a : Nat) (e most : Int) (h : (xt s a e most).2.2 = 0) : e = 0 ∧ ∃ m : Nat, (xt s a e most).2.1 = (m : Int) ∧ m ≤ s.size ∧ s.data.toList.drop a = (txt (xt s a e most).1).data.toList ++ s.data.toList.drop m := by
  unfold xt at h ⊢
  by_cases he : e = 0
  · rw [if_pos he] at h ⊢
    by_cases h0 : (rt s a).2.2 = 0
    · rw [if_pos h0] at h ⊢
      by_cases hm : ((rt s a).1.size : Int) > most
      · rw [if_pos hm] at h; simp at h
      · rw [if_neg hm]
        obtain ⟨m, g1, g2, g4⟩ := rt_only s a h0
        exact ⟨he, m, g1, g2, g4⟩
    · rw [if_neg h0] at h; exact absurd h h0
  · rw [if_neg he] at h; exact absurd h he
theorem only_l (s : ByteArray) (hs : s.size ≤ 1048576) : ∀ (m i : Nat) (k : Nat) (c : Int) (x : List Held) (a : Nat) (e : Int), (c : Int) = ((i + m : Nat) : Int) → i + m ≤ 64 → x.length = i → a ≤ s.size → (∀ y ∈ x, y.f0.size ≤ 1048576 ∧ y.f1.size ≤ 1048576) → 6291470 + m ≤ k →
    token_Decode.l0 k x c (i : Int) s (a : Int) e = some ([], 3) ∨ (e = 0 ∧ ∃ rest : List Held, rest.length = m ∧ tableOk (x ++ rest) = true ∧ s.data.toList.drop a = flat rest ∧ token_Decode.l0 k x c (i : Int) s (a : Int) e = some (x ++ rest, 0)) := by
  intro m
  induction m with
  | zero =>
    intro i k c x a e hc hi hx ha hy hk
    obtain ⟨k, rfl⟩ : ∃ j, k = j + 1 := ⟨k - 1, by omega⟩
    have hsm : Small x := ⟨by omega, hy⟩
    rw [token_Decode.l0, if_neg (by omega)]
    unfold octet_Reader_End.f
    by_cases he : e = 0
    · rw [if_pos he]
      by_cases hl : (a : Int) < (s.size : Int)
      · rw [if_pos hl, Option.bind_some, if_neg (by simp)]
        exact .inl rfl
      · rw [if_neg hl, Option.bind_some, if_pos rfl, right_eq x hsm k (by omega), Option.bind_some]
        cases ht : tableOk x with
        | false => exact .inl (by rw [if_neg (by simp)])
        | true =>
          refine .inr ⟨he, [], rfl, by rw [List.append_nil]; exact ht, ?_, by rw [if_pos rfl, List.append_nil]⟩
          rw [List.drop_of_length_le (by rw [len_eq]; omega)]
          rfl
    · rw [if_neg he, Option.bind_some, if_neg (by exact he)]
      exact .inl rfl
  | succ m ih =>
    intro i k c x a e hc hi hx ha hy hk
    obtain ⟨k, rfl⟩ : ∃ j, k = j + 1 := ⟨k - 1, by omega⟩
    obtain ⟨z1, a1, e1, l1, l2⟩ := xt_at s a ha e 64 (by omega)
    obtain ⟨z2, a2, e2, l3, l4⟩ := xt_at s a1 l2 (xt s a e 64).2.2 64 (by omega)
    obtain ⟨z3, a3, e3, l5, l6⟩ := xt_at s a2 l4 (xt s a1 (xt s a e 64).2.2 64).2.2 4096 (by omega)
    obtain ⟨_, _, a4, e4, l7, l8⟩ := xn_at s a3 l6 (xt s a2 (xt s a1 (xt s a e 64).2.2 64).2.2 4096).2.2 1099511627776 (by omega)
    rw [token_Decode.l0, if_pos (by omega)]
    rw [oct_RText s a hs ha e 64 k (by omega)]
    simp only [Option.bind_some]
    rw [e1, oct_RText s a1 hs l2 _ 64 k (by omega)]
    simp only [Option.bind_some]
    rw [e2, oct_RText s a2 hs l4 _ 4096 k (by omega)]
    simp only [Option.bind_some]
    rw [e3, oct_RInt s a3 hs l6 _ 1099511627776 (by omega) (by omega) k (by omega)]
    simp only [Option.bind_some]
    rw [e4, if_pos (by omega), IntWalk.wrap64_in ((i : Int) + 1) (by omega), show ((i : Int) + 1) = ((i + 1 : Nat) : Int) by omega]
    rcases ih (i + 1) k c (x ++ [⟨(xt s a e 64).1, (xt s a1 (xt s a e 64).2.2 64).1, (xt s a2 (xt s a1 (xt s a e 64).2.2 64).2.2 4096).1, (xn s a3 (xt s a2 (xt s a1 (xt s a e 64).2.2 64).2.2 4096).2.2 1099511627776).1⟩]) a4 (xn s a3 (xt s a2 (xt s a1 (xt s a e 64).2.2 64).2.2 4096).2.2 1099511627776).2.2 (by omega) (by omega) (by simp; omega) l8 (fun y hy2 => by
      rcases List.mem_append.1 hy2 with h | h
      · exact hy y h
      · obtain rfl := List.mem_singleton.1 h
        refine ⟨?_, ?_⟩
        · show (xt s a e 64).1.size ≤ _; omega
        · show (xt s a1 (xt s a e 64).2.2 64).1.size ≤ _; omega) (by omega) with h | ⟨he4, rest, r1, r2, r3, r4⟩
    · exact .inl h
    · obtain ⟨he3, m4, g4, _, b4⟩ := xn_e s a3 _ _ he4
      obtain ⟨he2, m3, g3, _, b3⟩ := xt_e s a2 _ _ he3
      obtain ⟨he1, m2, g2, _, b2⟩ := xt_e s a1 _ _ he2
      obtain ⟨he0, m1, g1, _, b1⟩ := xt_e s a _ _ he1
      obtain rfl : m1 = a1 := by omega
      obtain rfl : m2 = a2 := by omega
      obtain rfl : m3 = a3 := by omega
      obtain rfl : m4 = a4 := by omega
      refine .inr ⟨he0, (⟨(xt s a e 64).1, (xt s m1 (xt s a e 64).2.2 64).1, (xt s m2 (xt s m1 (xt s a e 64).2.2 64).2.2 4096).1, (xn s m3 (xt s m2 (xt s m1 (xt s a e 64).2.2 64).2.2 4096).2.2 1099511627776).1⟩ : Held) :: rest, by rw [List.length_cons, r1], by rw [List.append_assoc] at r2; exact r2, ?_, by rw [List.append_assoc] at r4; exact r4⟩
      rw [b1, b2, b3, b4, r3]
      rfl
theorem decode_only (s : ByteArray) (hs : s.size ≤ 1048576) (k : Nat) (hk : 6291540 ≤ k) : token_Decode.f k s = some ([], 3) ∨ ∃ l : List Held, tableOk l = true ∧ enc (num (l.length : Int)) l = s ∧ token_Decode.f k s = some (l, 0) := by
  unfold token_Decode.f octet_NewReader.f
  obtain ⟨h1, h2, a1, e1, l1, l2⟩ := xn_at s 0 (Nat.zero_le _) 0 64 (by omega)
  have g1 : octet_Reader_Int.f k s 0 0 64 = some ((xn s 0 0 64).1, s, (xn s 0 0 64).2.1, (xn s 0 0 64).2.2) := oct_RInt s 0 hs (Nat.zero_le _) 0 64 (by omega) (by omega) k (by omega)
  simp only [Option.bind_some]
  rw [g1]
  simp only [Option.bind_some]
  rw [e1]
  rcases only_l s hs (xn s 0 0 64).1.toNat 0 k (xn s 0 0 64).1 [] a1 (xn s 0 0 64).2.2 (by omega) (by omega) rfl l2 (fun y hy => by cases hy) (by omega) with h | ⟨he, rest, r1, r2, r3, r4⟩
  · exact .inl h
  · refine .inr ⟨rest, r2, ?_, r4⟩
    obtain ⟨_, m, q1, _, q2⟩ := xn_e s 0 0 64 he
    obtain rfl : m = a1 := by omega
    apply ByteArray.ext
    apply Array.ext'
    rw [enc_list, ← r3, show (rest.length : Int) = (xn s 0 0 64).1 by omega, ← q2, List.drop_zero]
theorem decode_back (l : List Held) (hl : tableOk l = true) (hs : (enc (num (l.length : Int)) l).size ≤ 1048576) (k : Nat) (hk : 6291540 ≤ k) : token_Decode.f k (enc (num (l.length : Int)) l) = some (l, 0) := by
  have hlen := len_of hl
  unfold token_Decode.f octet_NewReader.f
  obtain ⟨s, hsd⟩ : ∃ s, enc (num (l.length : Int)) l = s := ⟨_, rfl⟩
  have hd : s.data.toList.drop 0 = (num (l.length : Int)).data.toList ++ flat l := by rw [List.drop_zero, ← hsd, enc_list]
  rw [hsd] at hs ⊢
  have g1 : octet_Reader_Int.f k s 0 0 64 = some ((xn s 0 0 64).1, s, (xn s 0 0 64).2.1, (xn s 0 0 64).2.2) := oct_RInt s 0 hs (Nat.zero_le _) 0 64 (by omega) (by omega) k (by omega)
  have g2 := xn_back s 0 (l.length : Int) 64 _ (by omega) (by omega) (by omega) hd
  have d1 := drop_add s 0 _ _ hd
  have l1 := size_le s 0 _ _ (num_pos _) hd
  rw [len_eq] at d1 l1
  simp only [Option.bind_some]
  rw [g1, g2]
  simp only [Option.bind_some]
  exact back_l s hs l hl l.length 0 k _ _ rfl (by omega) l1 d1 (by omega)
theorem enc_size : ∀ (l : List Held) (x : ByteArray), (∀ y ∈ l, Fine y) → (enc x l).size ≤ x.size + l.length * 5000
  | [], x, _ => by simp [enc]
  | y :: l, x, h => by
    obtain ⟨f0, f1, f2, f3, f4⟩ := h y (by simp)
    have s0 := txt_size y.f0
    have s1 := txt_size y.f1
    have s2 := txt_size y.f2
    have s3 := num_size y.f3
    have := enc_size l (x ++ ent y) (fun z hz => h z (by simp [hz]))
    rw [enc]
    unfold ent at this ⊢
    simp only [ByteArray.size_append, List.length_cons] at this ⊢
    omega
theorem back_j0 (s : ByteArray) (hs : s.size ≤ 1048576) (k : Nat) (hk : 6291541 ≤ k) : stowagelaw15_TokenBack.j0 k s = some true := by
  obtain ⟨k, rfl⟩ : ∃ j, k = j + 1 := ⟨k - 1, by omega⟩
  rw [stowagelaw15_TokenBack.j0]
  rcases decode_only s hs k (by omega) with h | ⟨l, h1, h2, h3⟩
  · rw [h, Option.bind_some, if_neg (by simp), awake_at k (by omega), Option.bind_some, if_pos rfl]
    rfl
  · have hsm : Small l := ⟨by have := len_of h1; omega, fun y hy => by
      obtain ⟨j, hj, rfl⟩ := List.getElem_of_mem hy
      have := fine_of (one_of h1 j hj)
      rw [rd_get' hj] at this
      exact ⟨by have := this.1; omega, by have := this.2.1; omega⟩⟩
    rw [h3, Option.bind_some, if_pos rfl, tencode_eq l hsm k (by omega), h1, if_pos rfl, Option.bind_some, awake_at k (by omega), Option.bind_some, if_pos rfl, if_pos rfl, h2]
    simp
theorem TokenBack_true (l : List Held) (s : ByteArray) (hl : Small l) (hs : s.size ≤ 1048576) : ∃ k, stowagelaw15_TokenBack.f k l s = some true := by
  refine ⟨6291550, ?_⟩
  unfold stowagelaw15_TokenBack.f
  rw [tencode_eq l hl 6291550 (by omega)]
  cases ht : tableOk l with
  | false =>
    rw [if_neg (by simp), Option.bind_some, if_neg (by decide)]
    exact back_j0 s hs _ (by omega)
  | true =>
    have hlen := len_of ht
    have hf : ∀ y ∈ l, Fine y := fun y hy => by
      obtain ⟨j, hj, rfl⟩ := List.getElem_of_mem hy
      have := fine_of (one_of ht j hj)
      rwa [rd_get' hj] at this
    have hsz := enc_size l (num (l.length : Int)) hf
    have hn := num_size (l.length : Int)
    rw [if_pos rfl, Option.bind_some, if_pos rfl, decode_back l ht (by omega) 6291550 (by omega), Option.bind_some, if_pos rfl, refs_eq l hl.1 6291550 (by omega), Option.bind_some, Option.bind_some, same_eq _ (by rw [List.length_map]; omega) 6291550 (by omega), Option.bind_some, if_pos rfl]
    exact back_j0 s hs _ (by omega)
end Go.Proofs.YtekfemiomdpahaaDoor.Pure
