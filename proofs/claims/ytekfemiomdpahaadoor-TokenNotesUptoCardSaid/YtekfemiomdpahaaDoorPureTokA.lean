/- Layer 15, the plain side: which tokens and sums may be: the program's tests and the reference's. No program in sight. -/
import Derived.IntWalk
import Derived.Test.YtekfemiomdpahaaDoorHx8
import Derived.Test.YtekfemiomdpahaaDoorHx4
namespace Go.Proofs.YtekfemiomdpahaaDoor.Pure
open Go.RowKit Go.Proofs.YtekfemiomdpahaaDoor.Hx Go.Proofs.YtekfemiomdpahaaDoorW.PrintWords Go.Proofs.YtekfemiomdpahaaDoorW.PrintLast Go.Proofs.YtekfemiomdpahaaDoorW.PrintMore
set_option linter.unusedVariables false
set_option linter.unusedSimpArgs false
def tokC (c : UInt8) : Bool := decide (33 ≤ c.toNat) && decide (c.toNat ≤ 126)
def hexC (c : UInt8) : Bool := (decide (48 ≤ c.toNat) && decide (c.toNat ≤ 57)) || (decide (97 ≤ c.toNat) && decide (c.toNat ≤ 102))
def tokOk (a : ByteArray) : Bool := a.data.toList.all tokC && (decide (1 ≤ a.size) && decide (a.size ≤ 64))
def hexOk (a : ByteArray) : Bool := a.data.toList.all hexC && decide (a.size = 64)
theorem len_eq (a : ByteArray) : a.data.toList.length = a.size := Array.length_toList (xs := a.data)
theorem bt_get (a : ByteArray) (i : Nat) (h : i < a.size) : ∃ c, a.data.toList.drop i = c :: a.data.toList.drop (i + 1) ∧ bt a (i : Int) = (c.toNat : Int) := by
  have hl : i < a.data.toList.length := by rw [len_eq]; exact h
  refine ⟨a.data.toList[i], List.drop_eq_getElem_cons hl, ?_⟩
  unfold bt
  rw [dif_pos (by rw [Int.toNat_natCast]; exact h)]
  simp only [Int.toNat_natCast, Array.getElem_toList]
  rfl
theorem toList_nil (a : ByteArray) : a.toList = ([] : List UInt8) ↔ a.size = 0 := by
  rw [ByteArray.toList_eq, ← len_eq, List.length_eq_zero_iff]
theorem names_tok (a : ByteArray) (hs : a.size ≤ 1048576) : ∀ n i k, i + n = a.size → n < k → names_Token.l0 k a (a.size : Int) (i : Int) = some ((a.data.toList.drop i).all tokC && (decide (1 ≤ a.size) && decide (a.size ≤ 64))) := by
  intro n
  induction n with
  | zero =>
    intro i k hi hk
    obtain ⟨k, rfl⟩ : ∃ j, k = j + 1 := ⟨k - 1, by omega⟩
    rw [names_Token.l0, if_neg (by omega), List.drop_of_length_le (by rw [len_eq]; omega)]
    by_cases h0 : a.size = 0
    · rw [if_pos ((toList_nil a).2 h0)]; simp [h0]
    · rw [if_neg (fun h => h0 ((toList_nil a).1 h))]
      have h1 : decide (1 ≤ a.size) = true := decide_eq_true (by omega)
      rw [h1]
      simp only [List.all_nil, Bool.true_and]
      congr 1
      exact decide_eq_decide.2 (by omega)
  | succ n ih =>
    intro i k hi hk
    obtain ⟨k, rfl⟩ : ∃ j, k = j + 1 := ⟨k - 1, by omega⟩
    obtain ⟨c, hd, hb⟩ := bt_get a i (by omega)
    rw [names_Token.l0, if_pos (by omega), if_pos (by omega), if_pos (by omega), hb, hd, List.all_cons]
    by_cases h1 : (c.toNat : Int) < 33
    · rw [if_pos h1]; simp [tokC, show ¬ 33 ≤ c.toNat by omega]
    · rw [if_neg h1]
      by_cases h2 : (c.toNat : Int) > 126
      · rw [if_pos h2]; simp [tokC, show ¬ c.toNat ≤ 126 by omega]
      · rw [if_neg h2, IntWalk.wrap64_in _ (by omega), show ((i : Int) + 1) = ((i + 1 : Nat) : Int) by omega, ih (i + 1) k (by omega) (by omega)]
        have h3 : tokC c = true := by simp [tokC]; omega
        rw [h3, Bool.true_and]
theorem names_Token_eq (a : ByteArray) (hs : a.size ≤ 1048576) (k : Nat) (hk : 1048577 ≤ k) : names_Token.f k a = some (tokOk a) :=
  names_tok a hs a.size 0 k (by omega) (by omega)
theorem ref_tok (a : ByteArray) (hs : a.size ≤ 1048576) : ∀ n i k, i + n = a.size → n < k → stowageref12_Token.l0 k a (i : Int) = some ((a.data.toList.drop i).all tokC && (decide (1 ≤ a.size) && decide (a.size ≤ 64))) := by
  intro n
  induction n with
  | zero =>
    intro i k hi hk
    obtain ⟨k, rfl⟩ : ∃ j, k = j + 1 := ⟨k - 1, by omega⟩
    rw [stowageref12_Token.l0, if_neg (by omega), List.drop_of_length_le (by rw [len_eq]; omega)]
    by_cases h0 : a.size = 0
    · rw [if_neg (by omega)]; simp [h0]
    · rw [if_pos (by omega)]
      have h1 : decide (1 ≤ a.size) = true := decide_eq_true (by omega)
      rw [h1]
      simp only [List.all_nil, Bool.true_and]
      congr 1
      exact decide_eq_decide.2 (by omega)
  | succ n ih =>
    intro i k hi hk
    obtain ⟨k, rfl⟩ : ∃ j, k = j + 1 := ⟨k - 1, by omega⟩
    obtain ⟨c, hd, hb⟩ := bt_get a i (by omega)
    rw [stowageref12_Token.l0, if_pos (by omega), if_pos (by omega), hb, hd, List.all_cons]
    by_cases h1 : (c.toNat : Int) < 33
    · rw [if_pos h1]; simp [tokC, show ¬ 33 ≤ c.toNat by omega]
    · rw [if_neg h1]
      by_cases h2 : (c.toNat : Int) > 126
      · rw [if_pos h2]; simp [tokC, show ¬ c.toNat ≤ 126 by omega]
      · rw [if_neg h2, IntWalk.wrap64_in _ (by omega), show ((i : Int) + 1) = ((i + 1 : Nat) : Int) by omega, ih (i + 1) k (by omega) (by omega)]
        have h3 : tokC c = true := by simp [tokC]; omega
        rw [h3, Bool.true_and]
theorem ref_Token_eq (a : ByteArray) (hs : a.size ≤ 1048576) (k : Nat) (hk : 1048577 ≤ k) : stowageref12_Token.f k a = some (tokOk a) :=
  ref_tok a hs a.size 0 k (by omega) (by omega)
/-! ### Sums -/
theorem dropWhile_nil {α : Type} (p : α → Bool) : ∀ l : List α, l.dropWhile p = [] ↔ l.all p = true
  | [] => by simp
  | a :: l => by
    rw [List.dropWhile_cons, List.all_cons]
    cases h : p a
    · simp
    · simp [dropWhile_nil p l]
theorem trimS_nil (l cs : List UInt8) : Lib.trimS l cs = [] ↔ l.all (cs.contains ·) = true := by
  unfold Lib.trimS Lib.trimLeftS Lib.trimRightS
  rw [dropWhile_nil, List.all_reverse]
  constructor
  · intro h
    have h2 : l.reverse.dropWhile (cs.contains ·) = [] := by
      cases hd : l.reverse.dropWhile (cs.contains ·) with
      | nil => rfl
      | cons x t =>
        have h3 := List.head?_dropWhile_not (cs.contains ·) l.reverse
        rw [hd] at h3 h
        simp only [List.head?_cons] at h3
        rw [List.all_cons] at h
        simp only [Bool.and_eq_true] at h
        exact absurd h.1 (by simpa using h3)
    rw [dropWhile_nil, List.all_reverse] at h2
    exact h2
  · intro h
    have h2 : l.reverse.dropWhile (cs.contains ·) = [] := by rw [dropWhile_nil, List.all_reverse]; exact h
    rw [h2]; rfl
theorem hex_byte (c : UInt8) : (strings_Trim_hex.data.toList.contains c) = hexC c := by
  have h : ∀ n, n < 256 → (strings_Trim_hex.data.toList.contains (UInt8.ofNat n)) = hexC (UInt8.ofNat n) := by decide +kernel
  have h2 := h c.toNat (UInt8.toNat_lt c)
  rwa [UInt8.ofNat_toNat] at h2
theorem trim_eq (b : ByteArray) (hs : b.size ≤ 1048576) : ∃ r, strings_Trim.f b (⟨#[48, 49, 50, 51, 52, 53, 54, 55, 56, 57, 97, 98, 99, 100, 101, 102]⟩ : ByteArray) = some r ∧ (r.toList = ([] : List UInt8) ↔ b.data.toList.all hexC = true) := by
  refine ⟨⟨(Lib.trimS b.data.toList strings_Trim_hex.data.toList).toArray⟩, ?_, ?_⟩
  · unfold strings_Trim.f
    rw [if_pos ⟨by omega, rfl⟩]
  · rw [ByteArray.toList_eq]
    show (Lib.trimS b.data.toList strings_Trim_hex.data.toList) = [] ↔ _
    rw [trimS_nil]
    have : (fun x => strings_Trim_hex.data.toList.contains x) = hexC := funext hex_byte
    rw [this]
theorem may_eq (a b c : ByteArray) (d : Int) (ha : a.size ≤ 1048576) (hb : b.size ≤ 1048576) (k : Nat) (hk : 1048577 ≤ k) :
    token_may.f k a b c d = some (tokOk a && (hexOk b && (decide (c.size ≤ 4096) && (decide (1 ≤ d) && decide (d ≤ 1099511627776))))) := by
  unfold token_may.f
  rw [names_Token_eq a ha k hk, Option.bind_some]
  cases tokOk a with
  | false => rw [if_neg (by simp)]; rfl
  | true =>
    rw [if_pos rfl, Bool.true_and]
    unfold hexOk
    by_cases h1 : b.size = 64
    · rw [if_pos (by omega)]
      obtain ⟨r, hr, hx⟩ := trim_eq b hb
      rw [hr, Option.bind_some]
      by_cases h2 : b.data.toList.all hexC = true
      · rw [if_pos (hx.2 h2), h2]
        by_cases h3 : c.size ≤ 4096
        · rw [if_pos (by omega)]
          by_cases h4 : 1 ≤ d
          · rw [if_pos h4]; simp [h1, h3, h4]
          · rw [if_neg h4]; simp [h4]
        · rw [if_neg (by omega)]; simp [h3]
      · rw [if_neg (fun h => h2 (hx.1 h))]
        have h2' : b.data.toList.all hexC = false := by simpa using h2
        rw [h2']; rfl
    · rw [if_neg (by omega)]; simp [h1]
theorem unhex_step (b : ByteArray) (x4 : List Int) (x5 : Int) (i k : Nat) (hi : i < b.size) (hs : b.size ≤ 1048576) (h4 : x4.length ≤ i) (c : UInt8) (hc : bt b (i : Int) = (c.toNat : Int)) :
    (hexC c = false ∧ ∃ s, stowageref03_Unhex.l0 (k + 5) b x4 x5 (i : Int) = some (s, 3)) ∨ (hexC c = true ∧ ∃ y4 y5, y4.length ≤ i + 1 ∧ stowageref03_Unhex.l0 (k + 5) b x4 x5 (i : Int) = stowageref03_Unhex.l0 k b y4 y5 ((i + 1 : Nat) : Int)) := by
  have hc8 := UInt8.toNat_lt c
  have fin : ∀ x7 : Int, 0 ≤ x7 → ∃ y4 y5, y4.length ≤ i + 1 ∧ stowageref03_Unhex.j4 (k + 1) b x4 x5 (i : Int) x7 = stowageref03_Unhex.l0 k b y4 y5 ((i + 1 : Nat) : Int) := by
    intro x7 h7
    rw [stowageref03_Unhex.j4, if_neg (by omega), IntWalk.wrap64_in ((i : Int) + 1) (by omega), show ((i : Int) + 1) = ((i + 1 : Nat) : Int) by omega]
    by_cases hm : Int.tmod (i : Int) 2 = 1
    · rw [if_pos hm, if_pos (by omega)]
      exact ⟨_, _, by simp; omega, rfl⟩
    · rw [if_neg hm]
      exact ⟨_, _, by omega, rfl⟩
  rw [stowageref03_Unhex.l0, if_pos (by omega), if_pos (by omega), hc]
  by_cases h1 : (c.toNat : Int) ≥ 48
  · rw [if_pos h1]
    by_cases h2 : (c.toNat : Int) ≤ 57
    · refine .inr ⟨by simp [hexC]; omega, ?_⟩
      rw [show decide ((c.toNat : Int) ≤ 57) = true from decide_eq_true h2, stowageref03_Unhex.j1, if_pos rfl, if_pos (by omega), if_pos (by omega), hc, IntWalk.wrap64_in (c.toNat : Int) (by omega), IntWalk.wrap64_in _ (by omega), stowageref03_Unhex.j2, if_pos (by omega), if_pos (by omega), hc, if_neg (by omega), stowageref03_Unhex.j3, if_neg (by simp)]
      exact fin _ (by omega)
    · rw [show decide ((c.toNat : Int) ≤ 57) = false from decide_eq_false h2, stowageref03_Unhex.j1, if_neg (by simp), stowageref03_Unhex.j2, if_pos (by omega), if_pos (by omega), hc]
      by_cases h3 : (c.toNat : Int) ≥ 97
      · rw [if_pos h3]
        by_cases h4 : (c.toNat : Int) ≤ 102
        · refine .inr ⟨by simp [hexC]; omega, ?_⟩
          rw [show decide ((c.toNat : Int) ≤ 102) = true from decide_eq_true h4, stowageref03_Unhex.j3, if_pos rfl, if_pos (by omega), if_pos (by omega), hc, IntWalk.wrap64_in (c.toNat : Int) (by omega), IntWalk.wrap64_in _ (by omega)]
          exact fin _ (by omega)
        · refine .inl ⟨by simp [hexC]; omega, ?_⟩
          rw [show decide ((c.toNat : Int) ≤ 102) = false from decide_eq_false h4, stowageref03_Unhex.j3, if_neg (by simp), stowageref03_Unhex.j4, if_pos (by omega)]
          exact ⟨_, rfl⟩
      · refine .inl ⟨by simp [hexC]; omega, ?_⟩
        rw [if_neg h3, stowageref03_Unhex.j3, if_neg (by simp), stowageref03_Unhex.j4, if_pos (by omega)]
        exact ⟨_, rfl⟩
  · refine .inl ⟨by simp [hexC]; omega, ?_⟩
    rw [if_neg h1, stowageref03_Unhex.j1, if_neg (by simp), stowageref03_Unhex.j2, if_pos (by omega), if_pos (by omega), hc, if_neg (by omega), stowageref03_Unhex.j3, if_neg (by simp), stowageref03_Unhex.j4, if_pos (by omega)]
    exact ⟨_, rfl⟩
theorem unhex_eq (b : ByteArray) (hs : b.size ≤ 1048576) : ∀ n i k x4 x5, i + n = b.size → 5 * n < k → x4.length ≤ i → ∃ s e, stowageref03_Unhex.l0 k b x4 x5 (i : Int) = some (s, e) ∧ (e = 0 ↔ (b.data.toList.drop i).all hexC = true) := by
  intro n
  induction n with
  | zero =>
    intro i k x4 x5 hi hk h4
    obtain ⟨k, rfl⟩ : ∃ j, k = j + 1 := ⟨k - 1, by omega⟩
    rw [stowageref03_Unhex.l0, if_neg (by omega), List.drop_of_length_le (by rw [len_eq]; omega)]
    exact ⟨_, _, rfl, by simp⟩
  | succ n ih =>
    intro i k x4 x5 hi hk h4
    obtain ⟨k, rfl⟩ : ∃ j, k = j + 5 := ⟨k - 5, by omega⟩
    obtain ⟨c, hd, hb⟩ := bt_get b i (by omega)
    rw [hd, List.all_cons]
    rcases unhex_step b x4 x5 i k (by omega) hs h4 c hb with ⟨hx, s, he⟩ | ⟨hx, y4, y5, hy, he⟩
    · exact ⟨s, 3, he, by rw [hx]; simp⟩
    · rw [he, hx, Bool.true_and]
      exact ih (i + 1) k y4 y5 (by omega) (by omega) hy
theorem may06_eq (b : ByteArray) (hs : b.size ≤ 1048576) (k : Nat) (hk : 5242881 ≤ k) : stowageref06_May.f k b = some (hexOk b) := by
  unfold stowageref06_May.f stowageref03_Unhex.f hexOk
  by_cases hm : ((b.size : Int) % 2) = 0
  · rw [if_pos hm]
    obtain ⟨s, e, he, hx⟩ := unhex_eq b hs b.size 0 k [] 0 (by omega) (by omega) (by simp)
    rw [List.drop_zero] at hx
    have he' : stowageref03_Unhex.l0 k b [] 0 0 = some (s, e) := he
    rw [he', Option.bind_some]
    by_cases h0 : e = 0
    · rw [if_pos h0, hx.1 h0, Bool.true_and]
      congr 1
      rw [Bool.eq_iff_iff]
      simp; omega
    · rw [if_neg h0]
      have : b.data.toList.all hexC = false := by
        cases h : b.data.toList.all hexC
        · rfl
        · exact absurd (hx.2 h) h0
      rw [this]; rfl
  · rw [if_neg hm, Option.bind_some, if_neg (by decide)]
    have : decide (b.size = 64) = false := decide_eq_false (by omega)
    rw [this, Bool.and_false]
theorem one_eq (a b c : ByteArray) (d : Int) (ha : a.size ≤ 1048576) (hb : b.size ≤ 1048576) (k : Nat) (hk : 5242881 ≤ k) :
    stowageref15_One.f k a b c d = some (tokOk a && (hexOk b && (decide (c.size ≤ 4096) && (decide (1 ≤ d) && decide (d ≤ 1099511627776))))) := by
  unfold stowageref15_One.f
  rw [ref_Token_eq a ha k (by omega), Option.bind_some]
  cases tokOk a with
  | false => rw [if_neg (by simp)]; rfl
  | true =>
    rw [if_pos rfl, Bool.true_and, may06_eq b hb k hk, Option.bind_some]
    cases hexOk b with
    | false => rw [if_neg (by simp)]; rfl
    | true =>
      rw [if_pos rfl, Bool.true_and]
      by_cases h3 : c.size ≤ 4096
      · rw [if_pos (by omega)]
        by_cases h4 : 1 ≤ d
        · rw [if_pos h4]; simp [h3, h4]
        · rw [if_neg h4]; simp [h4]
      · rw [if_neg (by omega)]; simp [h3]
end Go.Proofs.YtekfemiomdpahaaDoor.Pure
