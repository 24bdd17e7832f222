/- Layer 12, the plain side: which texts may be names; the page's example. No program in sight. -/
import Derived.IntWalk
import Derived.Lib.IndexMore
import Derived.Test.YtapkojfodhdnaaaNamesSort
import Derived.Test.YtapkojfodhdnaaaNamesOrd
import Derived.Test.YtapkojfodhdnaaaHx11
namespace Go.Proofs.Ytapkojfodhdnaaa.Pure
open Go.RowKit Go.Proofs.Ytapkojfodhdnaaa.Hx Go.Proofs.YtapkojfodhdnaaaW.PrintWords Go.Proofs.YtapkojfodhdnaaaW.PrintLast Go.Proofs.YtapkojfodhdnaaaW.PrintMore
set_option linter.unusedVariables false
set_option linter.unusedSimpArgs false
abbrev It := S38
def tokC (c : UInt8) : Bool := decide (33 ≤ c.toNat) && decide (c.toNat ≤ 126)
def tokOk (a : ByteArray) : Bool := a.data.toList.all tokC && (decide (1 ≤ a.size) && decide (a.size ≤ 64))
theorem len_eq (a : ByteArray) : a.data.toList.length = a.size := Array.length_toList (xs := a.data)
theorem bt_get (a : ByteArray) (i : Nat) (h : i < a.size) : ∃ c, a.data.toList.drop i = c :: a.data.toList.drop (i + 1) ∧ bt a (i : Int) = (c.toNat : Int) := by
  have hl : i < a.data.toList.length := by rw [len_eq]; exact h
  refine ⟨a.data.toList[i], List.drop_eq_getElem_cons hl, ?_⟩
  unfold bt
  rw [dif_pos (by rw [Int.toNat_natCast]; exact h)]
  simp only [Int.toNat_natCast, Array.getElem_toList]
  rfl
theorem toList_nil (a : ByteArray) : a.toList = ([] : List UInt8) ↔ a.size = 0 := by
  rw [ByteArray.toList_eq, ← len_eq, List.length_eq_zero_iff]
/-! ### Tokens -/
theorem names_tok (a : ByteArray) (hs : a.size ≤ 9223372036854775807) : ∀ n i k, i + n = a.size → n < k → names_Token.l0 k a (a.size : Int) (i : Int) = some ((a.data.toList.drop i).all tokC && (decide (1 ≤ a.size) && decide (a.size ≤ 64))) := by
  intro n
  induction n with
  | zero =>
    intro i k hi hk
    obtain ⟨k, rfl⟩ : ∃ j, k = j + 1 := ⟨k - 1, by omega⟩
    rw [names_Token.l0, if_neg (by omega), List.drop_of_length_le (by rw [len_eq]; omega)]
    by_cases h0 : a.size = 0
    · rw [if_pos ((toList_nil a).2 h0)]; simp [h0]
    · rw [if_neg (fun h => h0 ((toList_nil a).1 h))]
      have h1 : decide (1 ≤ a.size) = true := decide_eq_true (by omega)
      rw [h1]
      simp only [List.all_nil, Bool.true_and]
      congr 1
      exact decide_eq_decide.2 (by omega)
  | succ n ih =>
    intro i k hi hk
    obtain ⟨k, rfl⟩ : ∃ j, k = j + 1 := ⟨k - 1, by omega⟩
    obtain ⟨c, hd, hb⟩ := bt_get a i (by omega)
    rw [names_Token.l0, if_pos (by omega), if_pos (by omega), if_pos (by omega), hb, hd, List.all_cons]
    by_cases h1 : (c.toNat : Int) < 33
    · rw [if_pos h1]; simp [tokC, show ¬ 33 ≤ c.toNat by omega]
    · rw [if_neg h1]
      by_cases h2 : (c.toNat : Int) > 126
      · rw [if_pos h2]; simp [tokC, show ¬ c.toNat ≤ 126 by omega]
      · rw [if_neg h2, IntWalk.wrap64_in _ (by omega), show ((i : Int) + 1) = ((i + 1 : Nat) : Int) by omega, ih (i + 1) k (by omega) (by omega)]
        have h3 : tokC c = true := by simp [tokC]; omega
        rw [h3, Bool.true_and]
theorem names_Token_eq (a : ByteArray) (hs : a.size ≤ 9223372036854775807) (k : Nat) (hk : 9223372036854775808 ≤ k) : names_Token.f k a = some (tokOk a) :=
  names_tok a hs a.size 0 k (by omega) (by omega)
theorem ref_tok (a : ByteArray) (hs : a.size ≤ 9223372036854775807) : ∀ n i k, i + n = a.size → n < k → stowageref12_Token.l0 k a (i : Int) = some ((a.data.toList.drop i).all tokC && (decide (1 ≤ a.size) && decide (a.size ≤ 64))) := by
  intro n
  induction n with
  | zero =>
    intro i k hi hk
    obtain ⟨k, rfl⟩ : ∃ j, k = j + 1 := ⟨k - 1, by omega⟩
    rw [stowageref12_Token.l0, if_neg (by omega), List.drop_of_length_le (by rw [len_eq]; omega)]
    by_cases h0 : a.size = 0
    · rw [if_neg (by omega)]; simp [h0]
    · rw [if_pos (by omega)]
      have h1 : decide (1 ≤ a.size) = true := decide_eq_true (by omega)
      rw [h1]
      simp only [List.all_nil, Bool.true_and]
      congr 1
      exact decide_eq_decide.2 (by omega)
  | succ n ih =>
    intro i k hi hk
    obtain ⟨k, rfl⟩ : ∃ j, k = j + 1 := ⟨k - 1, by omega⟩
    obtain ⟨c, hd, hb⟩ := bt_get a i (by omega)
    rw [stowageref12_Token.l0, if_pos (by omega), if_pos (by omega), hb, hd, List.all_cons]
    by_cases h1 : (c.toNat : Int) < 33
    · rw [if_pos h1]; simp [tokC, show ¬ 33 ≤ c.toNat by omega]
    · rw [if_neg h1]
      by_cases h2 : (c.toNat : Int) > 126
      · rw [if_pos h2]; simp [tokC, show ¬ c.toNat ≤ 126 by omega]
      · rw [if_neg h2, IntWalk.wrap64_in _ (by omega), show ((i : Int) + 1) = ((i + 1 : Nat) : Int) by omega, ih (i + 1) k (by omega) (by omega)]
        have h3 : tokC c = true := by simp [tokC]; omega
        rw [h3, Bool.true_and]
theorem ref_Token_eq (a : ByteArray) (hs : a.size ≤ 9223372036854775807) (k : Nat) (hk : 9223372036854775808 ≤ k) : stowageref12_Token.f k a = some (tokOk a) :=
  ref_tok a hs a.size 0 k (by omega) (by omega)
/-! ### Keys -/
def keyOk (a : ByteArray) : Bool := a.data.toList.all (fun c => !(c == 0)) && (decide (1 ≤ a.size) && decide (a.size ≤ 1024))
theorem ref_key (a : ByteArray) (hs : a.size ≤ 9223372036854775807) : ∀ n i k, i + n = a.size → n < k → stowageref12_Key.l0 k a (i : Int) = some ((a.data.toList.drop i).all (fun c => !(c == 0)) && (decide (1 ≤ a.size) && decide (a.size ≤ 1024))) := by
  intro n
  induction n with
  | zero =>
    intro i k hi hk
    obtain ⟨k, rfl⟩ : ∃ j, k = j + 1 := ⟨k - 1, by omega⟩
    rw [stowageref12_Key.l0, if_neg (by omega), List.drop_of_length_le (by rw [len_eq]; omega)]
    by_cases h0 : a.size = 0
    · rw [if_neg (by omega)]; simp [h0]
    · rw [if_pos (by omega)]
      have h1 : decide (1 ≤ a.size) = true := decide_eq_true (by omega)
      rw [h1]
      simp only [List.all_nil, Bool.true_and]
      congr 1
      exact decide_eq_decide.2 (by omega)
  | succ n ih =>
    intro i k hi hk
    obtain ⟨k, rfl⟩ : ∃ j, k = j + 1 := ⟨k - 1, by omega⟩
    obtain ⟨c, hd, hb⟩ := bt_get a i (by omega)
    rw [stowageref12_Key.l0, if_pos (by omega), if_pos (by omega), hb, hd, List.all_cons]
    by_cases h1 : (c.toNat : Int) = 0
    · have hc : c = 0 := UInt8.toNat_inj.1 (by rw [show c.toNat = 0 by omega]; rfl)
      rw [if_pos h1, hc]; rfl
    · have hc : (c == 0) = false := beq_eq_false_iff_ne.2 (fun e => h1 (by rw [e]; rfl))
      rw [if_neg h1, IntWalk.wrap64_in _ (by omega), show ((i : Int) + 1) = ((i + 1 : Nat) : Int) by omega, ih (i + 1) k (by omega) (by omega), hc, Bool.not_false, Bool.true_and]
theorem ref_Key_eq (a : ByteArray) (hs : a.size ≤ 9223372036854775807) (k : Nat) (hk : 9223372036854775808 ≤ k) : stowageref12_Key.f k a = some (keyOk a) :=
  ref_key a hs a.size 0 k (by omega) (by omega)
theorem contains_cons (b : UInt8) (l sub : List UInt8) : Lib.contains (b :: l) sub = (sub.isPrefixOf (b :: l) || Lib.contains l sub) := by
  unfold Lib.contains
  rw [Lib.index]
  have hg := Lib.index_ge l sub
  cases h : sub.isPrefixOf (b :: l) with
  | true => simp
  | false =>
    simp only [Bool.false_eq_true, if_false, Bool.false_or]
    by_cases h1 : Lib.index l sub = -1
    · rw [h1]; decide
    · rw [if_neg (by simpa using h1)]
      exact decide_eq_decide.2 (by omega)
theorem contains_zero : ∀ l : List UInt8, Lib.contains l [0] = !(l.all fun c => !(c == 0))
  | [] => by decide
  | b :: l => by
    rw [contains_cons, contains_zero l, List.all_cons]
    have : List.isPrefixOf [0] (b :: l) = (b == 0) := by simp [List.isPrefixOf, eq_comm, Bool.beq_comm]
    rw [this]
    cases (b == 0) <;> simp
theorem names_Key_eq (a : ByteArray) (hs : a.size ≤ 9223372036854775807) : names_Key.f a = some (keyOk a) := by
  unfold names_Key.f keyOk
  by_cases h0 : a.size = 0
  · rw [if_pos ((toList_nil a).2 h0)]; simp [h0]
  · rw [if_neg (fun h => h0 ((toList_nil a).1 h))]
    have h1 : decide (1 ≤ a.size) = true := decide_eq_true (by omega)
    by_cases h2 : a.size ≤ 1024
    · rw [if_pos (by omega)]
      unfold strings_Contains.f
      rw [if_pos (by omega), Option.bind_some, show (⟨#[0]⟩ : ByteArray).data.toList = [0] from rfl, contains_zero, h1]
      simp [h2]
    · rw [if_neg (by omega)]; simp [h2]
/-! ### Buckets -/
def plainC (c : UInt8) : Bool := (decide (97 ≤ c.toNat) && decide (c.toNat ≤ 122)) || (decide (48 ≤ c.toNat) && decide (c.toNat ≤ 57))
def okC (c : UInt8) : Bool := plainC c || (c == 46 || c == 45)
def dd : List UInt8 → Bool
  | a :: b :: l => (a == 46 && b == 46) || dd (b :: l)
  | _ => false
def endOk : List UInt8 → Bool
  | [] => true
  | [c] => plainC c
  | _ :: b :: l => endOk (b :: l)
/-- What the document asks of a name's letters, one after the other; the letter before. -/
def R : Option UInt8 → List UInt8 → Bool
  | _, [] => true
  | p, c :: l => (plainC c || ((c == 45 || c == 46) && (p.isSome && (!l.isEmpty && !(c == 46 && p == some 46))))) && R (some c) l
theorem plain_ne (c : UInt8) (h : plainC c = true) : (c == 46) = false ∧ (c == 45) = false := by
  refine ⟨beq_eq_false_iff_ne.2 ?_, beq_eq_false_iff_ne.2 ?_⟩ <;> (rintro rfl; exact absurd h (by decide))
theorem R_some : ∀ (l : List UInt8) (q : UInt8), R (some q) l = (endOk l && (!dd (q :: l) && l.all okC))
  | [], q => by simp [R, endOk, dd]
  | [c], q => by
    have hp := plain_ne c
    simp only [R, endOk, dd, List.all_cons, List.all_nil, okC, List.isEmpty_nil, Option.isSome_some]
    cases h : plainC c with
    | true => obtain ⟨h1, h2⟩ := hp h; simp [h1, h2]
    | false => simp
  | c :: r :: l, q => by
    have hp := plain_ne c
    have ih := R_some (r :: l) c
    rw [R, ih]
    simp only [endOk, dd, List.all_cons, List.isEmpty_cons, Option.isSome_some, okC]
    have hq : (some q == some (46 : UInt8)) = (q == 46) := rfl
    rw [hq]
    generalize endOk (r :: l) = A
    generalize dd (r :: l) = B
    generalize l.all okC = C
    cases h : plainC c with
    | true => obtain ⟨h1, h2⟩ := hp h; simp [h1, h2, Bool.and_assoc]
    | false => cases (c == 45) <;> cases (c == 46) <;> cases (q == 46) <;> cases (r == 46) <;> cases A <;> cases B <;> cases C <;> simp
theorem R_none (c : UInt8) (l : List UInt8) : R none (c :: l) = (plainC c && (endOk (c :: l) && (!dd (c :: l) && (c :: l).all okC))) := by
  rw [R, R_some]
  have h1 : okC c = (plainC c || (c == 46 || c == 45)) := rfl
  cases h : plainC c with
  | false => simp
  | true =>
    cases l with
    | nil => simp [endOk, h, dd, h1]
    | cons r l => simp [endOk, h, h1]
def bucketOk (a : ByteArray) : Bool := decide (3 ≤ a.size) && (decide (a.size ≤ 63) && R none a.data.toList)
theorem names_plain_eq (c : UInt8) : names_plain.f (c.toNat : Int) = some (plainC c) := by
  have h : ∀ n, n < 256 → names_plain.f (((UInt8.ofNat n).toNat : Nat) : Int) = some (plainC (UInt8.ofNat n)) := by decide +kernel
  have h2 := h c.toNat (UInt8.toNat_lt c)
  rwa [UInt8.ofNat_toNat] at h2
theorem plain_1 (c : UInt8) (h1 : (c.toNat : Int) ≥ 97) (h2 : (c.toNat : Int) ≤ 122) : true = plainC c := by
  unfold plainC; rw [decide_eq_true (by omega : 97 ≤ c.toNat), decide_eq_true (by omega : c.toNat ≤ 122)]; rfl
theorem plain_2 (c : UInt8) (h : ¬ ((c.toNat : Int) ≥ 97 ∧ (c.toNat : Int) ≤ 122)) (h1 : (c.toNat : Int) ≥ 48) : decide ((c.toNat : Int) ≤ 57) = plainC c := by
  unfold plainC
  have h3 : (decide (97 ≤ c.toNat) && decide (c.toNat ≤ 122)) = false := by
    rw [Bool.eq_false_iff]; intro h3; simp only [Bool.and_eq_true, decide_eq_true_eq] at h3; omega
  rw [h3, decide_eq_true (by omega : 48 ≤ c.toNat), Bool.false_or, Bool.true_and]
  exact decide_eq_decide.2 (by omega)
theorem plain_3 (c : UInt8) (h : ¬ ((c.toNat : Int) ≥ 97 ∧ (c.toNat : Int) ≤ 122)) (h1 : ¬ (c.toNat : Int) ≥ 48) : false = plainC c := by
  unfold plainC
  have h3 : (decide (97 ≤ c.toNat) && decide (c.toNat ≤ 122)) = false := by
    rw [Bool.eq_false_iff]; intro h3; simp only [Bool.and_eq_true, decide_eq_true_eq] at h3; omega
  rw [h3, decide_eq_false (by omega : ¬ 48 ≤ c.toNat)]; rfl
def prev (a : ByteArray) (i : Nat) : Option UInt8 := if i = 0 then none else a.data.toList[i - 1]?
theorem prev_bt (a : ByteArray) (i : Nat) (h0 : 0 < i) (h : i ≤ a.size) : ∃ q, prev a i = some q ∧ bt a ((i : Int) - 1) = (q.toNat : Int) ∧ a.data.toList[i - 1]? = some q := by
  obtain ⟨c, hd, hb⟩ := bt_get a (i - 1) (by omega)
  have h1 : a.data.toList[i - 1]? = some c := by
    have := congrArg List.head? hd
    rw [List.head?_drop] at this
    simpa using this
  refine ⟨c, ?_, ?_, h1⟩
  · unfold prev; rw [if_neg (by omega)]; exact h1
  · rw [← hb]; congr 1; omega
theorem c_eq (c : UInt8) (n : Nat) (hn : n < 256) : ((c.toNat : Int) = (n : Int)) ↔ (c == UInt8.ofNat n) = true := by
  rw [beq_iff_eq]
  constructor
  · intro h
    have : c.toNat = n := by omega
    rw [← this, UInt8.ofNat_toNat]
  · intro h
    rw [h]
    have : (UInt8.ofNat n).toNat = n := by simp [UInt8.toNat_ofNat]; omega
    omega
theorem ref_bucket (a : ByteArray) (hs : a.size ≤ 63) : ∀ n i k, i + n = a.size → 2 * n < k → stowageref12_Bucket.l0 k a (a.size : Int) (i : Int) = some (R (prev a i) (a.data.toList.drop i)) := by
  intro n
  induction n with
  | zero =>
    intro i k hi hk
    obtain ⟨k, rfl⟩ : ∃ j, k = j + 1 := ⟨k - 1, by omega⟩
    rw [stowageref12_Bucket.l0, if_neg (by omega), List.drop_of_length_le (by rw [len_eq]; omega)]
    simp [R]
  | succ n ih =>
    intro i k hi hk
    obtain ⟨k, rfl⟩ : ∃ j, k = j + 1 + 1 := ⟨k - 2, by omega⟩
    obtain ⟨c, hd, hb⟩ := bt_get a i (by omega)
    have hnx := ih (i + 1) k (by omega) (by omega)
    have hpn : prev a (i + 1) = some c := by
      obtain ⟨q, h1, h2, h3⟩ := prev_bt a (i + 1) (by omega) (by omega)
      rw [h1]
      have := congrArg List.head? hd
      rw [List.head?_drop] at this
      rw [show i + 1 - 1 = i by omega] at h3
      rw [h3] at this
      simpa using this
    rw [hpn] at hnx
    have hw : (wrap64 ((i : Int) + 1)) = ((i + 1 : Nat) : Int) := by rw [IntWalk.wrap64_in _ (by omega)]; omega
    have hj : ∀ t : Bool, t = plainC c → stowageref12_Bucket.j2 (k + 1) a (a.size : Int) (i : Int) (c.toNat : Int) t = some (R (prev a i) (a.data.toList.drop i)) := by
      intro t ht
      rw [hd, R, stowageref12_Bucket.j2, hw, hnx, ht]
      have hl : (a.data.toList.drop (i + 1)).isEmpty = decide (i + 1 = a.size) := by
        cases hdr : a.data.toList.drop (i + 1) with
        | nil =>
          have h1 := congrArg List.length hdr
          rw [List.length_drop, len_eq] at h1
          simp only [List.length_nil] at h1
          rw [decide_eq_true (by omega)]; rfl
        | cons x l =>
          have h1 := congrArg List.length hdr
          rw [List.length_drop, len_eq] at h1
          simp only [List.length_cons] at h1
          rw [decide_eq_false (by omega)]; rfl
      have hw2 : wrap64 ((a.size : Int) - 1) = (a.size : Int) - 1 := IntWalk.wrap64_in _ (by omega)
      have h45 := c_eq c 45 (by omega)
      have h46 := c_eq c 46 (by omega)
      have e45 : UInt8.ofNat 45 = 45 := rfl
      have e46 : UInt8.ofNat 46 = 46 := rfl
      rw [e45] at h45
      rw [e46] at h46
      cases h : plainC c with
      | true => simp
      | false =>
        rw [if_neg (by simp), Bool.false_or, hl, hw2]
        have hp0 : (prev a i).isSome = decide (0 < i) := by
          by_cases h0 : i = 0
          · rw [h0]; rfl
          · obtain ⟨q, h1, _⟩ := prev_bt a i (by omega) (by omega)
            rw [h1, decide_eq_true (by omega)]; rfl
        rw [hp0]
        by_cases c45 : (c.toNat : Int) = 45
        · have b45 : (c == 45) = true := h45.1 (by omega)
          have b46 : (c == 46) = false := by rw [beq_iff_eq] at b45; rw [b45]; rfl
          rw [if_pos c45, b45, b46]
          by_cases h0 : (i : Int) = 0
          · rw [if_pos h0, decide_eq_false (by omega : ¬ 0 < i)]; rfl
          · rw [if_neg h0, decide_eq_true (by omega : 0 < i)]
            by_cases h9 : (i : Int) = (a.size : Int) - 1
            · rw [if_pos h9, decide_eq_true (by omega : i + 1 = a.size)]; rfl
            · rw [if_neg h9, if_neg (by omega), decide_eq_false (by omega : ¬ i + 1 = a.size)]; rfl
        · have b45 : (c == 45) = false := by
            rw [Bool.eq_false_iff]; intro hh; exact c45 (by have := h45.2 hh; omega)
          rw [if_neg c45, b45]
          by_cases c46 : (c.toNat : Int) = 46
          · have b46 : (c == 46) = true := h46.1 (by omega)
            rw [if_pos c46, b46]
            by_cases h0 : (i : Int) = 0
            · rw [if_pos h0, decide_eq_false (by omega : ¬ 0 < i)]; rfl
            · rw [if_neg h0, decide_eq_true (by omega : 0 < i)]
              by_cases h9 : (i : Int) = (a.size : Int) - 1
              · rw [if_pos h9, decide_eq_true (by omega : i + 1 = a.size)]; rfl
              · have hw3 : wrap64 ((i : Int) - 1) = (i : Int) - 1 := IntWalk.wrap64_in _ (by omega)
                obtain ⟨q, h1, h2, _⟩ := prev_bt a i (by omega) (by omega)
                have hq := c_eq q 46 (by omega)
                rw [e46] at hq
                rw [if_neg h9, decide_eq_false (by omega : ¬ i + 1 = a.size), hw3, if_pos (by omega), if_pos (by omega), h2, h1]
                by_cases hq46 : (q.toNat : Int) = 46
                · have b : (q == 46) = true := hq.1 (by omega)
                  rw [if_pos hq46, beq_iff_eq.1 b]; rfl
                · have b : (some q == some (46 : UInt8)) = false := by
                    show (q == 46) = false
                    rw [Bool.eq_false_iff]; intro hh; exact hq46 (by have := hq.2 hh; omega)
                  rw [if_neg hq46, b]; rfl
          · have b46 : (c == 46) = false := by
              rw [Bool.eq_false_iff]; intro hh; exact c46 (by have := h46.2 hh; omega)
            rw [if_neg c46, b46]; rfl
    rw [stowageref12_Bucket.l0, if_pos (by omega), if_pos (by omega), if_pos (by omega), hb]
    by_cases h1 : (c.toNat : Int) ≥ 97
    · rw [if_pos h1]
      by_cases h2 : (c.toNat : Int) ≤ 122
      · rw [if_pos h2]; exact hj _ (plain_1 c h1 h2)
      · rw [if_neg h2, if_pos (by omega)]; exact hj _ (plain_2 c (by omega) (by omega))
    · rw [if_neg h1]
      by_cases h2 : (c.toNat : Int) ≥ 48
      · rw [if_pos h2]; exact hj _ (plain_2 c (by omega) h2)
      · rw [if_neg h2]; exact hj _ (plain_3 c (by omega) h2)
theorem ref_Bucket_eq (a : ByteArray) (hs : a.size ≤ 9223372036854775807) (k : Nat) (hk : 1000 ≤ k) : stowageref12_Bucket.f k a = some (bucketOk a) := by
  obtain ⟨k, rfl⟩ : ∃ j, k = j + 1 := ⟨k - 1, by omega⟩
  unfold stowageref12_Bucket.f bucketOk
  by_cases h1 : a.size < 3
  · rw [if_pos (by omega), stowageref12_Bucket.j0, if_pos rfl, decide_eq_false (by omega : ¬ 3 ≤ a.size)]; rfl
  · rw [if_neg (by omega), stowageref12_Bucket.j0, decide_eq_true (by omega : 3 ≤ a.size)]
    by_cases h2 : a.size ≤ 63
    · rw [if_neg (by simp; omega), decide_eq_true h2]
      have := ref_bucket a h2 a.size 0 k (by omega) (by omega)
      simpa [prev] using this
    · rw [if_pos (by simp; omega), decide_eq_false h2]; rfl
/-! The program's way. -/
theorem contains_two : ∀ l : List UInt8, Lib.contains l [46, 46] = dd l
  | [] => by decide
  | [a] => by
    rw [contains_cons, contains_two []]
    simp [List.isPrefixOf, dd]
  | a :: b :: l => by
    rw [contains_cons, contains_two (b :: l), dd]
    congr 1
    simp only [List.isPrefixOf, Bool.and_true]
    rw [Bool.beq_comm (a := a), Bool.beq_comm (a := b)]
theorem endOk_last : ∀ (l : List UInt8) (c : UInt8), l.getLast? = some c → endOk l = plainC c
  | [], _, h => by simp at h
  | [x], c, h => by simp at h; rw [endOk, h]
  | _ :: b :: l, c, h => by
    rw [List.getLast?_cons_cons] at h
    rw [endOk]
    exact endOk_last (b :: l) c h
theorem names_loop (a : ByteArray) (hs : a.size ≤ 63) : ∀ n i k, i + n = a.size → n < k → names_Bucket.l0 k a (a.size : Int) (i : Int) = some ((a.data.toList.drop i).all okC) := by
  intro n
  induction n with
  | zero =>
    intro i k hi hk
    obtain ⟨k, rfl⟩ : ∃ j, k = j + 1 := ⟨k - 1, by omega⟩
    rw [names_Bucket.l0, if_neg (by omega), List.drop_of_length_le (by rw [len_eq]; omega)]; rfl
  | succ n ih =>
    intro i k hi hk
    obtain ⟨k, rfl⟩ : ∃ j, k = j + 1 := ⟨k - 1, by omega⟩
    obtain ⟨c, hd, hb⟩ := bt_get a i (by omega)
    have h45 := c_eq c 45 (by omega)
    have h46 := c_eq c 46 (by omega)
    rw [show UInt8.ofNat 45 = 45 from rfl] at h45
    rw [show UInt8.ofNat 46 = 46 from rfl] at h46
    rw [names_Bucket.l0, if_pos (by omega), if_pos (by omega), if_pos (by omega), hb, names_plain_eq, Option.bind_some, hd, List.all_cons, IntWalk.wrap64_in ((i : Int) + 1) (by omega), show ((i : Int) + 1) = ((i + 1 : Nat) : Int) by omega, ih (i + 1) k (by omega) (by omega)]
    have ho : okC c = (plainC c || (c == 46 || c == 45)) := rfl
    rw [ho]
    cases h : plainC c with
    | true => simp
    | false =>
      rw [if_neg (by simp), Bool.false_or]
      by_cases c46 : (c.toNat : Int) = 46
      · rw [if_pos c46, h46.1 (by omega)]; simp
      · have b46 : (c == 46) = false := by rw [Bool.eq_false_iff]; intro hh; exact c46 (by have := h46.2 hh; omega)
        rw [if_neg c46, b46]
        by_cases c45 : (c.toNat : Int) = 45
        · rw [if_pos c45, h45.1 (by omega)]; simp
        · have b45 : (c == 45) = false := by rw [Bool.eq_false_iff]; intro hh; exact c45 (by have := h45.2 hh; omega)
          rw [if_neg c45, b45]; rfl
theorem names_Bucket_eq (a : ByteArray) (hs : a.size ≤ 9223372036854775807) (k : Nat) (hk : 1000 ≤ k) : names_Bucket.f k a = some (bucketOk a) := by
  obtain ⟨k, rfl⟩ : ∃ j, k = j + 1 := ⟨k - 1, by omega⟩
  unfold names_Bucket.f bucketOk
  by_cases h1 : a.size < 3
  · rw [if_pos (by omega), names_Bucket.j0, if_pos rfl, decide_eq_false (by omega : ¬ 3 ≤ a.size)]; rfl
  rw [if_neg (by omega), decide_eq_true (by omega : 3 ≤ a.size)]
  by_cases h2 : a.size ≤ 63
  · obtain ⟨c, hd, hb⟩ := bt_get a 0 (by omega)
    obtain ⟨z, hz1, hz2, hz3⟩ := prev_bt a a.size (by omega) (by omega)
    have hw2 : wrap64 ((a.size : Int) - 1) = (a.size : Int) - 1 := IntWalk.wrap64_in _ (by omega)
    have hl : a.data.toList = c :: a.data.toList.drop 1 := by simpa using hd
    have hzl : (c :: a.data.toList.drop 1).getLast? = some z := by
      rw [← hl, List.getLast?_eq_getElem?, len_eq]; exact hz3
    have hlo := names_loop a h2 a.size 0 k (by omega) (by omega)
    rw [if_neg (by omega), if_pos (by omega), show (bt a 0) = bt a ((0 : Nat) : Int) from rfl, hb, names_plain_eq, Option.bind_some, hw2, hz2, decide_eq_true h2]
    rw [show R none a.data.toList = R none (c :: a.data.toList.drop 1) by rw [← hl], R_none, endOk_last _ z hzl]
    cases hp : plainC c with
    | false => rw [if_neg (by simp), names_Bucket.j0, if_pos rfl]; rfl
    | true =>
      rw [if_pos rfl, if_pos (by omega), if_pos (by omega), names_plain_eq, Option.bind_some]
      cases hq : plainC z with
      | false => rw [if_neg (by simp), names_Bucket.j0, if_pos rfl]; rfl
      | true =>
        rw [if_pos rfl]
        unfold strings_Contains.f
        rw [if_pos (by omega), Option.bind_some, show (⟨#[46, 46]⟩ : ByteArray).data.toList = [46, 46] from rfl, contains_two, names_Bucket.j0]
        rw [← hl]
        cases hD : dd a.data.toList with
        | true => rw [if_pos rfl]; rfl
        | false =>
          rw [if_neg (by simp), show (0 : Int) = ((0 : Nat) : Int) from rfl, hlo]
          simp
  · rw [if_pos (by omega), names_Bucket.j0, if_pos rfl, decide_eq_false h2]; rfl
end Go.Proofs.Ytapkojfodhdnaaa.Pure
