/- Merged of several texts of this session's by merge.py. -/
import Derived.IntWalk
import Derived.Lib.IndexMore
import Derived.Test.YtdidopoalmkhlaaDoorMt6
import Derived.KernelRfl
import Derived.ProofKit
import Derived.OpenShut
import Derived.Test.YtdidopoalmkhlaaDoorMt3
import Derived.Test.YtdidopoalmkhlaaDoorCards
import Derived.Test.YtdidopoalmkhlaaDoorTie
import Derived.WalkKit
import Derived.Below
import Derived.Carry
import Derived.Deep.DeepHandedRow
import Derived.Deep.DeepLaidRun
import Derived.Test.YtdidopoalmkhlaaDoorMt2
import Derived.HandedShaped
section
namespace Go.Proofs.YtdidopoalmkhlaaDoor.Pure
open Go.RowKit Go.Proofs.YtdidopoalmkhlaaDoor.Ot Go.Proofs.YtdidopoalmkhlaaDoorW.PrintWords Go.Proofs.YtdidopoalmkhlaaDoorW.PrintLast Go.Proofs.YtdidopoalmkhlaaDoorW.PrintMore
set_option linter.unusedVariables false
set_option linter.unusedSimpArgs false
def tokC (c : UInt8) : Bool := decide (33 ≤ c.toNat) && decide (c.toNat ≤ 126)
def tokOk (a : ByteArray) : Bool := a.data.toList.all tokC && (decide (1 ≤ a.size) && decide (a.size ≤ 64))
theorem toList_nil (a : ByteArray) : a.toList = ([] : List UInt8) ↔ a.size = 0 := by
 rw [ByteArray.toList_eq, ← len_eq, List.length_eq_zero_iff]
theorem names_tok (a : ByteArray) (hs : a.size ≤ 9223372036854775807) : ∀ n i k, i + n = a.size → n < k → names_Token.l0 k a (a.size : Int) (i : Int) = some ((a.data.toList.drop i).all tokC && (decide (1 ≤ a.size) && decide (a.size ≤ 64))) := by
 intro n
 induction n with
 | zero =>
  intro i k hi hk
  obtain ⟨k, rfl⟩ : ∃ j, k = j + 1 := ⟨k - 1, by omega⟩
  rw [names_Token.l0, if_neg (by omega), List.drop_of_length_le (by rw [len_eq]; omega)]
  by_cases h0 : a.size = 0
  ·
   rw [if_pos ((toList_nil a).2 h0)]; simp [h0]
  ·
   rw [if_neg (fun h => h0 ((toList_nil a).1 h))]
   have h1 : decide (1 ≤ a.size) = true := decide_eq_true (by omega)
   rw [h1]
   simp only [List.all_nil, Bool.true_and]
   congr 1
   exact decide_eq_decide.2 (by omega)
 | succ n ih =>
  intro i k hi hk
  obtain ⟨k, rfl⟩ : ∃ j, k = j + 1 := ⟨k - 1, by omega⟩
  obtain ⟨c, hd, hb⟩ := bt_get a i (by omega)
  rw [names_Token.l0, if_pos (by omega), if_pos (by omega), if_pos (by omega), hb, hd, List.all_cons]
  by_cases h1 : (c.toNat : Int) < 33
  ·
   rw [if_pos h1]; simp [tokC, show ¬ 33 ≤ c.toNat by omega]
  ·
   rw [if_neg h1]
   by_cases h2 : (c.toNat : Int) > 126
   ·
    rw [if_pos h2]; simp [tokC, show ¬ c.toNat ≤ 126 by omega]
   ·
    rw [if_neg h2, IntWalk.wrap64_in _ (by omega), show ((i : Int) + 1) = ((i + 1 : Nat) : Int) by omega, ih (i + 1) k (by omega) (by omega)]
    have h3 : tokC c = true := by simp [tokC]; omega
    rw [h3, Bool.true_and]
theorem names_Token_eq (a : ByteArray) (hs : a.size ≤ 1073741824) (k : Nat) (hk : 1073741825 ≤ k) : names_Token.f k a = some (tokOk a) :=
 names_tok a (by omega) a.size 0 k (by omega) (by omega)
theorem ref_tok (a : ByteArray) (hs : a.size ≤ 9223372036854775807) : ∀ n i k, i + n = a.size → n < k → stowageref12_Token.l0 k a (i : Int) = some ((a.data.toList.drop i).all tokC && (decide (1 ≤ a.size) && decide (a.size ≤ 64))) := by
 intro n
 induction n with
 | zero =>
  intro i k hi hk
  obtain ⟨k, rfl⟩ : ∃ j, k = j + 1 := ⟨k - 1, by omega⟩
  rw [stowageref12_Token.l0, if_neg (by omega), List.drop_of_length_le (by rw [len_eq]; omega)]
  by_cases h0 : a.size = 0
  ·
   rw [if_neg (by omega)]; simp [h0]
  ·
   rw [if_pos (by omega)]
   have h1 : decide (1 ≤ a.size) = true := decide_eq_true (by omega)
   rw [h1]
   simp only [List.all_nil, Bool.true_and]
   congr 1
   exact decide_eq_decide.2 (by omega)
 | succ n ih =>
  intro i k hi hk
  obtain ⟨k, rfl⟩ : ∃ j, k = j + 1 := ⟨k - 1, by omega⟩
  obtain ⟨c, hd, hb⟩ := bt_get a i (by omega)
  rw [stowageref12_Token.l0, if_pos (by omega), if_pos (by omega), hb, hd, List.all_cons]
  by_cases h1 : (c.toNat : Int) < 33
  ·
   rw [if_pos h1]; simp [tokC, show ¬ 33 ≤ c.toNat by omega]
  ·
   rw [if_neg h1]
   by_cases h2 : (c.toNat : Int) > 126
   ·
    rw [if_pos h2]; simp [tokC, show ¬ c.toNat ≤ 126 by omega]
   ·
    rw [if_neg h2, IntWalk.wrap64_in _ (by omega), show ((i : Int) + 1) = ((i + 1 : Nat) : Int) by omega, ih (i + 1) k (by omega) (by omega)]
    have h3 : tokC c = true := by simp [tokC]; omega
    rw [h3, Bool.true_and]
theorem ref_Token_eq (a : ByteArray) (hs : a.size ≤ 9223372036854775807) (k : Nat) (hk : 9223372036854775808 ≤ k) : stowageref12_Token.f k a = some (tokOk a) :=
 ref_tok a hs a.size 0 k (by omega) (by omega)
def keyOk (a : ByteArray) : Bool := a.data.toList.all (fun c => !(c == 0)) && (decide (1 ≤ a.size) && decide (a.size ≤ 1024))
theorem ref_key (a : ByteArray) (hs : a.size ≤ 9223372036854775807) : ∀ n i k, i + n = a.size → n < k → stowageref12_Key.l0 k a (i : Int) = some ((a.data.toList.drop i).all (fun c => !(c == 0)) && (decide (1 ≤ a.size) && decide (a.size ≤ 1024))) := by
 intro n
 induction n with
 | zero =>
  intro i k hi hk
  obtain ⟨k, rfl⟩ : ∃ j, k = j + 1 := ⟨k - 1, by omega⟩
  rw [stowageref12_Key.l0, if_neg (by omega), List.drop_of_length_le (by rw [len_eq]; omega)]
  by_cases h0 : a.size = 0
  ·
   rw [if_neg (by omega)]; simp [h0]
  ·
   rw [if_pos (by omega)]
   have h1 : decide (1 ≤ a.size) = true := decide_eq_true (by omega)
   rw [h1]
   simp only [List.all_nil, Bool.true_and]
   congr 1
   exact decide_eq_decide.2 (by omega)
 | succ n ih =>
  intro i k hi hk
  obtain ⟨k, rfl⟩ : ∃ j, k = j + 1 := ⟨k - 1, by omega⟩
  obtain ⟨c, hd, hb⟩ := bt_get a i (by omega)
  rw [stowageref12_Key.l0, if_pos (by omega), if_pos (by omega), hb, hd, List.all_cons]
  by_cases h1 : (c.toNat : Int) = 0
  ·
   have hc : c = 0 := UInt8.toNat_inj.1 (by rw [show c.toNat = 0 by omega]; rfl)
   rw [if_pos h1, hc]; rfl
  ·
   have hc : (c == 0) = false := beq_eq_false_iff_ne.2 (fun e => h1 (by rw [e]; rfl))
   rw [if_neg h1, IntWalk.wrap64_in _ (by omega), show ((i : Int) + 1) = ((i + 1 : Nat) : Int) by omega, ih (i + 1) k (by omega) (by omega), hc, Bool.not_false, Bool.true_and]
theorem ref_Key_eq (a : ByteArray) (hs : a.size ≤ 9223372036854775807) (k : Nat) (hk : 9223372036854775808 ≤ k) : stowageref12_Key.f k a = some (keyOk a) :=
 ref_key a hs a.size 0 k (by omega) (by omega)
theorem contains_cons (b : UInt8) (l sub : List UInt8) : Lib.contains (b :: l) sub = (sub.isPrefixOf (b :: l) || Lib.contains l sub) := by
 unfold Lib.contains
 rw [Lib.index]
 have hg := Lib.index_ge l sub
 cases h : sub.isPrefixOf (b :: l) with
 | true => simp
 | false =>
  simp only [Bool.false_eq_true, if_false, Bool.false_or]
  by_cases h1 : Lib.index l sub = -1
  ·
   rw [h1]; decide
  ·
   rw [if_neg (by simpa using h1)]
   exact decide_eq_decide.2 (by omega)
theorem contains_zero : ∀ l : List UInt8, Lib.contains l [0] = !(l.all fun c => !(c == 0))
 | [] => by decide
 | b :: l => by
  rw [contains_cons, contains_zero l, List.all_cons]
  have : List.isPrefixOf [0] (b :: l) = (b == 0) := by simp [List.isPrefixOf, eq_comm, Bool.beq_comm]
  rw [this]
  cases (b == 0) <;> simp
theorem names_Key_eq (a : ByteArray) (hs : a.size ≤ 9223372036854775807) : names_Key.f a = some (keyOk a) := by
 unfold names_Key.f keyOk
 by_cases h0 : a.size = 0
 ·
  rw [if_pos ((toList_nil a).2 h0)]; simp [h0]
 ·
  rw [if_neg (fun h => h0 ((toList_nil a).1 h))]
  have h1 : decide (1 ≤ a.size) = true := decide_eq_true (by omega)
  by_cases h2 : a.size ≤ 1024
  ·
   rw [if_pos (by omega)]
   unfold strings_Contains.f
   rw [if_pos (by omega), Option.bind_some, show (⟨#[0]⟩ : ByteArray).data.toList = [0] from rfl, contains_zero, h1]
   simp [h2]
  ·
   rw [if_neg (by omega)]; simp [h2]
def plainC (c : UInt8) : Bool := (decide (97 ≤ c.toNat) && decide (c.toNat ≤ 122)) || (decide (48 ≤ c.toNat) && decide (c.toNat ≤ 57))
def okC (c : UInt8) : Bool := plainC c || (c == 46 || c == 45)
def dd : List UInt8 → Bool
 | a :: b :: l => (a == 46 && b == 46) || dd (b :: l)
 | _ => false
def endOk : List UInt8 → Bool
 | [] => true
 | [c] => plainC c
 | _ :: b :: l => endOk (b :: l)
def R : Option UInt8 → List UInt8 → Bool
 | _, [] => true
 | p, c :: l => (plainC c || ((c == 45 || c == 46) && (p.isSome && (!l.isEmpty && !(c == 46 && p == some 46))))) && R (some c) l
theorem plain_ne (c : UInt8) (h : plainC c = true) : (c == 46) = false ∧ (c == 45) = false := by
 refine ⟨beq_eq_false_iff_ne.2 ?_, beq_eq_false_iff_ne.2 ?_⟩ <;> (rintro rfl; exact absurd h (by decide))
theorem R_some : ∀ (l : List UInt8) (q : UInt8), R (some q) l = (endOk l && (!dd (q :: l) && l.all okC))
 | [], q => by simp [R, endOk, dd]
 | [c], q => by
  have hp := plain_ne c
  simp only [R, endOk, dd, List.all_cons, List.all_nil, okC, List.isEmpty_nil, Option.isSome_some]
  cases h : plainC c with
  | true => obtain ⟨h1, h2⟩ := hp h; simp [h1, h2]
  | false => simp
 | c :: r :: l, q => by
  have hp := plain_ne c
  have ih := R_some (r :: l) c
  rw [R, ih]
  simp only [endOk, dd, List.all_cons, List.isEmpty_cons, Option.isSome_some, okC]
  have hq : (some q == some (46 : UInt8)) = (q == 46) := rfl
  rw [hq]
  generalize endOk (r :: l) = A
  generalize dd (r :: l) = B
  generalize l.all okC = C
  cases h : plainC c with
  | true => obtain ⟨h1, h2⟩ := hp h; simp [h1, h2, Bool.and_assoc]
  | false => cases (c == 45) <;> cases (c == 46) <;> cases (q == 46) <;> cases (r == 46) <;> cases A <;> cases B <;> cases C <;> simp
theorem R_none (c : UInt8) (l : List UInt8) : R none (c :: l) = (plainC c && (endOk (c :: l) && (!dd (c :: l) && (c :: l).all okC))) := by
 rw [R, R_some]
 have h1 : okC c = (plainC c || (c == 46 || c == 45)) := rfl
 cases h : plainC c with
 | false => simp
 | true =>
  cases l with
  | nil => simp [endOk, h, dd, h1]
  | cons r l => simp [endOk, h, h1]
def bucketOk (a : ByteArray) : Bool := decide (3 ≤ a.size) && (decide (a.size ≤ 63) && R none a.data.toList)
theorem names_plain_eq (c : UInt8) : names_plain.f (c.toNat : Int) = some (plainC c) := by
 have h : ∀ n, n < 256 → names_plain.f (((UInt8.ofNat n).toNat : Nat) : Int) = some (plainC (UInt8.ofNat n)) := by decide +kernel
 have h2 := h c.toNat (UInt8.toNat_lt c)
 rwa [UInt8.ofNat_toNat] at h2
theorem plain_1 (c : UInt8) (h1 : (c.toNat : Int) ≥ 97) (h2 : (c.toNat : Int) ≤ 122) : true = plainC c := by
 unfold plainC; rw [decide_eq_true (by omega : 97 ≤ c.toNat), decide_eq_true (by omega : c.toNat ≤ 122)]; rfl
theorem plain_2 (c : UInt8) (h : ¬ ((c.toNat : Int) ≥ 97 ∧ (c.toNat : Int) ≤ 122)) (h1 : (c.toNat : Int) ≥ 48) : decide ((c.toNat : Int) ≤ 57) = plainC c := by
 unfold plainC
 have h3 : (decide (97 ≤ c.toNat) && decide (c.toNat ≤ 122)) = false := by
  rw [Bool.eq_false_iff]; intro h3; simp only [Bool.and_eq_true, decide_eq_true_eq] at h3; omega
 rw [h3, decide_eq_true (by omega : 48 ≤ c.toNat), Bool.false_or, Bool.true_and]
 exact decide_eq_decide.2 (by omega)
theorem plain_3 (c : UInt8) (h : ¬ ((c.toNat : Int) ≥ 97 ∧ (c.toNat : Int) ≤ 122)) (h1 : ¬ (c.toNat : Int) ≥ 48) : false = plainC c := by
 unfold plainC
 have h3 : (decide (97 ≤ c.toNat) && decide (c.toNat ≤ 122)) = false := by
  rw [Bool.eq_false_iff]; intro h3; simp only [Bool.and_eq_true, decide_eq_true_eq] at h3; omega
 rw [h3, decide_eq_false (by omega : ¬ 48 ≤ c.toNat)]; rfl
def prev (a : ByteArray) (i : Nat) : Option UInt8 := if i = 0 then none else a.data.toList[i - 1]?
theorem prev_bt (a : ByteArray) (i : Nat) (h0 : 0 < i) (h : i ≤ a.size) : ∃ q, prev a i = some q ∧ bt a ((i : Int) - 1) = (q.toNat : Int) ∧ a.data.toList[i - 1]? = some q := by
 obtain ⟨c, hd, hb⟩ := bt_get a (i - 1) (by omega)
 have h1 : a.data.toList[i - 1]? = some c := by
  have := congrArg List.head? hd
  rw [List.head?_drop] at this
  simpa using this
 refine ⟨c, ?_, ?_, h1⟩
 ·
  unfold prev; rw [if_neg (by omega)]; exact h1
 ·
  rw [← hb]; congr 1; omega
theorem c_eq (c : UInt8) (n : Nat) (hn : n < 256) : ((c.toNat : Int) = (n : Int)) ↔ (c == UInt8.ofNat n) = true := by
 rw [beq_iff_eq]
 constructor
 ·
  intro h
  have : c.toNat = n := by omega
  rw [← this, UInt8.ofNat_toNat]
 ·
  intro h
  rw [h]
  have : (UInt8.ofNat n).toNat = n := by simp [UInt8.toNat_ofNat]; omega
  omega
theorem ref_bucket (a : ByteArray) (hs : a.size ≤ 63) : ∀ n i k, i + n = a.size → 2 * n < k → stowageref12_Bucket.l0 k a (a.size : Int) (i : Int) = some (R (prev a i) (a.data.toList.drop i)) := by
 intro n
 induction n with
 | zero =>
  intro i k hi hk
  obtain ⟨k, rfl⟩ : ∃ j, k = j + 1 := ⟨k - 1, by omega⟩
  rw [stowageref12_Bucket.l0, if_neg (by omega), List.drop_of_length_le (by rw [len_eq]; omega)]
  simp [R]
 | succ n ih =>
  intro i k hi hk
  obtain ⟨k, rfl⟩ : ∃ j, k = j + 1 + 1 := ⟨k - 2, by omega⟩
  obtain ⟨c, hd, hb⟩ := bt_get a i (by omega)
  have hnx := ih (i + 1) k (by omega) (by omega)
  have hpn : prev a (i + 1) = some c := by
   obtain ⟨q, h1, h2, h3⟩ := prev_bt a (i + 1) (by omega) (by omega)
   rw [h1]
   have := congrArg List.head? hd
   rw [List.head?_drop] at this
   rw [show i + 1 - 1 = i by omega] at h3
   rw [h3] at this
   simpa using this
  rw [hpn] at hnx
  have hw : (wrap64 ((i : Int) + 1)) = ((i + 1 : Nat) : Int) := by rw [IntWalk.wrap64_in _ (by omega)]; omega
  have hj : ∀ t : Bool, t = plainC c → stowageref12_Bucket.j2 (k + 1) a (a.size : Int) (i : Int) (c.toNat : Int) t = some (R (prev a i) (a.data.toList.drop i)) := by
   intro t ht
   rw [hd, R, stowageref12_Bucket.j2, hw, hnx, ht]
   have hl : (a.data.toList.drop (i + 1)).isEmpty = decide (i + 1 = a.size) := by
    cases hdr : a.data.toList.drop (i + 1) with
    | nil =>
     have h1 := congrArg List.length hdr
     rw [List.length_drop, len_eq] at h1
     simp only [List.length_nil] at h1
     rw [decide_eq_true (by omega)]; rfl
    | cons x l =>
     have h1 := congrArg List.length hdr
     rw [List.length_drop, len_eq] at h1
     simp only [List.length_cons] at h1
     rw [decide_eq_false (by omega)]; rfl
   have hw2 : wrap64 ((a.size : Int) - 1) = (a.size : Int) - 1 := IntWalk.wrap64_in _ (by omega)
   have h45 := c_eq c 45 (by omega)
   have h46 := c_eq c 46 (by omega)
   have e45 : UInt8.ofNat 45 = 45 := rfl
   have e46 : UInt8.ofNat 46 = 46 := rfl
   rw [e45] at h45
   rw [e46] at h46
   cases h : plainC c with
   | true => simp
   | false =>
    rw [if_neg (by simp), Bool.false_or, hl, hw2]
    have hp0 : (prev a i).isSome = decide (0 < i) := by
     by_cases h0 : i = 0
     ·
      rw [h0]; rfl
     ·
      obtain ⟨q, h1, _⟩ := prev_bt a i (by omega) (by omega)
      rw [h1, decide_eq_true (by omega)]; rfl
    rw [hp0]
    by_cases c45 : (c.toNat : Int) = 45
    ·
     have b45 : (c == 45) = true := h45.1 (by omega)
     have b46 : (c == 46) = false := by rw [beq_iff_eq] at b45; rw [b45]; rfl
     rw [if_pos c45, b45, b46]
     by_cases h0 : (i : Int) = 0
     ·
      rw [if_pos h0, decide_eq_false (by omega : ¬ 0 < i)]; rfl
     ·
      rw [if_neg h0, decide_eq_true (by omega : 0 < i)]
      by_cases h9 : (i : Int) = (a.size : Int) - 1
      ·
       rw [if_pos h9, decide_eq_true (by omega : i + 1 = a.size)]; rfl
      ·
       rw [if_neg h9, if_neg (by omega), decide_eq_false (by omega : ¬ i + 1 = a.size)]; rfl
    ·
     have b45 : (c == 45) = false := by
      rw [Bool.eq_false_iff]; intro hh; exact c45 (by have := h45.2 hh; omega)
     rw [if_neg c45, b45]
     by_cases c46 : (c.toNat : Int) = 46
     ·
      have b46 : (c == 46) = true := h46.1 (by omega)
      rw [if_pos c46, b46]
      by_cases h0 : (i : Int) = 0
      ·
       rw [if_pos h0, decide_eq_false (by omega : ¬ 0 < i)]; rfl
      ·
       rw [if_neg h0, decide_eq_true (by omega : 0 < i)]
       by_cases h9 : (i : Int) = (a.size : Int) - 1
       ·
        rw [if_pos h9, decide_eq_true (by omega : i + 1 = a.size)]; rfl
       ·
        have hw3 : wrap64 ((i : Int) - 1) = (i : Int) - 1 := IntWalk.wrap64_in _ (by omega)
        obtain ⟨q, h1, h2, _⟩ := prev_bt a i (by omega) (by omega)
        have hq := c_eq q 46 (by omega)
        rw [e46] at hq
        rw [if_neg h9, decide_eq_false (by omega : ¬ i + 1 = a.size), hw3, if_pos (by omega), if_pos (by omega), h2, h1]
        by_cases hq46 : (q.toNat : Int) = 46
        ·
         have b : (q == 46) = true := hq.1 (by omega)
         rw [if_pos hq46, beq_iff_eq.1 b]; rfl
        ·
         have b : (some q == some (46 : UInt8)) = false := by
          show (q == 46) = false
          rw [Bool.eq_false_iff]; intro hh; exact hq46 (by have := hq.2 hh; omega)
         rw [if_neg hq46, b]; rfl
     ·
      have b46 : (c == 46) = false := by
       rw [Bool.eq_false_iff]; intro hh; exact c46 (by have := h46.2 hh; omega)
      rw [if_neg c46, b46]; rfl
  rw [stowageref12_Bucket.l0, if_pos (by omega), if_pos (by omega), if_pos (by omega), hb]
  by_cases h1 : (c.toNat : Int) ≥ 97
  ·
   rw [if_pos h1]
   by_cases h2 : (c.toNat : Int) ≤ 122
   ·
    rw [if_pos h2]; exact hj _ (plain_1 c h1 h2)
   ·
    rw [if_neg h2, if_pos (by omega)]; exact hj _ (plain_2 c (by omega) (by omega))
  ·
   rw [if_neg h1]
   by_cases h2 : (c.toNat : Int) ≥ 48
   ·
    rw [if_pos h2]; exact hj _ (plain_2 c (by omega) h2)
   ·
    rw [if_neg h2]; exact hj _ (plain_3 c (by omega) h2)
theorem ref_Bucket_eq (a : ByteArray) (hs : a.size ≤ 9223372036854775807) (k : Nat) (hk : 1000 ≤ k) : stowageref12_Bucket.f k a = some (bucketOk a) := by
 obtain ⟨k, rfl⟩ : ∃ j, k = j + 1 := ⟨k - 1, by omega⟩
 unfold stowageref12_Bucket.f bucketOk
 by_cases h1 : a.size < 3
 ·
  rw [if_pos (by omega), stowageref12_Bucket.j0, if_pos rfl, decide_eq_false (by omega : ¬ 3 ≤ a.size)]; rfl
 ·
  rw [if_neg (by omega), stowageref12_Bucket.j0, decide_eq_true (by omega : 3 ≤ a.size)]
  by_cases h2 : a.size ≤ 63
  ·
   rw [if_neg (by simp; omega), decide_eq_true h2]
   have := ref_bucket a h2 a.size 0 k (by omega) (by omega)
   simpa [prev] using this
  ·
   rw [if_pos (by simp; omega), decide_eq_false h2]; rfl
theorem contains_two : ∀ l : List UInt8, Lib.contains l [46, 46] = dd l
 | [] => by decide
 | [a] => by
  rw [contains_cons, contains_two []]
  simp [List.isPrefixOf, dd]
 | a :: b :: l => by
  rw [contains_cons, contains_two (b :: l), dd]
  congr 1
  simp only [List.isPrefixOf, Bool.and_true]
  rw [Bool.beq_comm (a := a), Bool.beq_comm (a := b)]
theorem endOk_last : ∀ (l : List UInt8) (c : UInt8), l.getLast? = some c → endOk l = plainC c
 | [], _, h => by simp at h
 | [x], c, h => by simp at h; rw [endOk, h]
 | _ :: b :: l, c, h => by
  rw [List.getLast?_cons_cons] at h
  rw [endOk]
  exact endOk_last (b :: l) c h
theorem names_loop (a : ByteArray) (hs : a.size ≤ 63) : ∀ n i k, i + n = a.size → n < k → names_Bucket.l0 k a (a.size : Int) (i : Int) = some ((a.data.toList.drop i).all okC) := by
 intro n
 induction n with
 | zero =>
  intro i k hi hk
  obtain ⟨k, rfl⟩ : ∃ j, k = j + 1 := ⟨k - 1, by omega⟩
  rw [names_Bucket.l0, if_neg (by omega), List.drop_of_length_le (by rw [len_eq]; omega)]; rfl
 | succ n ih =>
  intro i k hi hk
  obtain ⟨k, rfl⟩ : ∃ j, k = j + 1 := ⟨k - 1, by omega⟩
  obtain ⟨c, hd, hb⟩ := bt_get a i (by omega)
  have h45 := c_eq c 45 (by omega)
  have h46 := c_eq c 46 (by omega)
  rw [show UInt8.ofNat 45 = 45 from rfl] at h45
  rw [show UInt8.ofNat 46 = 46 from rfl] at h46
  rw [names_Bucket.l0, if_pos (by omega), if_pos (by omega), if_pos (by omega), hb, names_plain_eq, Option.bind_some, hd, List.all_cons, IntWalk.wrap64_in ((i : Int) + 1) (by omega), show ((i : Int) + 1) = ((i + 1 : Nat) : Int) by omega, ih (i + 1) k (by omega) (by omega)]
  have ho : okC c = (plainC c || (c == 46 || c == 45)) := rfl
  rw [ho]
  cases h : plainC c with
  | true => simp
  | false =>
   rw [if_neg (by simp), Bool.false_or]
   by_cases c46 : (c.toNat : Int) = 46
   ·
    rw [if_pos c46, h46.1 (by omega)]; simp
   ·
    have b46 : (c == 46) = false := by rw [Bool.eq_false_iff]; intro hh; exact c46 (by have := h46.2 hh; omega)
    rw [if_neg c46, b46]
    by_cases c45 : (c.toNat : Int) = 45
    ·
     rw [if_pos c45, h45.1 (by omega)]; simp
    ·
     have b45 : (c == 45) = false := by rw [Bool.eq_false_iff]; intro hh; exact c45 (by have := h45.2 hh; omega)
     rw [if_neg c45, b45]; rfl
theorem names_Bucket_eq (a : ByteArray) (hs : a.size ≤ 9223372036854775807) (k : Nat) (hk : 1000 ≤ k) : names_Bucket.f k a = some (bucketOk a) := by
 obtain ⟨k, rfl⟩ : ∃ j, k = j + 1 := ⟨k - 1, by omega⟩
 unfold names_Bucket.f bucketOk
 by_cases h1 : a.size < 3
 ·
  rw [if_pos (by omega), names_Bucket.j0, if_pos rfl, decide_eq_false (by omega : ¬ 3 ≤ a.size)]; rfl
 rw [if_neg (by omega), decide_eq_true (by omega : 3 ≤ a.size)]
 by_cases h2 : a.size ≤ 63
 ·
  obtain ⟨c, hd, hb⟩ := bt_get a 0 (by omega)
  obtain ⟨z, hz1, hz2, hz3⟩ := prev_bt a a.size (by omega) (by omega)
  have hw2 : wrap64 ((a.size : Int) - 1) = (a.size : Int) - 1 := IntWalk.wrap64_in _ (by omega)
  have hl : a.data.toList = c :: a.data.toList.drop 1 := by simpa using hd
  have hzl : (c :: a.data.toList.drop 1).getLast? = some z := by
   rw [← hl, List.getLast?_eq_getElem?, len_eq]; exact hz3
  have hlo := names_loop a h2 a.size 0 k (by omega) (by omega)
  rw [if_neg (by omega), if_pos (by omega), show (bt a 0) = bt a ((0 : Nat) : Int) from rfl, hb, names_plain_eq, Option.bind_some, hw2, hz2, decide_eq_true h2]
  rw [show R none a.data.toList = R none (c :: a.data.toList.drop 1) by rw [← hl], R_none, endOk_last _ z hzl]
  cases hp : plainC c with
  | false => rw [if_neg (by simp), names_Bucket.j0, if_pos rfl]; rfl
  | true =>
   rw [if_pos rfl, if_pos (by omega), if_pos (by omega), names_plain_eq, Option.bind_some]
   cases hq : plainC z with
   | false => rw [if_neg (by simp), names_Bucket.j0, if_pos rfl]; rfl
   | true =>
    rw [if_pos rfl]
    unfold strings_Contains.f
    rw [if_pos (by omega), Option.bind_some, show (⟨#[46, 46]⟩ : ByteArray).data.toList = [46, 46] from rfl, contains_two, names_Bucket.j0]
    rw [← hl]
    cases hD : dd a.data.toList with
    | true => rw [if_pos rfl]; rfl
    | false =>
     rw [if_neg (by simp), show (0 : Int) = ((0 : Nat) : Int) from rfl, hlo]
     simp
 ·
  rw [if_pos (by omega), names_Bucket.j0, if_pos rfl, decide_eq_false h2]; rfl
abbrev rdC (l : List Piece) (i : Nat) : Piece := rd_T82 l (i : Int)
abbrev rdK (l : List Pick) (i : Nat) : Pick := rd_T62 l (i : Int)
theorem dropC (l : List Piece) (i : Nat) (h : i < l.length) : l.drop i = rdC l i :: l.drop (i + 1) := by
 rw [List.drop_eq_getElem_cons h]
 congr 1
 show l[i] = l.getD (i : Int).toNat _
 rw [Int.toNat_natCast, List.getD_eq_getElem?_getD, List.getElem?_eq_getElem h]
 rfl
theorem dropK (l : List Pick) (i : Nat) (h : i < l.length) : l.drop i = rdK l i :: l.drop (i + 1) := by
 rw [List.drop_eq_getElem_cons h]
 congr 1
 show l[i] = l.getD (i : Int).toNat _
 rw [Int.toNat_natCast, List.getD_eq_getElem?_getD, List.getElem?_eq_getElem h]
 rfl
theorem memC (l : List Piece) (i : Nat) (h : i < l.length) : rdC l i ∈ l := by
 have : rdC l i ∈ l.drop i := by rw [dropC l i h]; exact List.mem_cons_self
 exact List.mem_of_mem_drop this
theorem memK (l : List Pick) (i : Nat) (h : i < l.length) : rdK l i ∈ l := by
 have : rdK l i ∈ l.drop i := by rw [dropK l i h]; exact List.mem_cons_self
 exact List.mem_of_mem_drop this
def D (a : ByteArray) : Bool := a.data.toList.all Sha.hb && decide (a.size = 64)
theorem digits_go (a : ByteArray) (hs : a.size ≤ 1048576) : ∀ n i k, i + n = a.size → n < k → chain_digits.l0 k a (a.size : Int) (i : Int) = some ((a.data.toList.drop i).all Sha.hb && decide (a.size = 64)) := by
 intro n
 induction n with
 | zero =>
  intro i k hi hk
  obtain ⟨k, rfl⟩ : ∃ j, k = j + 1 := ⟨k - 1, by omega⟩
  rw [chain_digits.l0, if_neg (by omega), List.drop_of_length_le (by rw [len_eq]; omega)]
  simp only [List.all_nil, Bool.true_and]
  congr 1
  by_cases h : a.size = 64
  ·
   simp [h]
  ·
   rw [decide_eq_false h]
   simpa using (show ¬ (a.size : Int) = 64 by omega)
 | succ n ih =>
  intro i k hi hk
  obtain ⟨k, rfl⟩ : ∃ j, k = j + 1 := ⟨k - 1, by omega⟩
  obtain ⟨c, hd, hb⟩ := bt_get a i (by omega)
  rw [chain_digits.l0, if_pos (by omega), if_pos (by omega), if_pos (by omega), hb, hd, List.all_cons, w1 i (by omega), ih (i + 1) k (by omega) (by omega)]
  by_cases h1 : (c.toNat : Int) < 48
  ·
   rw [if_pos h1, if_pos (by omega)]
   have : Sha.hb c = false := by simp [Sha.hb]; omega
   rw [this, Bool.false_and, Bool.false_and]
  ·
   rw [if_neg h1]
   by_cases h2 : (c.toNat : Int) > 57
   ·
    rw [if_pos h2]
    by_cases h3 : (c.toNat : Int) < 97
    ·
     rw [if_pos h3]
     have : Sha.hb c = false := by simp [Sha.hb]; omega
     rw [this, Bool.false_and, Bool.false_and]
    ·
     rw [if_neg h3]
     by_cases h4 : (c.toNat : Int) > 102
     ·
      rw [if_pos h4]
      have : Sha.hb c = false := by simp [Sha.hb]; omega
      rw [this, Bool.false_and, Bool.false_and]
     ·
      rw [if_neg h4]
      have : Sha.hb c = true := by simp [Sha.hb]; omega
      rw [this, Bool.true_and]
   ·
    rw [if_neg h2]
    have : Sha.hb c = true := by simp [Sha.hb]; omega
    rw [this, Bool.true_and]
theorem digits_eq (a : ByteArray) (hs : a.size ≤ 1048576) (k : Nat) (hk : 1048577 ≤ k) : chain_digits.f k a = some (D a) := digits_go a hs a.size 0 k (by omega) (by omega)
def pcs : List Piece → Int → Int × Int
 | [], s => (s, 0)
 | y :: r, s => if D y.f0 = true ∧ 1 ≤ y.f1 ∧ y.f1 ≤ 4096 then pcs r (s + y.f1) else (0, 1)
def Pc (l : List Piece) : Int × Int := if 512 < l.length then (0, 1) else pcs l 0
theorem pieces_go (l : List Piece) (hl : l.length ≤ 512) (hs : ∀ y ∈ l, y.f0.size ≤ 1048576) : ∀ n i k (s : Int), i + n = l.length → n + 1048577 < k → 0 ≤ s → s ≤ 4096 * i → chain_Pieces.l0 k s l (l.length : Int) (i : Int) = some (pcs (l.drop i) s) := by
 intro n
 induction n with
 | zero =>
  intro i k s hi hk h0 h1
  obtain ⟨k, rfl⟩ : ∃ j, k = j + 1 := ⟨k - 1, by omega⟩
  rw [chain_Pieces.l0, if_neg (by omega), List.drop_of_length_le (by omega)]
  rfl
 | succ n ih =>
  intro i k s hi hk h0 h1
  obtain ⟨k, rfl⟩ : ∃ j, k = j + 1 := ⟨k - 1, by omega⟩
  rw [chain_Pieces.l0, if_pos (by omega), if_pos (by omega), if_pos (by omega), digits_eq _ (hs _ (memC l i (by omega))) k (by omega), Option.bind_some, dropC l i (by omega), pcs, w1 i (by omega)]
  show (if D (rdC l i).f0 = true then (if (rdC l i).f1 < 1 then some (0, 1) else (if (rdC l i).f1 > 4096 then some (0, 1) else chain_Pieces.l0 k (wrap64 (s + (rdC l i).f1)) l (l.length : Int) ((i + 1 : Nat) : Int))) else some (0, 1)) = _
  by_cases hd : D (rdC l i).f0 = true
  ·
   rw [if_pos hd]
   by_cases h2 : (rdC l i).f1 < 1
   ·
    rw [if_pos h2, if_neg (by omega)]
   ·
    rw [if_neg h2]
    by_cases h3 : (rdC l i).f1 > 4096
    ·
     rw [if_pos h3, if_neg (by omega)]
    ·
     rw [if_neg h3, if_pos ⟨hd, by omega, by omega⟩, IntWalk.wrap64_in _ (by omega), ih (i + 1) k _ (by omega) (by omega) (by omega) (by omega)]
  ·
   rw [if_neg hd, if_neg (by intro h; exact hd h.1)]
theorem pieces_eq (l : List Piece) (hs : ∀ y ∈ l, y.f0.size ≤ 1048576) (k : Nat) (hk : 1049100 ≤ k) : chain_Pieces.f k l = some (Pc l) := by
 unfold chain_Pieces.f Pc
 by_cases h : 512 < l.length
 ·
  rw [if_pos (by omega), if_pos h]
 ·
  rw [if_neg (by omega), if_neg h]
  exact pieces_go l (by omega) hs l.length 0 k 0 (by omega) (by omega) (by omega) (by omega)
theorem unhex_some : ∀ l : List UInt8, l.length % 2 = 0 → (Sha.unhexL l).isSome = l.all Sha.hb
 | [], _ => rfl
 | [_], h => by simp at h
 | a :: b :: r, h => by
  have ih := unhex_some r (by simp at h; omega)
  rw [Sha.unhexL, List.all_cons, List.all_cons]
  cases h1 : Sha.hb a
  ·
   simp
  ·
   cases h2 : Sha.hb b
   ·
    simp
   ·
    simp [ih]
theorem unhex_len : ∀ (l : List UInt8) (r : List (BitVec 8)), Sha.unhexL l = some r → l.length = 2 * r.length
 | [], r, h => by
  rw [Sha.unhexL] at h
  cases h
  rfl
 | [_], r, h => by rw [Sha.unhexL] at h; cases h
 | a :: b :: l, r, h => by
  rw [Sha.unhexL] at h
  split at h
  ·
   cases hq : Sha.unhexL l with
   | none => rw [hq] at h; cases h
   | some q =>
    rw [hq] at h
    cases h
    have := unhex_len l q hq
    simp only [List.length_cons]
    omega
  ·
   cases h
theorem cd_eq (a : ByteArray) (hs : a.size ≤ 1073741824) : cmd_digits.f a = some (D a) := by
 unfold cmd_digits.f
 have hU : digest_Unhex.f a = some (Sha.unhexR (Sha.unhexL a.data.toList)) := by
  show Sha.unhexF a = _
  unfold Sha.unhexF
  rw [if_pos (by omega)]
 rw [hU, Option.bind_some]
 unfold D
 cases h : Sha.unhexL a.data.toList with
 | none =>
  show (if (3 : Int) = 0 then _ else some false) = _
  rw [if_neg (by decide)]
  by_cases h6 : a.size = 64
  ·
   have hi := unhex_some a.data.toList (by rw [len_eq, h6])
   rw [h] at hi
   rw [← hi]
   rfl
  ·
   rw [decide_eq_false h6, Bool.and_false]
 | some r =>
  show (if (0 : Int) = 0 then some ((((Sha.ofB r).size : Nat) : Int) == 32) else _) = _
  have hl := unhex_len _ _ h
  rw [len_eq] at hl
  rw [if_pos rfl, Sha.ofB_size]
  by_cases h6 : a.size = 64
  ·
   have hi := unhex_some a.data.toList (by rw [len_eq, h6])
   rw [h] at hi
   rw [← hi, decide_eq_true h6, show r.length = 32 by omega]
   rfl
  ·
   rw [decide_eq_false h6, Bool.and_false]
   congr 1
   exact beq_eq_false_iff_ne.2 (by omega)
def fb (n : Int) : Int := if n = 1 ∨ n = 2 then 3 else if n = 3 then 103 else if n = 4 ∨ n = 6 then 7 else if n = 5 ∨ n = 9 then 15 else if n = 7 then 127 else if n = 8 then 143 else if n = 10 then 8 else 0
theorem fields_eq (n : Int) (k : Nat) (hk : 10 ≤ k) : cmd_fields.f k n = some (fb n) := by
 have go : ∀ m, cmd_fields.f 10 m = some (fb m) → n = m → cmd_fields.f k n = some (fb n) := by
  intro m h1 h3
  subst h3
  exact up_to (f := fun k => cmd_fields.f k n) (fun k => cmd_fields.mono _ k) h1 hk
 by_cases h1 : n = 1
 ·
  exact go 1 (by kernel_rfl) h1
 by_cases h2 : n = 2
 ·
  exact go 2 (by kernel_rfl) h2
 by_cases h3 : n = 3
 ·
  exact go 3 (by kernel_rfl) h3
 by_cases h4 : n = 4
 ·
  exact go 4 (by kernel_rfl) h4
 by_cases h5 : n = 5
 ·
  exact go 5 (by kernel_rfl) h5
 by_cases h6 : n = 6
 ·
  exact go 6 (by kernel_rfl) h6
 by_cases h7 : n = 7
 ·
  exact go 7 (by kernel_rfl) h7
 by_cases h8 : n = 8
 ·
  exact go 8 (by kernel_rfl) h8
 by_cases h9 : n = 9
 ·
  exact go 9 (by kernel_rfl) h9
 by_cases h10 : n = 10
 ·
  exact go 10 (by kernel_rfl) h10
 obtain ⟨k, rfl⟩ : ∃ j, k = j + 1 + 1 + 1 := ⟨k - 3, by omega⟩
 have e : ∀ m : Int, n ≠ m → (n == m) = false := fun m h => beq_eq_false_iff_ne.2 h
 unfold cmd_fields.f fb
 rw [if_neg h1, e 2 h2, cmd_fields.j0, if_neg (by decide), if_neg h3, if_neg h4, e 6 h6, cmd_fields.j1, if_neg (by decide), if_neg h5, e 9 h9, cmd_fields.j2, if_neg (by decide), if_neg h7, if_neg h8, if_neg h10]
 rw [if_neg (by omega), if_neg h3, if_neg (by omega), if_neg (by omega), if_neg h7, if_neg h8, if_neg h10]
theorem fb_kind (n : Int) (h : fb n ≠ 0) : n = 1 ∨ n = 2 ∨ n = 3 ∨ n = 4 ∨ n = 5 ∨ n = 6 ∨ n = 7 ∨ n = 8 ∨ n = 9 ∨ n = 10 := by
 unfold fb at h
 omega
abbrev ba (f bit : Int) : Int := Go.bits .and .i64 f bit
def pk (p : Pick) : Bool := decide (0 ≤ p.f0 ∧ p.f0 ≤ 100) && D p.f1
theorem ck_l0 (l : List Pick) (hl : l.length ≤ 1073741824) (hs : ∀ y ∈ l, y.f1.size ≤ 1073741824) : ∀ n i k (b : Bool), i + n = l.length → n < k → cmd_Check.l0 k b l (l.length : Int) (i : Int) = some (if b = false ∧ (l.drop i).all pk = true then 0 else 1) := by
 intro n
 induction n with
 | zero =>
  intro i k b hi hk
  obtain ⟨k, rfl⟩ : ∃ j, k = j + 1 := ⟨k - 1, by omega⟩
  rw [cmd_Check.l0, if_neg (by omega), List.drop_of_length_le (by omega)]
  cases b <;> rfl
 | succ n ih =>
  intro i k b hi hk
  obtain ⟨k, rfl⟩ : ∃ j, k = j + 1 := ⟨k - 1, by omega⟩
  have IH := fun b => ih (i + 1) k b (by omega) (by omega)
  rw [cmd_Check.l0, if_pos (by omega), if_pos (by omega), if_pos (by omega), w1 i (by omega), dropK l i (by omega), List.all_cons]
  show (if b = true then _ else if (rdK l i).f0 < 0 then _ else if (rdK l i).f0 > 100 then _ else (cmd_digits.f (rdK l i).f1).bind _) = _
  rw [cd_eq _ (hs _ (memK l i (by omega))), Option.bind_some, IH, IH]
  have hpk : pk (rdK l i) = (decide (0 ≤ (rdK l i).f0 ∧ (rdK l i).f0 ≤ 100) && D (rdK l i).f1) := rfl
  rw [hpk]
  cases b with
  | true => simp
  | false =>
   rw [if_neg (by decide)]
   by_cases h1 : (rdK l i).f0 < 0
   ·
    rw [if_pos h1, decide_eq_false (by omega)]; simp
   ·
    rw [if_neg h1]
    by_cases h2 : (rdK l i).f0 > 100
    ·
     rw [if_pos h2, decide_eq_false (by omega)]; simp
    ·
     rw [if_neg h2, decide_eq_true (by omega)]
     cases D (rdK l i).f1 <;> simp
theorem ck_j2 (b : Bool) (a0 : Int) (a1 a2 a3 : ByteArray) (a4 a5 : Int) (a6 : ByteArray) (ps : List Piece) (l : List Pick) (hl : l.length ≤ 1073741824) (hs : ∀ y ∈ l, y.f1.size ≤ 1073741824) (k : Nat) (hk : 1073741826 ≤ k) :
  cmd_Check.j2 k b a0 a1 a2 a3 a4 a5 a6 ps l = some (if b = false ∧ l.all pk = true then 0 else 1) := by
 obtain ⟨k, rfl⟩ : ∃ j, k = j + 1 := ⟨k - 1, by omega⟩
 rw [cmd_Check.j2]
 exact ck_l0 l hl hs l.length 0 k b (by omega) (by omega)
def Q (f a0 a4 a5 : Int) (n : Nat) : Prop := 0 ≤ a4 ∧ a4 ≤ 1099511627776 ∧ (ba f 8 ≠ 0 → a4 = 0 → a0 = 10) ∧ 0 ≤ a5 ∧ a5 ≤ 100 ∧ (ba f 16 ≠ 0 → a5 ≠ 0) ∧ n ≤ 100
instance (f a0 a4 a5 : Int) (n : Nat) : Decidable (Q f a0 a4 a5 n) := by unfold Q; infer_instance
theorem ck_j1 (f : Int) (b : Bool) (a0 : Int) (a1 a2 a3 : ByteArray) (a4 a5 : Int) (a6 : ByteArray) (ps : List Piece) (l : List Pick) (hl : l.length ≤ 1073741824) (hs : ∀ y ∈ l, y.f1.size ≤ 1073741824) (k : Nat) (hk : 1073741827 ≤ k) :
  cmd_Check.j1 k f b a0 a1 a2 a3 a4 a5 a6 ps l = some (if b = false ∧ Q f a0 a4 a5 l.length ∧ l.all pk = true then 0 else 1) := by
 obtain ⟨k, rfl⟩ : ∃ j, k = j + 1 := ⟨k - 1, by omega⟩
 have J := fun c => ck_j2 c a0 a1 a2 a3 a4 a5 a6 ps l hl hs k (by omega)
 have no : ¬ Q f a0 a4 a5 l.length → cmd_Check.j2 k true a0 a1 a2 a3 a4 a5 a6 ps l = some (if b = false ∧ Q f a0 a4 a5 l.length ∧ l.all pk = true then 0 else 1) := fun h => by
  rw [J, if_neg (by simp), if_neg (fun g => h g.2.1)]
 have yes : b = false → (l.length ≤ 100 → Q f a0 a4 a5 l.length) → cmd_Check.j2 k (decide ((l.length : Int) > 100)) a0 a1 a2 a3 a4 a5 a6 ps l = some (if b = false ∧ Q f a0 a4 a5 l.length ∧ l.all pk = true then 0 else 1) := fun hb h => by
  rw [J]
  by_cases hn : l.length ≤ 100
  ·
   rw [decide_eq_false (by omega)]
   simp only [hb, h hn, true_and]
  ·
   rw [decide_eq_true (by omega), if_neg (by simp), if_neg (fun g => hn g.2.1.2.2.2.2.2.2)]
 rw [cmd_Check.j1]
 cases b with
 | true => rw [if_pos rfl, J, if_neg (by simp), if_neg (by simp)]
 | false =>
  rw [if_neg (by decide)]
  unfold Q ba at no yes ⊢
  repeat' (first | exact no (by omega) | exact yes rfl (by intro hn; omega) | split)
def R_ (f : Int) (a2 a3 a6 : ByteArray) (ps : List Piece) : Prop := (ba f 2 ≠ 0 → bucketOk a2 = true) ∧ (ba f 4 ≠ 0 → keyOk a3 = true) ∧ (ba f 32 ≠ 0 → D a6 = true) ∧ (Pc ps).2 = 0 ∧ (Pc ps).1 ≤ 1048576
instance (f : Int) (a2 a3 a6 : ByteArray) (ps : List Piece) : Decidable (R_ f a2 a3 a6 ps) := by unfold R_; infer_instance
structure SmallCmd (a1 a2 a3 a6 : ByteArray) (ps : List Piece) (l : List Pick) : Prop where
 s1 : a1.size ≤ 1073741824
 s2 : a2.size ≤ 1073741824
 s3 : a3.size ≤ 1073741824
 s6 : a6.size ≤ 1073741824
 hp : ps.length ≤ 1048576
 sp : ∀ y ∈ ps, y.f0.size ≤ 1048576
 hl : l.length ≤ 1048576
 sl : ∀ y ∈ l, y.f1.size ≤ 1073741824
theorem ck_j0 (f : Int) (b : Bool) (a0 : Int) (a1 a2 a3 : ByteArray) (a4 a5 : Int) (a6 : ByteArray) (ps : List Piece) (l : List Pick) (h : SmallCmd a1 a2 a3 a6 ps l) (k : Nat) (hk : 1073741828 ≤ k) :
  cmd_Check.j0 k f b a0 a1 a2 a3 a4 a5 a6 ps l = some (if b = false ∧ R_ f a2 a3 a6 ps ∧ Q f a0 a4 a5 l.length ∧ l.all pk = true then 0 else 1) := by
 obtain ⟨k, rfl⟩ : ∃ j, k = j + 1 := ⟨k - 1, by omega⟩
 have J := fun c => ck_j1 f c a0 a1 a2 a3 a4 a5 a6 ps l (by have := h.hl; omega) h.sl k (by omega)
 cases b with
 | true => rw [cmd_Check.j0, if_pos rfl, if_neg (by simp)]
 | false =>
  obtain ⟨X, hX⟩ : ∃ X, X = some (if false = false ∧ R_ f a2 a3 a6 ps ∧ Q f a0 a4 a5 l.length ∧ l.all pk = true then (0 : Int) else 1) := ⟨_, rfl⟩
  rw [← hX]
  have no : ¬ R_ f a2 a3 a6 ps → cmd_Check.j1 k f true a0 a1 a2 a3 a4 a5 a6 ps l = X := fun h => by
   rw [hX, J, if_neg (by simp), if_neg (fun g => h g.2.1)]
  have yes : ((Pc ps).1 ≤ 1048576 → R_ f a2 a3 a6 ps) → cmd_Check.j1 k f (decide ((Pc ps).1 > 1048576)) a0 a1 a2 a3 a4 a5 a6 ps l = X := fun h => by
   rw [hX, J]
   by_cases hn : (Pc ps).1 ≤ 1048576
   ·
    rw [decide_eq_false (by omega)]
    simp only [h hn, true_and]
   ·
    rw [decide_eq_true (by omega), if_neg (by simp), if_neg (fun g => hn g.2.1.2.2.2.2)]
  rw [cmd_Check.j0, if_neg (by decide), pieces_eq ps h.sp k (by omega), Option.bind_some, names_Bucket_eq a2 (by have := h.s2; omega) k (by omega), names_Key_eq a3 (by have := h.s3; omega), cd_eq a6 h.s6]
  simp only [Option.bind_some]
  clear J h hk hX
  unfold R_ ba at no yes
  generalize bucketOk a2 = B2 at no yes ⊢
  generalize keyOk a3 = B3 at no yes ⊢
  generalize D a6 = B6 at no yes ⊢
  generalize (Pc ps).1 = P1 at no yes ⊢
  generalize (Pc ps).2 = P2 at no yes ⊢
  generalize Go.bits .and .i64 f 2 = f2 at no yes ⊢
  generalize Go.bits .and .i64 f 4 = f4 at no yes ⊢
  generalize Go.bits .and .i64 f 32 = f32 at no yes ⊢
  repeat' (first | exact no (by clear no yes; simp_all) | exact yes (by clear no yes; intro hn; simp_all) | split)
theorem ba_ext (a b : ByteArray) : a.toList = b.toList ↔ a = b := by
 rw [ByteArray.toList_eq, ByteArray.toList_eq]
 exact ⟨fun h => ByteArray.ext (Array.ext' h), fun h => by rw [h]⟩
theorem ba_nil (a : ByteArray) : (⟨#[]⟩ : ByteArray) = a ↔ a.size = 0 := by
 constructor
 ·
  rintro rfl; rfl
 ·
  intro h
  apply ByteArray.ext
  apply Array.ext'
  have : a.data.toList = [] := List.length_eq_zero_iff.1 (by rw [len_eq]; exact h)
  rw [this]
theorem pieces_self (l : List Piece) (hl : l.length ≤ 1073741824) : ∀ n i k, i + n = l.length → n < k → api_Piece_68.l0 k l l (l.length : Int) (i : Int) = some true := by
 intro n
 induction n with
 | zero =>
  intro i k hi hk
  obtain ⟨k, rfl⟩ : ∃ j, k = j + 1 := ⟨k - 1, by omega⟩
  rw [api_Piece_68.l0, if_neg (by omega)]
 | succ n ih =>
  intro i k hi hk
  obtain ⟨k, rfl⟩ : ∃ j, k = j + 1 := ⟨k - 1, by omega⟩
  rw [api_Piece_68.l0, if_pos (by omega), if_pos (by omega), if_pos (by omega), if_pos (by omega), if_neg (by simp), w1 i (by omega)]
  exact ih (i + 1) k (by omega) (by omega)
theorem picks_self (l : List Pick) (hl : l.length ≤ 1073741824) : ∀ n i k, i + n = l.length → n < k → api_Pick_69.l0 k l l (l.length : Int) (i : Int) = some true := by
 intro n
 induction n with
 | zero =>
  intro i k hi hk
  obtain ⟨k, rfl⟩ : ∃ j, k = j + 1 := ⟨k - 1, by omega⟩
  rw [api_Pick_69.l0, if_neg (by omega)]
 | succ n ih =>
  intro i k hi hk
  obtain ⟨k, rfl⟩ : ∃ j, k = j + 1 := ⟨k - 1, by omega⟩
  rw [api_Pick_69.l0, if_pos (by omega), if_pos (by omega), if_pos (by omega), if_pos (by omega), if_neg (by simp), w1 i (by omega)]
  exact ih (i + 1) k (by omega) (by omega)
def Z (f : Int) (a1 a2 a3 : ByteArray) (a4 a5 : Int) (a6 : ByteArray) (ps : List Piece) (l : List Pick) : Prop :=
 (ba f 1 = 0 → a1.size = 0) ∧ (ba f 2 = 0 → a2.size = 0) ∧ (ba f 4 = 0 → a3.size = 0) ∧ (ba f 8 = 0 → a4 = 0) ∧ (ba f 16 = 0 → a5 = 0) ∧ (ba f 32 = 0 → a6.size = 0) ∧ (ba f 64 = 0 → ps.length = 0) ∧ (ba f 128 = 0 → l.length = 0)
instance (f : Int) (a1 a2 a3 : ByteArray) (a4 a5 : Int) (a6 : ByteArray) (ps : List Piece) (l : List Pick) : Decidable (Z f a1 a2 a3 a4 a5 a6 ps l) := by unfold Z; infer_instance
theorem cut_t_eq (f bit : Int) (s : ByteArray) : (cmd_cut_t f bit s).toList = s.toList ↔ (ba f bit = 0 → s.size = 0) := by
 unfold cmd_cut_t
 rw [ba_ext]
 by_cases h : ba f bit = 0
 ·
  have : (Go.bits .and .i64 f bit != 0) = false := bne_eq_false_iff_eq.2 h
  rw [this, if_neg (by decide), ba_nil]
  exact ⟨fun g _ => g, fun g => g h⟩
 ·
  have : (Go.bits .and .i64 f bit != 0) = true := bne_iff_ne.2 h
  rw [this, if_pos rfl]
  exact ⟨fun _ g => absurd g h, fun _ => rfl⟩
theorem cut_n_eq (f bit n : Int) : cmd_cut_n f bit n = n ↔ (ba f bit = 0 → n = 0) := by
 unfold cmd_cut_n
 by_cases h : ba f bit = 0
 ·
  have : (Go.bits .and .i64 f bit != 0) = false := bne_eq_false_iff_eq.2 h
  rw [this, if_neg (by decide)]
  exact ⟨fun g _ => g.symm, fun g => (g h).symm⟩
 ·
  have : (Go.bits .and .i64 f bit != 0) = true := bne_iff_ne.2 h
  rw [this, if_pos rfl]
  exact ⟨fun _ g => absurd g h, fun _ => rfl⟩
theorem pieces_cut (f : Int) (ps : List Piece) (hp : ps.length ≤ 1048576) (k : Nat) (hk : 1048580 ≤ k) : ∃ q, (if (Go.bits .and .i64 f 64 != 0) = true then api_Piece_70.f ps else some []) = some q ∧ api_Piece_68.f k q ps = some (decide (ba f 64 = 0 → ps.length = 0)) := by
 by_cases h : ba f 64 = 0
 ·
  have : (Go.bits .and .i64 f 64 != 0) = false := bne_eq_false_iff_eq.2 h
  rw [this, if_neg (by decide)]
  refine ⟨[], rfl, ?_⟩
  unfold api_Piece_68.f
  by_cases h0 : ps.length = 0
  ·
   obtain rfl := List.length_eq_zero_iff.1 h0
   rw [if_pos rfl]
   exact (pieces_self [] (by decide) 0 0 k rfl (by omega)).trans (congrArg some (decide_eq_true (fun _ => rfl)).symm)
  ·
   rw [if_neg (by show ¬ (((0 : Nat) : Int) = _); omega), decide_eq_false (fun g => h0 (g h))]
 ·
  have : (Go.bits .and .i64 f 64 != 0) = true := bne_iff_ne.2 h
  rw [this, if_pos rfl]
  refine ⟨ps, ?_, ?_⟩
  ·
   unfold api_Piece_70.f
   rw [if_pos (by omega)]
  ·
   unfold api_Piece_68.f
   rw [if_pos rfl, decide_eq_true (fun g => absurd g h)]
   exact pieces_self ps (by omega) ps.length 0 k (by omega) (by omega)
theorem picks_cut (f : Int) (l : List Pick) (hp : l.length ≤ 1048576) (k : Nat) (hk : 1048580 ≤ k) : ∃ q, (if (Go.bits .and .i64 f 128 != 0) = true then api_Pick_71.f l else some []) = some q ∧ api_Pick_69.f k q l = some (decide (ba f 128 = 0 → l.length = 0)) := by
 by_cases h : ba f 128 = 0
 ·
  have : (Go.bits .and .i64 f 128 != 0) = false := bne_eq_false_iff_eq.2 h
  rw [this, if_neg (by decide)]
  refine ⟨[], rfl, ?_⟩
  unfold api_Pick_69.f
  by_cases h0 : l.length = 0
  ·
   obtain rfl := List.length_eq_zero_iff.1 h0
   rw [if_pos rfl]
   exact (picks_self [] (by decide) 0 0 k rfl (by omega)).trans (congrArg some (decide_eq_true (fun _ => rfl)).symm)
  ·
   rw [if_neg (by show ¬ (((0 : Nat) : Int) = _); omega), decide_eq_false (fun g => h0 (g h))]
 ·
  have : (Go.bits .and .i64 f 128 != 0) = true := bne_iff_ne.2 h
  rw [this, if_pos rfl]
  refine ⟨l, ?_, ?_⟩
  ·
   unfold api_Pick_71.f
   rw [if_pos (by omega)]
  ·
   unfold api_Pick_69.f
   rw [if_pos rfl, decide_eq_true (fun g => absurd g h)]
   exact picks_self l (by omega) l.length 0 k (by omega) (by omega)
theorem cut_same (f a0 : Int) (a1 a2 a3 : ByteArray) (a4 a5 : Int) (a6 : ByteArray) (ps : List Piece) (l : List Pick) (hp : ps.length ≤ 1048576) (hl : l.length ≤ 1048576) (k : Nat) (hk : 1048580 ≤ k) :
  ∃ c, cmd_cut.f a0 a1 a2 a3 a4 a5 a6 ps l f = some c ∧ cmd_same.f k c.1 c.2.1 c.2.2.1 c.2.2.2.1 c.2.2.2.2.1 c.2.2.2.2.2.1 c.2.2.2.2.2.2.1 c.2.2.2.2.2.2.2.1 c.2.2.2.2.2.2.2.2 a0 a1 a2 a3 a4 a5 a6 ps l = some (decide (Z f a1 a2 a3 a4 a5 a6 ps l)) := by
 obtain ⟨q1, h1, g1⟩ := pieces_cut f ps hp k hk
 obtain ⟨q2, h2, g2⟩ := picks_cut f l hl k hk
 refine ⟨_, by unfold cmd_cut.f; rw [h1, Option.bind_some, h2, Option.bind_some], ?_⟩
 unfold cmd_same.f
 show (if a0 = a0 then (if (cmd_cut_t f 1 a1).toList = a1.toList then (if (cmd_cut_t f 2 a2).toList = a2.toList then (if (cmd_cut_t f 4 a3).toList = a3.toList then (if cmd_cut_n f 8 a4 = a4 then (if cmd_cut_n f 16 a5 = a5 then (if (cmd_cut_t f 32 a6).toList = a6.toList then ((api_Piece_68.f k q1 ps).bind fun t107 => (if t107 = true then ((api_Pick_69.f k q2 l).bind fun t108 => (some t108)) else (some false))) else (some false)) else (some false)) else (some false)) else (some false)) else (some false)) else (some false)) else (some false)) = _
 rw [g1, g2, if_pos rfl]
 simp only [Option.bind_some, cut_t_eq, cut_n_eq, decide_eq_true_eq]
 by_cases e1 : ba f 1 = 0 → a1.size = 0
 ·
  rw [if_pos e1]
  by_cases e2 : ba f 2 = 0 → a2.size = 0
  ·
   rw [if_pos e2]
   by_cases e3 : ba f 4 = 0 → a3.size = 0
   ·
    rw [if_pos e3]
    by_cases e4 : ba f 8 = 0 → a4 = 0
    ·
     rw [if_pos e4]
     by_cases e5 : ba f 16 = 0 → a5 = 0
     ·
      rw [if_pos e5]
      by_cases e6 : ba f 32 = 0 → a6.size = 0
      ·
       rw [if_pos e6]
       by_cases e7 : ba f 64 = 0 → ps.length = 0
       ·
        rw [if_pos e7]
        congr 1
        exact decide_eq_decide.2 ⟨fun g => ⟨e1, e2, e3, e4, e5, e6, e7, g⟩, fun g => g.2.2.2.2.2.2.2⟩
       ·
        rw [if_neg e7, decide_eq_false (fun g => e7 g.2.2.2.2.2.2.1)]
      ·
       rw [if_neg e6, decide_eq_false (fun g => e6 g.2.2.2.2.2.1)]
     ·
      rw [if_neg e5, decide_eq_false (fun g => e5 g.2.2.2.2.1)]
    ·
     rw [if_neg e4, decide_eq_false (fun g => e4 g.2.2.2.1)]
   ·
    rw [if_neg e3, decide_eq_false (fun g => e3 g.2.2.1)]
  ·
   rw [if_neg e2, decide_eq_false (fun g => e2 g.2.1)]
 ·
  rw [if_neg e1, decide_eq_false (fun g => e1 g.1)]
def CK (a0 : Int) (a1 a2 a3 : ByteArray) (a4 a5 : Int) (a6 : ByteArray) (ps : List Piece) (l : List Pick) : Prop :=
 fb a0 ≠ 0 ∧ Z (fb a0) a1 a2 a3 a4 a5 a6 ps l ∧ (a1.size ≠ 0 → tokOk a1 = true) ∧ R_ (fb a0) a2 a3 a6 ps ∧ Q (fb a0) a0 a4 a5 l.length ∧ l.all pk = true
instance (a0 : Int) (a1 a2 a3 : ByteArray) (a4 a5 : Int) (a6 : ByteArray) (ps : List Piece) (l : List Pick) : Decidable (CK a0 a1 a2 a3 a4 a5 a6 ps l) := by unfold CK; infer_instance
theorem check_eq (a0 : Int) (a1 a2 a3 : ByteArray) (a4 a5 : Int) (a6 : ByteArray) (ps : List Piece) (l : List Pick) (h : SmallCmd a1 a2 a3 a6 ps l) (k : Nat) (hk : 1073741828 ≤ k) :
  cmd_Check.f k a0 a1 a2 a3 a4 a5 a6 ps l = some (if CK a0 a1 a2 a3 a4 a5 a6 ps l then 0 else 1) := by
 have J := fun b => ck_j0 (fb a0) b a0 a1 a2 a3 a4 a5 a6 ps l h k hk
 have J1 : cmd_Check.j0 k (fb a0) true a0 a1 a2 a3 a4 a5 a6 ps l = some 1 := by rw [J true, if_neg (by simp)]
 unfold cmd_Check.f
 rw [fields_eq a0 k (by omega), Option.bind_some, J1]
 by_cases h0 : fb a0 = 0
 ·
  rw [if_pos h0, if_neg (fun g => g.1 h0)]
 ·
  rw [if_neg h0]
  obtain ⟨c, g1, g2⟩ := cut_same (fb a0) a0 a1 a2 a3 a4 a5 a6 ps l h.hp h.hl k (by omega)
  rw [g1, Option.bind_some, g2, Option.bind_some]
  by_cases hz : Z (fb a0) a1 a2 a3 a4 a5 a6 ps l
  ·
   rw [if_pos (decide_eq_true hz)]
   by_cases h1 : a1.size = 0
   ·
    rw [if_pos ((toList_nil a1).2 h1), J false]
    congr 1
    by_cases hr : R_ (fb a0) a2 a3 a6 ps ∧ Q (fb a0) a0 a4 a5 l.length ∧ l.all pk = true
    ·
     rw [if_pos ⟨rfl, hr⟩, if_pos ⟨h0, hz, fun g => absurd h1 g, hr⟩]
    ·
     rw [if_neg (fun g => hr g.2), if_neg (fun g => hr g.2.2.2)]
   ·
    rw [if_neg (fun g => h1 ((toList_nil a1).1 g)), names_Token_eq a1 h.s1 k (by omega), Option.bind_some]
    cases ht : tokOk a1 with
    | false =>
     rw [Bool.not_false, J1, if_neg (fun g => by have := g.2.2.1 h1; rw [ht] at this; cases this)]
    | true =>
     rw [Bool.not_true, J false]
     congr 1
     by_cases hr : R_ (fb a0) a2 a3 a6 ps ∧ Q (fb a0) a0 a4 a5 l.length ∧ l.all pk = true
     ·
      rw [if_pos ⟨rfl, hr⟩, if_pos ⟨h0, hz, fun _ => ht, hr⟩]
     ·
      rw [if_neg (fun g => hr g.2), if_neg (fun g => hr g.2.2.2)]
  ·
   rw [if_neg (by simpa using hz), if_neg (fun g => hz g.2.1)]
theorem al (a b : ByteArray) : (a ++ b).data.toList = a.data.toList ++ b.data.toList := by
 rw [ByteArray.data_append, Array.toList_append]
theorem ba_empty (a : ByteArray) (h : a.size = 0) : a = ⟨#[]⟩ := ((ba_nil a).2 h).symm
theorem nil_app (s : ByteArray) : s ++ (⟨#[]⟩ : ByteArray) = s := by
 apply ByteArray.ext; apply Array.ext'; rw [al]; exact List.append_nil _
theorem list_ext (a b : ByteArray) (h : a.data.toList = b.data.toList) : a = b := by
 apply ByteArray.ext; exact Array.ext' h
structure Bd (a0 : Int) (a1 a2 a3 : ByteArray) (a4 a5 : Int) (a6 : ByteArray) (ps : List Piece) (l : List Pick) : Prop where
 k0 : 1 ≤ a0 ∧ a0 ≤ 10
 b1 : a1.size ≤ 64
 b2 : a2.size ≤ 63
 b3 : a3.size ≤ 1024
 b4 : 0 ≤ a4 ∧ a4 ≤ 1099511627776
 b5 : 0 ≤ a5 ∧ a5 ≤ 100
 b6 : a6.size ≤ 64
 hp : ps.length ≤ 512
 bp : ∀ y ∈ ps, y.f0.size ≤ 64 ∧ 1 ≤ y.f1 ∧ y.f1 ≤ 4096
 hl : l.length ≤ 100
 bl : ∀ y ∈ l, y.f1.size ≤ 64 ∧ 0 ≤ y.f0 ∧ y.f0 ≤ 100
theorem D_size (a : ByteArray) (h : D a = true) : a.size = 64 := by
 unfold D at h
 rw [Bool.and_eq_true, decide_eq_true_eq] at h
 exact h.2
theorem pcs_all : ∀ (l : List Piece) (s : Int), (pcs l s).2 = 0 → ∀ y ∈ l, y.f0.size ≤ 64 ∧ 1 ≤ y.f1 ∧ y.f1 ≤ 4096
 | [], _, _, y, hy => by cases hy
 | x :: r, s, h, y, hy => by
  rw [pcs] at h
  by_cases hc : D x.f0 = true ∧ 1 ≤ x.f1 ∧ x.f1 ≤ 4096
  ·
   rw [if_pos hc] at h
   rcases List.mem_cons.1 hy with rfl | hy
   ·
    exact ⟨Nat.le_of_eq (D_size _ hc.1), hc.2⟩
   ·
    exact pcs_all r _ h y hy
  ·
   rw [if_neg hc] at h; exact absurd h (by decide)
theorem CK_bd {a0 : Int} {a1 a2 a3 : ByteArray} {a4 a5 : Int} {a6 : ByteArray} {ps : List Piece} {l : List Pick} (h : CK a0 a1 a2 a3 a4 a5 a6 ps l) : Bd a0 a1 a2 a3 a4 a5 a6 ps l := by
 obtain ⟨h0, ⟨z1, z2, z3, z4, z5, z6, z7, z8⟩, ht, ⟨r1, r2, r3, r4, r5⟩, ⟨q1, q2, q3, q4, q5, q6, q7⟩, hk⟩ := h
 have hpl : ps.length ≤ 512 ∧ (pcs ps 0).2 = 0 := by
  unfold Pc at r4
  by_cases hl : 512 < ps.length
  ·
   rw [if_pos hl] at r4; exact absurd r4 (by decide)
  ·
   rw [if_neg hl] at r4; exact ⟨by omega, r4⟩
 refine ⟨by have := fb_kind a0 h0; omega, ?_, ?_, ?_, ⟨q1, q2⟩, ⟨q4, q5⟩, ?_, hpl.1, pcs_all ps 0 hpl.2, q7, ?_⟩
 ·
  by_cases e : a1.size = 0
  ·
   omega
  ·
   have := ht e; unfold tokOk at this; simp only [Bool.and_eq_true, decide_eq_true_eq] at this; omega
 ·
  by_cases e : ba (fb a0) 2 = 0
  ·
   have := z2 e; omega
  ·
   have := r1 e; unfold bucketOk at this; simp only [Bool.and_eq_true, decide_eq_true_eq] at this; omega
 ·
  by_cases e : ba (fb a0) 4 = 0
  ·
   have := z3 e; omega
  ·
   have := r2 e; unfold keyOk at this; simp only [Bool.and_eq_true, decide_eq_true_eq] at this; omega
 ·
  by_cases e : ba (fb a0) 32 = 0
  ·
   have := z6 e; omega
  ·
   have := D_size _ (r3 e); omega
 ·
  intro y hy
  have := List.all_eq_true.1 hk y hy
  unfold pk at this
  simp only [Bool.and_eq_true, decide_eq_true_eq] at this
  exact ⟨Nat.le_of_eq (D_size _ this.2), this.1⟩
def ot (b : Bool) (t : ByteArray) : ByteArray := if b = true then txt t else ⟨#[]⟩
def on (b : Bool) (n : Int) : ByteArray := if b = true then num n else ⟨#[]⟩
def tpB : List Piece → ByteArray
 | [] => ⟨#[]⟩
 | y :: r => (txt y.f0 ++ num y.f1) ++ tpB r
def tkB : List Pick → ByteArray
 | [] => ⟨#[]⟩
 | y :: r => (num y.f0 ++ txt y.f1) ++ tkB r
abbrev nb (f bit : Int) : Bool := Go.bits .and .i64 f bit != 0
def toldB (a0 : Int) (a1 a2 a3 : ByteArray) (a4 a5 : Int) (a6 : ByteArray) (ps : List Piece) (l : List Pick) : ByteArray :=
 num a0 ++ ot (nb (fb a0) 1) a1 ++ ot (nb (fb a0) 2) a2 ++ ot (nb (fb a0) 4) a3 ++ on (nb (fb a0) 8) a4 ++ on (nb (fb a0) 16) a5 ++ ot (nb (fb a0) 32) a6 ++ on (nb (fb a0) 64) (ps.length : Int) ++ tpB ps ++ on (nb (fb a0) 128) (l.length : Int) ++ tkB l
theorem ot_size (b : Bool) (t : ByteArray) : (ot b t).size ≤ t.size + 10 := by
 unfold ot; have := txt_size t; split
 ·
  exact this
 ·
  exact Nat.zero_le _
theorem on_size (b : Bool) (n : Int) : (on b n).size ≤ 10 := by
 unfold on; have := num_size n; split
 ·
  exact this
 ·
  exact Nat.zero_le _
theorem tpB_size : ∀ (l : List Piece), (∀ y ∈ l, y.f0.size ≤ 64) → (tpB l).size ≤ 84 * l.length
 | [], _ => Nat.le_refl _
 | y :: r, h => by
  have h1 := tpB_size r (fun z hz => h z (List.mem_cons_of_mem _ hz))
  have h2 := txt_size y.f0
  have h3 := num_size y.f1
  have h4 := h y List.mem_cons_self
  rw [tpB, ByteArray.size_append, ByteArray.size_append, List.length_cons]
  omega
theorem tkB_size : ∀ (l : List Pick), (∀ y ∈ l, y.f1.size ≤ 64) → (tkB l).size ≤ 84 * l.length
 | [], _ => Nat.le_refl _
 | y :: r, h => by
  have h1 := tkB_size r (fun z hz => h z (List.mem_cons_of_mem _ hz))
  have h2 := txt_size y.f1
  have h3 := num_size y.f0
  have h4 := h y List.mem_cons_self
  rw [tkB, ByteArray.size_append, ByteArray.size_append, List.length_cons]
  omega
theorem told_txt (k : Nat) (b : Bool) (s t : ByteArray) (ht : t.size ≤ 1073741824) (hs : s.size ≤ 1073741824) (hk : 10 ≤ k) : cmd_told_txt k b s t = some (s ++ ot b t) := by
 unfold cmd_told_txt ot
 have := txt_size t
 cases b with
 | false => rw [if_neg (by decide), if_neg (by decide), nil_app]
 | true => rw [if_pos rfl, if_pos rfl, oct_Text t ht k hk, Option.bind_some, if_pos (by omega)]
theorem told_num (k : Nat) (b : Bool) (s : ByteArray) (n : Int) (h0 : 0 ≤ n) (h1 : n ≤ 9223372036854775807) (hs : s.size ≤ 1073741824) (hk : 10 ≤ k) : cmd_told_num k b s n = some (s ++ on b n) := by
 unfold cmd_told_num on
 have := num_size n
 cases b with
 | false => rw [if_neg (by decide), if_neg (by decide), nil_app]
 | true => rw [if_pos rfl, if_pos rfl, IntWalk.u64_in n (by omega), oct_Number n h0 (by omega) k hk, Option.bind_some, if_pos (by omega)]
theorem told_l0 (k : Nat) (hk : 10 ≤ k) : ∀ (l : List Piece) (s : ByteArray), (∀ y ∈ l, y.f0.size ≤ 64 ∧ 1 ≤ y.f1 ∧ y.f1 ≤ 4096) → s.size + 84 * l.length ≤ 1073741824 → cmd_told_l0 k l s = some (s ++ tpB l)
 | [], s, _, _ => by rw [cmd_told_l0, tpB, nil_app]
 | y :: r, s, h, hs => by
  have hy := h y List.mem_cons_self
  have h2 := txt_size y.f0
  have h3 := num_size y.f1
  rw [List.length_cons] at hs
  have hz : (txt y.f0 ++ num y.f1).size ≤ 84 := by rw [ByteArray.size_append]; omega
  rw [cmd_told_l0, oct_Text y.f0 (by omega) k hk, Option.bind_some, IntWalk.u64_in y.f1 (by omega), oct_Number y.f1 (by omega) (by omega) k hk, Option.bind_some, if_pos (by omega), if_pos (by omega),
   told_l0 k hk r _ (fun z hz => h z (List.mem_cons_of_mem _ hz)) (by rw [ByteArray.size_append]; omega), tpB, ba_assoc]
theorem told_l1 (k : Nat) (hk : 10 ≤ k) : ∀ (l : List Pick) (s : ByteArray), (∀ y ∈ l, y.f1.size ≤ 64 ∧ 0 ≤ y.f0 ∧ y.f0 ≤ 100) → s.size + 84 * l.length ≤ 1073741824 → cmd_told_l1 k l s = some (s ++ tkB l)
 | [], s, _, _ => by rw [cmd_told_l1, tkB, nil_app]
 | y :: r, s, h, hs => by
  have hy := h y List.mem_cons_self
  have h2 := txt_size y.f1
  have h3 := num_size y.f0
  rw [List.length_cons] at hs
  have hz : (num y.f0 ++ txt y.f1).size ≤ 84 := by rw [ByteArray.size_append]; omega
  rw [cmd_told_l1, IntWalk.u64_in y.f0 (by omega), oct_Number y.f0 (by omega) (by omega) k hk, Option.bind_some, oct_Text y.f1 (by omega) k hk, Option.bind_some, if_pos (by omega), if_pos (by omega),
   told_l1 k hk r _ (fun z hz => h z (List.mem_cons_of_mem _ hz)) (by rw [ByteArray.size_append]; omega), tkB, ba_assoc]
theorem told_eq {a0 : Int} {a1 a2 a3 : ByteArray} {a4 a5 : Int} {a6 : ByteArray} {ps : List Piece} {l : List Pick} (h : Bd a0 a1 a2 a3 a4 a5 a6 ps l) (k : Nat) (hk : 20 ≤ k) :
  cmd_told.f k a0 a1 a2 a3 a4 a5 a6 ps l = some (toldB a0 a1 a2 a3 a4 a5 a6 ps l) ∧ (toldB a0 a1 a2 a3 a4 a5 a6 ps l).size ≤ 100000 := by
 have q0 := num_size a0
 have q1 := ot_size (nb (fb a0) 1) a1
 have q2 := ot_size (nb (fb a0) 2) a2
 have q3 := ot_size (nb (fb a0) 4) a3
 have q4 := on_size (nb (fb a0) 8) a4
 have q5 := on_size (nb (fb a0) 16) a5
 have q6 := ot_size (nb (fb a0) 32) a6
 have q7 := on_size (nb (fb a0) 64) (ps.length : Int)
 have q8 := tpB_size ps (fun y hy => (h.bp y hy).1)
 have q9 := on_size (nb (fb a0) 128) (l.length : Int)
 have q10 := tkB_size l (fun y hy => (h.bl y hy).1)
 obtain ⟨k0, b1, b2, b3, b4, b5, b6, hp, bp, hl, bl⟩ := h
 constructor
 ·
  unfold cmd_told.f toldB
  rw [fields_eq a0 k (by omega), Option.bind_some, IntWalk.u64_in a0 (by omega), oct_Number a0 (by omega) (by omega) k (by omega), Option.bind_some]
  show ((cmd_told_txt k (nb (fb a0) 1) (num a0) a1).bind fun s1 => (cmd_told_txt k (nb (fb a0) 2) s1 a2).bind fun s2 => (cmd_told_txt k (nb (fb a0) 4) s2 a3).bind fun s3 => (cmd_told_num k (nb (fb a0) 8) s3 a4).bind fun s4 => (cmd_told_num k (nb (fb a0) 16) s4 a5).bind fun s5 => (cmd_told_txt k (nb (fb a0) 32) s5 a6).bind fun s6 => (cmd_told_num k (nb (fb a0) 64) s6 (ps.length : Int)).bind fun s7 => (cmd_told_l0 k ps s7).bind fun s8 => (cmd_told_num k (nb (fb a0) 128) s8 (l.length : Int)).bind fun s9 => cmd_told_l1 k l s9) = _
  generalize nb (fb a0) 1 = c1 at *
  generalize nb (fb a0) 2 = c2 at *
  generalize nb (fb a0) 4 = c3 at *
  generalize nb (fb a0) 8 = c4 at *
  generalize nb (fb a0) 16 = c5 at *
  generalize nb (fb a0) 32 = c6 at *
  generalize nb (fb a0) 64 = c7 at *
  generalize nb (fb a0) 128 = c8 at *
  rw [told_txt k _ _ a1 (by omega) (by omega) (by omega), Option.bind_some]
  rw [told_txt k _ _ a2 (by omega) (by rw [ByteArray.size_append]; omega) (by omega), Option.bind_some]
  rw [told_txt k _ _ a3 (by omega) (by rw [ByteArray.size_append, ByteArray.size_append]; omega) (by omega), Option.bind_some]
  rw [told_num k _ _ a4 (by omega) (by omega) (by rw [ByteArray.size_append, ByteArray.size_append, ByteArray.size_append]; omega) (by omega), Option.bind_some]
  rw [told_num k _ _ a5 (by omega) (by omega) (by rw [ByteArray.size_append, ByteArray.size_append, ByteArray.size_append, ByteArray.size_append]; omega) (by omega), Option.bind_some]
  rw [told_txt k _ _ a6 (by omega) (by rw [ByteArray.size_append, ByteArray.size_append, ByteArray.size_append, ByteArray.size_append, ByteArray.size_append]; omega) (by omega), Option.bind_some]
  rw [told_num k _ _ (ps.length : Int) (by omega) (by omega) (by rw [ByteArray.size_append, ByteArray.size_append, ByteArray.size_append, ByteArray.size_append, ByteArray.size_append, ByteArray.size_append]; omega) (by omega), Option.bind_some]
  rw [told_l0 k (by omega) ps _ bp (by rw [ByteArray.size_append, ByteArray.size_append, ByteArray.size_append, ByteArray.size_append, ByteArray.size_append, ByteArray.size_append, ByteArray.size_append]; omega), Option.bind_some]
  rw [told_num k _ _ (l.length : Int) (by omega) (by omega) (by rw [ByteArray.size_append, ByteArray.size_append, ByteArray.size_append, ByteArray.size_append, ByteArray.size_append, ByteArray.size_append, ByteArray.size_append, ByteArray.size_append]; omega) (by omega), Option.bind_some]
  refine told_l1 k (by omega) l _ bl ?_
  rw [ByteArray.size_append, ByteArray.size_append, ByteArray.size_append, ByteArray.size_append, ByteArray.size_append, ByteArray.size_append, ByteArray.size_append, ByteArray.size_append, ByteArray.size_append]
  omega
 ·
  unfold toldB
  rw [ByteArray.size_append, ByteArray.size_append, ByteArray.size_append, ByteArray.size_append, ByteArray.size_append, ByteArray.size_append, ByteArray.size_append, ByteArray.size_append, ByteArray.size_append, ByteArray.size_append]
  omega
theorem dec_txt (k : Nat) (hk : 30 ≤ k) (c : Bool) (s t : ByteArray) (a : Nat) (most : Int) (rest : List UInt8) (hs : s.size ≤ 1073741824) (ha : a ≤ s.size) (ht : t.size ≤ 1073741824) (hm : (t.size : Int) ≤ most) (hc : c = false → t.size = 0) (h : s.data.toList.drop a = (ot c t).data.toList ++ rest) :
  cmd_Decode_txt k (!c) s (a : Int) 0 most = some (t, s, ((a + (ot c t).size : Nat) : Int), 0) ∧ s.data.toList.drop (a + (ot c t).size) = rest ∧ a + (ot c t).size ≤ s.size := by
 unfold cmd_Decode_txt
 cases c with
 | false =>
  obtain rfl := ba_empty t (hc rfl)
  exact ⟨rfl, h, ha⟩
 | true =>
  have e : ot true t = txt t := rfl
  rw [e] at h ⊢
  rw [Bool.not_true, if_neg (by decide), oct_RText s a hs ha 0 most k hk, xt_back s t a most rest ht hm h]
  refine ⟨rfl, ?_, ?_⟩
  ·
   have := drop_add _ _ _ _ h; rwa [len_eq] at this
  ·
   have := size_le s a _ _ (txt_pos t) h; rwa [len_eq] at this
theorem dec_num (k : Nat) (hk : 30 ≤ k) (c : Bool) (s : ByteArray) (n : Int) (a : Nat) (most : Int) (rest : List UInt8) (hs : s.size ≤ 1073741824) (ha : a ≤ s.size) (h0 : 0 ≤ n) (hm : n ≤ most) (hM : most ≤ 9223372036854775807) (hc : c = false → n = 0) (h : s.data.toList.drop a = (on c n).data.toList ++ rest) :
  cmd_Decode_num k (!c) s (a : Int) 0 most = some (n, s, ((a + (on c n).size : Nat) : Int), 0) ∧ s.data.toList.drop (a + (on c n).size) = rest ∧ a + (on c n).size ≤ s.size := by
 unfold cmd_Decode_num
 cases c with
 | false =>
  obtain rfl := hc rfl
  exact ⟨rfl, h, ha⟩
 | true =>
  have e : on true n = num n := rfl
  rw [e] at h ⊢
  rw [Bool.not_true, if_neg (by decide), oct_RInt s a hs ha 0 most (by omega) hM k hk, xn_back s a n most rest h0 (by omega) hm h]
  refine ⟨rfl, ?_, ?_⟩
  ·
   have := drop_add _ _ _ _ h; rwa [len_eq] at this
  ·
   have := size_le s a _ _ (num_pos n) h; rwa [len_eq] at this
theorem dec_l0 (k : Nat) (hk : 30 ≤ k) (s : ByteArray) (hs : s.size ≤ 1073741824) : ∀ (l : List Piece) (a : Nat) (acc : List Piece) (rest : List UInt8), a ≤ s.size → acc.length + l.length ≤ 1048576 → (∀ y ∈ l, y.f0.size ≤ 64 ∧ 1 ≤ y.f1 ∧ y.f1 ≤ 4096) → s.data.toList.drop a = (tpB l).data.toList ++ rest →
  cmd_Decode_l0 k l.length s (a : Int) 0 acc = some (s, ((a + (tpB l).size : Nat) : Int), 0, acc ++ l) ∧ s.data.toList.drop (a + (tpB l).size) = rest ∧ a + (tpB l).size ≤ s.size
 | [], a, acc, rest, ha, _, _, h => by rw [List.append_nil]; exact ⟨rfl, h, ha⟩
 | y :: r, a, acc, rest, ha, hn, hb, h => by
  have hy := hb y List.mem_cons_self
  rw [tpB, al, al, List.append_assoc, List.append_assoc] at h
  have d1 := drop_add _ _ _ _ h
  rw [len_eq] at d1
  have d2 := drop_add _ _ _ _ d1
  rw [len_eq] at d2
  have s1 := size_le s a _ _ (txt_pos y.f0) h
  rw [len_eq] at s1
  have s2 := size_le s _ _ _ (num_pos y.f1) d1
  rw [len_eq] at s2
  rw [List.length_cons] at hn
  have ih := dec_l0 k hk s hs r (a + (txt y.f0).size + (num y.f1).size) (acc ++ [⟨y.f0, y.f1⟩]) rest s2 (by rw [List.length_append, List.length_cons, List.length_nil]; omega) (fun z hz => hb z (List.mem_cons_of_mem _ hz)) d2
  rw [List.length_cons, cmd_Decode_l0, oct_RText s a hs ha 0 64 k hk, xt_back s y.f0 a 64 _ (by omega) (by omega) h, Option.bind_some]
  show (octet_Reader_Int.f k s ((a + (txt y.f0).size : Nat) : Int) 0 4096).bind _ = _ ∧ _
  rw [oct_RInt s _ hs s1 0 4096 (by omega) (by omega) k hk, xn_back s _ y.f1 4096 _ (by omega) (by omega) (by omega) d1, Option.bind_some, if_pos (by omega)]
  have e : (tpB (y :: r)).size = (txt y.f0).size + (num y.f1).size + (tpB r).size := by rw [tpB, ByteArray.size_append, ByteArray.size_append]
  have e2 : a + (txt y.f0).size + (num y.f1).size + (tpB r).size = a + (tpB (y :: r)).size := by omega
  rw [e2, List.append_assoc] at ih
  exact ih
theorem dec_l1 (k : Nat) (hk : 30 ≤ k) (s : ByteArray) (hs : s.size ≤ 1073741824) : ∀ (l : List Pick) (a : Nat) (acc : List Pick) (rest : List UInt8), a ≤ s.size → acc.length + l.length ≤ 1048576 → (∀ y ∈ l, y.f1.size ≤ 64 ∧ 0 ≤ y.f0 ∧ y.f0 ≤ 100) → s.data.toList.drop a = (tkB l).data.toList ++ rest →
  cmd_Decode_l1 k l.length s (a : Int) 0 acc = some (s, ((a + (tkB l).size : Nat) : Int), 0, acc ++ l) ∧ s.data.toList.drop (a + (tkB l).size) = rest ∧ a + (tkB l).size ≤ s.size
 | [], a, acc, rest, ha, _, _, h => by rw [List.append_nil]; exact ⟨rfl, h, ha⟩
 | y :: r, a, acc, rest, ha, hn, hb, h => by
  have hy := hb y List.mem_cons_self
  rw [tkB, al, al, List.append_assoc, List.append_assoc] at h
  have d1 := drop_add _ _ _ _ h
  rw [len_eq] at d1
  have d2 := drop_add _ _ _ _ d1
  rw [len_eq] at d2
  have s1 := size_le s a _ _ (num_pos y.f0) h
  rw [len_eq] at s1
  have s2 := size_le s _ _ _ (txt_pos y.f1) d1
  rw [len_eq] at s2
  rw [List.length_cons] at hn
  have ih := dec_l1 k hk s hs r (a + (num y.f0).size + (txt y.f1).size) (acc ++ [⟨y.f0, y.f1⟩]) rest s2 (by rw [List.length_append, List.length_cons, List.length_nil]; omega) (fun z hz => hb z (List.mem_cons_of_mem _ hz)) d2
  rw [List.length_cons, cmd_Decode_l1, oct_RInt s a hs ha 0 100 (by omega) (by omega) k hk, xn_back s a y.f0 100 _ (by omega) (by omega) (by omega) h, Option.bind_some]
  show (octet_Reader_Text.f k s ((a + (num y.f0).size : Nat) : Int) 0 64).bind _ = _ ∧ _
  rw [oct_RText s _ hs s1 0 64 k hk, xt_back s y.f1 _ 64 _ (by omega) (by omega) d1, Option.bind_some, if_pos (by omega)]
  have e : (tkB (y :: r)).size = (num y.f0).size + (txt y.f1).size + (tkB r).size := by rw [tkB, ByteArray.size_append, ByteArray.size_append]
  have e2 : a + (num y.f0).size + (txt y.f1).size + (tkB r).size = a + (tkB (y :: r)).size := by omega
  rw [e2, List.append_assoc] at ih
  exact ih
theorem nb_not (f bit : Int) : (Go.bits .and .i64 f bit == 0) = !(nb f bit) := by
 unfold nb bne; rw [Bool.not_not]
theorem nb_zero {f bit : Int} (h : nb f bit = false) : ba f bit = 0 := by
 unfold nb bne at h
 cases e : Go.bits .and .i64 f bit == 0
 ·
  rw [e] at h; cases h
 ·
  exact beq_iff_eq.1 e
theorem Decode_eq (k : Nat) (hk : 40 ≤ k) (s : ByteArray) (hs : s.size ≤ 1073741824) : cmd_Decode.f k s =
  ((cmd_Decode_txt k (!nb (fb (xn s 0 0 10).1) 1) s (xn s 0 0 10).2.1 (xn s 0 0 10).2.2 64).bind fun b2 => (cmd_Decode_txt k (!nb (fb (xn s 0 0 10).1) 2) b2.2.1 b2.2.2.1 b2.2.2.2 63).bind fun b3 => (cmd_Decode_txt k (!nb (fb (xn s 0 0 10).1) 4) b3.2.1 b3.2.2.1 b3.2.2.2 1024).bind fun b4 => (cmd_Decode_num k (!nb (fb (xn s 0 0 10).1) 8) b4.2.1 b4.2.2.1 b4.2.2.2 1099511627776).bind fun b5 => (cmd_Decode_num k (!nb (fb (xn s 0 0 10).1) 16) b5.2.1 b5.2.2.1 b5.2.2.2 100).bind fun b6 => (cmd_Decode_txt k (!nb (fb (xn s 0 0 10).1) 32) b6.2.1 b6.2.2.1 b6.2.2.2 64).bind fun b7 => (cmd_Decode_num k (!nb (fb (xn s 0 0 10).1) 64) b7.2.1 b7.2.2.1 b7.2.2.2 512).bind fun b8 => (if b8.1 ≤ 512 then cmd_Decode_l0 k b8.1.toNat b8.2.1 b8.2.2.1 b8.2.2.2 [] else none).bind fun b9 => (cmd_Decode_num k (!nb (fb (xn s 0 0 10).1) 128) b9.1 b9.2.1 b9.2.2.1 100).bind fun b10 => (if b10.1 ≤ 100 then cmd_Decode_l1 k b10.1.toNat b10.2.1 b10.2.2.1 b10.2.2.2 [] else none).bind fun b11 => (octet_Reader_End.f b11.1 b11.2.1 b11.2.2.1).bind fun b12 => if b12.1 = 0 then ((cmd_Check.f k (xn s 0 0 10).1 b2.1 b3.1 b4.1 b5.1 b6.1 b7.1 b9.2.2.2 b11.2.2.2).bind fun c => if c = 0 then some ((xn s 0 0 10).1, b2.1, b3.1, b4.1, b5.1, b6.1, b7.1, b9.2.2.2, b11.2.2.2, 0) else some cmd_Decode_none) else some cmd_Decode_none) := by
 unfold cmd_Decode.f octet_NewReader.f
 rw [Option.bind_some, show octet_Reader_Int.f k s 0 0 10 = _ from oct_RInt s 0 hs (Nat.zero_le _) 0 10 (by omega) (by omega) k (by omega), Option.bind_some]
 show ((cmd_fields.f k (xn s 0 0 10).1).bind _) = _
 rw [fields_eq _ k (by omega), Option.bind_some]
 simp only [nb_not]
theorem dec_back {a0 : Int} {a1 a2 a3 : ByteArray} {a4 a5 : Int} {a6 : ByteArray} {ps : List Piece} {l : List Pick} (hc : CK a0 a1 a2 a3 a4 a5 a6 ps l) (hs : SmallCmd a1 a2 a3 a6 ps l) (k : Nat) (hk : 1073741828 ≤ k) :
  cmd_Decode.f k (toldB a0 a1 a2 a3 a4 a5 a6 ps l) = some (a0, a1, a2, a3, a4, a5, a6, ps, l, 0) := by
 have hb := CK_bd hc
 have hz := (told_eq hb k (by omega)).2
 obtain ⟨T, hT⟩ : ∃ T, T = toldB a0 a1 a2 a3 a4 a5 a6 ps l := ⟨_, rfl⟩
 rw [← hT] at hz ⊢
 have hL : T.data.toList.drop 0 = (num a0).data.toList ++ ((ot (nb (fb a0) 1) a1).data.toList ++ ((ot (nb (fb a0) 2) a2).data.toList ++ ((ot (nb (fb a0) 4) a3).data.toList ++ ((on (nb (fb a0) 8) a4).data.toList ++ ((on (nb (fb a0) 16) a5).data.toList ++ ((ot (nb (fb a0) 32) a6).data.toList ++ ((on (nb (fb a0) 64) (ps.length : Int)).data.toList ++ ((tpB ps).data.toList ++ ((on (nb (fb a0) 128) (l.length : Int)).data.toList ++ ((tkB l).data.toList ++ [])))))))))) := by
  rw [hT, List.drop_zero]
  unfold toldB
  simp only [al, List.append_assoc, List.append_nil]
 obtain ⟨h0, ⟨z1, z2, z3, z4, z5, z6, z7, z8⟩, -⟩ := id hc
 obtain ⟨k0, b1, b2, b3, b4, b5, b6, hp, bp, hl, bl⟩ := hb
 have hs' : T.size ≤ 1073741824 := by omega
 have q0 := xn_back T 0 a0 10 _ (by omega) (by omega) (by omega) hL
 have d0 := drop_add _ _ _ _ hL
 rw [len_eq] at d0
 have s0 := size_le T 0 _ _ (num_pos a0) hL
 rw [len_eq] at s0
 rw [Decode_eq k (by omega) T hs', q0]
 obtain ⟨e1, d1, s1⟩ := dec_txt k (by omega) (nb (fb a0) 1) T a1 _ 64 _ hs' s0 (by omega) (by omega) (fun h => z1 (nb_zero h)) d0
 obtain ⟨e2, d2, s2⟩ := dec_txt k (by omega) (nb (fb a0) 2) T a2 _ 63 _ hs' s1 (by omega) (by omega) (fun h => z2 (nb_zero h)) d1
 obtain ⟨e3, d3, s3⟩ := dec_txt k (by omega) (nb (fb a0) 4) T a3 _ 1024 _ hs' s2 (by omega) (by omega) (fun h => z3 (nb_zero h)) d2
 obtain ⟨e4, d4, s4⟩ := dec_num k (by omega) (nb (fb a0) 8) T a4 _ 1099511627776 _ hs' s3 b4.1 b4.2 (by omega) (fun h => z4 (nb_zero h)) d3
 obtain ⟨e5, d5, s5⟩ := dec_num k (by omega) (nb (fb a0) 16) T a5 _ 100 _ hs' s4 b5.1 b5.2 (by omega) (fun h => z5 (nb_zero h)) d4
 obtain ⟨e6, d6, s6⟩ := dec_txt k (by omega) (nb (fb a0) 32) T a6 _ 64 _ hs' s5 (by omega) (by omega) (fun h => z6 (nb_zero h)) d5
 obtain ⟨e7, d7, s7⟩ := dec_num k (by omega) (nb (fb a0) 64) T (ps.length : Int) _ 512 _ hs' s6 (by omega) (by omega) (by omega) (fun h => by have := z7 (nb_zero h); omega) d6
 obtain ⟨e8, d8, s8⟩ := dec_l0 k (by omega) T hs' ps _ [] _ s7 (by rw [List.length_nil]; omega) bp d7
 obtain ⟨e9, d9, s9⟩ := dec_num k (by omega) (nb (fb a0) 128) T (l.length : Int) _ 100 _ hs' s8 (by omega) (by omega) (by omega) (fun h => by have := z8 (nb_zero h); omega) d8
 obtain ⟨e10, d10, s10⟩ := dec_l1 k (by omega) T hs' l _ [] _ s9 (by rw [List.length_nil]; omega) bl d9
 have hend := congrArg List.length d10
 rw [List.length_drop, List.length_nil, len_eq] at hend
 show ((cmd_Decode_txt k (!nb (fb a0) 1) T ((0 + (num a0).size : Nat) : Int) 0 64).bind _) = _
 rw [e1, Option.bind_some]
 dsimp only
 rw [e2, Option.bind_some]
 dsimp only
 rw [e3, Option.bind_some]
 dsimp only
 rw [e4, Option.bind_some]
 dsimp only
 rw [e5, Option.bind_some]
 dsimp only
 rw [e6, Option.bind_some]
 dsimp only
 rw [e7, Option.bind_some]
 dsimp only
 rw [if_pos (by omega), Int.toNat_natCast, e8, Option.bind_some]
 dsimp only
 rw [e9, Option.bind_some]
 dsimp only
 rw [if_pos (by omega), Int.toNat_natCast, e10, Option.bind_some]
 dsimp only
 rw [List.nil_append, List.nil_append]
 have en : ∀ p : Nat, p = T.size → octet_Reader_End.f T (p : Int) 0 = some (0, T, (p : Int), 0) := by
  intro p hp; unfold octet_Reader_End.f; rw [if_pos rfl, if_neg (by omega)]
 rw [en _ (by omega), Option.bind_some]
 dsimp only
 rw [if_pos rfl, check_eq _ _ _ _ _ _ _ _ _ hs k hk, if_pos hc, Option.bind_some, if_pos rfl]
theorem one_txt (k : Nat) (hk : 30 ≤ k) (c : Bool) (s : ByteArray) (a : Nat) (e most : Int) (hs : s.size ≤ 1073741824) (ha : a ≤ s.size) (hm : 0 ≤ most) :
  ∃ (t : ByteArray) (m : Nat) (e' : Int), cmd_Decode_txt k (!c) s (a : Int) e most = some (t, s, (m : Int), e') ∧ m ≤ s.size ∧ (t.size : Int) ≤ most ∧ (e' = 0 → e = 0 ∧ s.data.toList.drop a = (ot c t).data.toList ++ s.data.toList.drop m) := by
 unfold cmd_Decode_txt
 cases c with
 | false => exact ⟨⟨#[]⟩, a, e, rfl, ha, hm, fun h => ⟨h, rfl⟩⟩
 | true =>
  rw [Bool.not_true, if_neg (by decide), oct_RText s a hs ha e most k hk]
  obtain ⟨h1, m, h2, h3, h4⟩ := xt_at s a ha e most hm
  refine ⟨(xt s a e most).1, m, (xt s a e most).2.2, by rw [h2], h4, h1, fun h => ?_⟩
  obtain ⟨g1, m', g2, g3, g4⟩ := xt_e s a e most h
  obtain rfl : m' = m := by rw [h2] at g2; omega
  exact ⟨g1, g4⟩
theorem one_num (k : Nat) (hk : 30 ≤ k) (c : Bool) (s : ByteArray) (a : Nat) (e most : Int) (hs : s.size ≤ 1073741824) (ha : a ≤ s.size) (hm : 0 ≤ most) (hM : most ≤ 9223372036854775807) :
  ∃ (n : Int) (m : Nat) (e' : Int), cmd_Decode_num k (!c) s (a : Int) e most = some (n, s, (m : Int), e') ∧ m ≤ s.size ∧ 0 ≤ n ∧ n ≤ most ∧ (e' = 0 → e = 0 ∧ s.data.toList.drop a = (on c n).data.toList ++ s.data.toList.drop m) := by
 unfold cmd_Decode_num
 cases c with
 | false => exact ⟨0, a, e, rfl, ha, by omega, hm, fun h => ⟨h, rfl⟩⟩
 | true =>
  rw [Bool.not_true, if_neg (by decide), oct_RInt s a hs ha e most hm hM k hk]
  obtain ⟨h0, h1, m, h2, h3, h4⟩ := xn_at s a ha e most hm
  refine ⟨(xn s a e most).1, m, (xn s a e most).2.2, by rw [h2], h4, h0, h1, fun h => ?_⟩
  obtain ⟨g1, m', g2, g3, g4⟩ := xn_e s a e most h
  obtain rfl : m' = m := by rw [h2] at g2; omega
  exact ⟨g1, g4⟩
theorem one_l0 (k : Nat) (hk : 30 ≤ k) (s : ByteArray) (hs : s.size ≤ 1073741824) : ∀ (n a : Nat) (e : Int) (acc : List Piece), a ≤ s.size → acc.length + n ≤ 1048576 →
  ∃ (l : List Piece) (m : Nat) (e' : Int), cmd_Decode_l0 k n s (a : Int) e acc = some (s, (m : Int), e', acc ++ l) ∧ l.length = n ∧ m ≤ s.size ∧ (∀ y ∈ l, y.f0.size ≤ 64) ∧ (e' = 0 → e = 0 ∧ s.data.toList.drop a = (tpB l).data.toList ++ s.data.toList.drop m)
 | 0, a, e, acc, ha, _ => ⟨[], a, e, by rw [cmd_Decode_l0, List.append_nil], rfl, ha, fun y hy => (by cases hy), fun h => ⟨h, rfl⟩⟩
 | n + 1, a, e, acc, ha, hn => by
  obtain ⟨t, m1, e1, g1, g2, g3, g4⟩ := one_txt k hk true s a e 64 hs ha (by omega)
  obtain ⟨v, m2, e2, i1, i2, i3, i4, i5⟩ := one_num k hk true s m1 e1 4096 hs g2 (by omega) (by omega)
  obtain ⟨l, m, e', j1, j2, j3, j4, j5⟩ := one_l0 k hk s hs n m2 e2 (acc ++ [⟨t, v⟩]) i2 (by rw [List.length_append, List.length_cons, List.length_nil]; omega)
  refine ⟨⟨t, v⟩ :: l, m, e', ?_, by rw [List.length_cons, j2], j3, ?_, fun h => ?_⟩
  ·
   have g1' : octet_Reader_Text.f k s (a : Int) e 64 = some (t, s, (m1 : Int), e1) := g1
   have i1' : octet_Reader_Int.f k s (m1 : Int) e1 4096 = some (v, s, (m2 : Int), e2) := i1
   rw [cmd_Decode_l0, g1', Option.bind_some]
   dsimp only
   rw [i1', Option.bind_some, if_pos (by omega)]
   dsimp only
   rw [j1, List.append_assoc]
   rfl
  ·
   intro y hy
   rcases List.mem_cons.1 hy with rfl | hy
   ·
    show t.size ≤ 64; omega
   ·
    exact j4 y hy
  ·
   obtain ⟨r1, r2⟩ := j5 h
   obtain ⟨r3, r4⟩ := i5 r1
   obtain ⟨r5, r6⟩ := g4 r3
   refine ⟨r5, ?_⟩
   rw [r6, r4, r2, tpB, al, al, List.append_assoc, List.append_assoc]
   rfl
theorem one_l1 (k : Nat) (hk : 30 ≤ k) (s : ByteArray) (hs : s.size ≤ 1073741824) : ∀ (n a : Nat) (e : Int) (acc : List Pick), a ≤ s.size → acc.length + n ≤ 1048576 →
  ∃ (l : List Pick) (m : Nat) (e' : Int), cmd_Decode_l1 k n s (a : Int) e acc = some (s, (m : Int), e', acc ++ l) ∧ l.length = n ∧ m ≤ s.size ∧ (∀ y ∈ l, y.f1.size ≤ 64) ∧ (e' = 0 → e = 0 ∧ s.data.toList.drop a = (tkB l).data.toList ++ s.data.toList.drop m)
 | 0, a, e, acc, ha, _ => ⟨[], a, e, by rw [cmd_Decode_l1, List.append_nil], rfl, ha, fun y hy => (by cases hy), fun h => ⟨h, rfl⟩⟩
 | n + 1, a, e, acc, ha, hn => by
  obtain ⟨v, m1, e1, g1, g2, g3, g4, g5⟩ := one_num k hk true s a e 100 hs ha (by omega) (by omega)
  obtain ⟨t, m2, e2, i1, i2, i3, i4⟩ := one_txt k hk true s m1 e1 64 hs g2 (by omega)
  obtain ⟨l, m, e', j1, j2, j3, j4, j5⟩ := one_l1 k hk s hs n m2 e2 (acc ++ [⟨v, t⟩]) i2 (by rw [List.length_append, List.length_cons, List.length_nil]; omega)
  refine ⟨⟨v, t⟩ :: l, m, e', ?_, by rw [List.length_cons, j2], j3, ?_, fun h => ?_⟩
  ·
   have g1' : octet_Reader_Int.f k s (a : Int) e 100 = some (v, s, (m1 : Int), e1) := g1
   have i1' : octet_Reader_Text.f k s (m1 : Int) e1 64 = some (t, s, (m2 : Int), e2) := i1
   rw [cmd_Decode_l1, g1', Option.bind_some]
   dsimp only
   rw [i1', Option.bind_some, if_pos (by omega)]
   dsimp only
   rw [j1, List.append_assoc]
   rfl
  ·
   intro y hy
   rcases List.mem_cons.1 hy with rfl | hy
   ·
    show t.size ≤ 64; omega
   ·
    exact j4 y hy
  ·
   obtain ⟨r1, r2⟩ := j5 h
   obtain ⟨r3, r4⟩ := i4 r1
   obtain ⟨r5, r6⟩ := g5 r3
   refine ⟨r5, ?_⟩
   rw [r6, r4, r2, tkB, al, al, List.append_assoc, List.append_assoc]
   rfl
theorem dec_only (s : ByteArray) (hs : s.size ≤ 1073741824) (k : Nat) (hk : 1073741828 ≤ k) :
  cmd_Decode.f k s = some cmd_Decode_none ∨ ∃ (a0 : Int) (a1 a2 a3 : ByteArray) (a4 a5 : Int) (a6 : ByteArray) (ps : List Piece) (l : List Pick), cmd_Decode.f k s = some (a0, a1, a2, a3, a4, a5, a6, ps, l, 0) ∧ CK a0 a1 a2 a3 a4 a5 a6 ps l ∧ SmallCmd a1 a2 a3 a6 ps l ∧ toldB a0 a1 a2 a3 a4 a5 a6 ps l = s := by
 rw [Decode_eq k (by omega) s hs]
 obtain ⟨n0, n1, m0, w1, w2, w3⟩ := xn_at s 0 (Nat.zero_le _) 0 10 (by omega)
 obtain ⟨K, hK⟩ : ∃ K, K = (xn s 0 0 10).1 := ⟨_, rfl⟩
 obtain ⟨E, hE⟩ : ∃ E, E = (xn s 0 0 10).2.2 := ⟨_, rfl⟩
 rw [w1, ← hK, ← hE]
 obtain ⟨a1, m1, e1, g1, h1, t1, c1⟩ := one_txt k (by omega) (nb (fb K) 1) s m0 E 64 hs w3 (by omega)
 obtain ⟨a2, m2, e2, g2, h2, t2, c2⟩ := one_txt k (by omega) (nb (fb K) 2) s m1 e1 63 hs h1 (by omega)
 obtain ⟨a3, m3, e3, g3, h3, t3, c3⟩ := one_txt k (by omega) (nb (fb K) 4) s m2 e2 1024 hs h2 (by omega)
 obtain ⟨a4, m4, e4, g4, h4, t4, u4, c4⟩ := one_num k (by omega) (nb (fb K) 8) s m3 e3 1099511627776 hs h3 (by omega) (by omega)
 obtain ⟨a5, m5, e5, g5, h5, t5, u5, c5⟩ := one_num k (by omega) (nb (fb K) 16) s m4 e4 100 hs h4 (by omega) (by omega)
 obtain ⟨a6, m6, e6, g6, h6, t6, c6⟩ := one_txt k (by omega) (nb (fb K) 32) s m5 e5 64 hs h5 (by omega)
 obtain ⟨n7, m7, e7, g7, h7, t7, u7, c7⟩ := one_num k (by omega) (nb (fb K) 64) s m6 e6 512 hs h6 (by omega) (by omega)
 obtain ⟨ps, m8, e8, g8, l8, h8, t8, c8⟩ := one_l0 k (by omega) s hs n7.toNat m7 e7 [] h7 (by rw [List.length_nil]; omega)
 obtain ⟨n9, m9, e9, g9, h9, t9, u9, c9⟩ := one_num k (by omega) (nb (fb K) 128) s m8 e8 100 hs h8 (by omega) (by omega)
 obtain ⟨l, mA, eA, gA, lA, hA, tA, cA⟩ := one_l1 k (by omega) s hs n9.toNat m9 e9 [] h9 (by rw [List.length_nil]; omega)
 rw [g1, Option.bind_some]
 dsimp only
 rw [g2, Option.bind_some]
 dsimp only
 rw [g3, Option.bind_some]
 dsimp only
 rw [g4, Option.bind_some]
 dsimp only
 rw [g5, Option.bind_some]
 dsimp only
 rw [g6, Option.bind_some]
 dsimp only
 rw [g7, Option.bind_some]
 dsimp only
 rw [if_pos u7, g8, Option.bind_some]
 dsimp only
 rw [g9, Option.bind_some]
 dsimp only
 rw [if_pos u9, gA, Option.bind_some]
 dsimp only
 rw [List.nil_append, List.nil_append]
 unfold octet_Reader_End.f
 by_cases z : eA = 0
 ·
  rw [if_pos z]
  by_cases y : (mA : Int) < (s.size : Int)
  ·
   rw [if_pos y, Option.bind_some]
   dsimp only
   rw [if_neg (by decide)]
   exact .inl rfl
  ·
   rw [if_neg y, Option.bind_some]
   dsimp only
   have sm : SmallCmd a1 a2 a3 a6 ps l := ⟨by omega, by omega, by omega, by omega, by omega, fun y hy => by have := t8 y hy; omega, by omega, fun y hy => by have := tA y hy; omega⟩
   rw [if_pos rfl, check_eq _ _ _ _ _ _ _ _ _ sm k hk, Option.bind_some]
   by_cases hc : CK K a1 a2 a3 a4 a5 a6 ps l
   ·
    rw [if_pos hc, if_pos rfl]
    refine .inr ⟨K, a1, a2, a3, a4, a5, a6, ps, l, rfl, hc, sm, ?_⟩
    obtain ⟨x9, yA⟩ := cA z
    obtain ⟨x8, y9⟩ := c9 x9
    obtain ⟨x7, y8⟩ := c8 x8
    obtain ⟨x6, y7⟩ := c7 x7
    obtain ⟨x5, y6⟩ := c6 x6
    obtain ⟨x4, y5⟩ := c5 x5
    obtain ⟨x3, y4⟩ := c4 x4
    obtain ⟨x2, y3⟩ := c3 x3
    obtain ⟨x1, y2⟩ := c2 x2
    obtain ⟨x0, y1⟩ := c1 x1
    rw [hE] at x0
    obtain ⟨-, m', v1, v2, v3⟩ := xn_e s 0 0 10 x0
    obtain rfl : m' = m0 := by rw [w1] at v1; omega
    rw [← hK, List.drop_zero] at v3
    apply list_ext
    have hm : mA = s.size := by omega
    rw [hm, List.drop_of_length_le (Nat.le_of_eq (len_eq s)), List.append_nil] at yA
    have p7 : ((ps.length : Nat) : Int) = n7 := by omega
    have p9 : ((l.length : Nat) : Int) = n9 := by omega
    unfold toldB
    rw [p7, p9]
    simp only [al, List.append_assoc]
    rw [v3, y1, y2, y3, y4, y5, y6, y7, y8, y9, yA]
   ·
    rw [if_neg hc, if_neg (by decide)]
    exact .inl rfl
 ·
  rw [if_neg z, Option.bind_some]
  dsimp only
  rw [if_neg z]
  exact .inl rfl
abbrev RPiece := S95
abbrev RPick := S61
theorem Piece_go (ps : List Piece) (hl : ps.length ≤ 1048576) : ∀ (n i k : Nat) (acc : List RPiece), i + n = ps.length → acc.length = i → n < k → ∃ q, stowagelaw13_Piece.l0 k ps acc (i : Int) = some q ∧ q.length = ps.length := by
 intro n
 induction n with
 | zero =>
  intro i k acc hn ha hk
  obtain ⟨k, rfl⟩ : ∃ j, k = j + 1 := ⟨k - 1, by omega⟩
  rw [stowagelaw13_Piece.l0, if_neg (by omega)]
  exact ⟨acc, rfl, by omega⟩
 | succ n ih =>
  intro i k acc hn ha hk
  obtain ⟨k, rfl⟩ : ∃ j, k = j + 1 := ⟨k - 1, by omega⟩
  rw [stowagelaw13_Piece.l0, if_pos (by omega), if_pos (by omega), if_pos (by omega), w1 i (by omega)]
  exact ih (i + 1) k _ (by omega) (by rw [List.length_append, ha]; rfl) (by omega)
theorem Ref_go (a0 : Int) (a1 a2 a3 : ByteArray) (a4 a5 : Int) (a6 : ByteArray) (ps : List Piece) (l : List Pick) (hp : ps.length ≤ 1048576) (hl : l.length ≤ 1048576) : ∀ (n i k : Nat) (acc : List RPick), i + n = l.length → acc.length = i → n + 1048578 < k → ∃ q1 q2, stowagelaw16_Ref.l0 k acc (i : Int) a0 a1 a2 a3 a4 a5 a6 ps l = some (a0, a1, a2, a3, a4, a5, a6, q1, q2) ∧ q1.length = ps.length ∧ q2.length = l.length := by
 intro n
 induction n with
 | zero =>
  intro i k acc hn ha hk
  obtain ⟨k, rfl⟩ : ∃ j, k = j + 1 := ⟨k - 1, by omega⟩
  obtain ⟨q, h1, h2⟩ := Piece_go ps hp ps.length 0 k [] (by omega) rfl (by omega)
  have h1' : stowagelaw13_Piece.f k ps = some q := h1
  rw [stowagelaw16_Ref.l0, if_neg (by omega), h1', Option.bind_some]
  exact ⟨q, acc, rfl, h2, by omega⟩
 | succ n ih =>
  intro i k acc hn ha hk
  obtain ⟨k, rfl⟩ : ∃ j, k = j + 1 := ⟨k - 1, by omega⟩
  rw [stowagelaw16_Ref.l0, if_pos (by omega), if_pos (by omega), if_pos (by omega), w1 i (by omega)]
  exact ih (i + 1) k _ (by omega) (by rw [List.length_append, ha]; rfl) (by omega)
theorem Ref_eq (a0 : Int) (a1 a2 a3 : ByteArray) (a4 a5 : Int) (a6 : ByteArray) (ps : List Piece) (l : List Pick) (hp : ps.length ≤ 1048576) (hl : l.length ≤ 1048576) (k : Nat) (hk : 2097160 ≤ k) : ∃ q1 q2, stowagelaw16_Ref.f k a0 a1 a2 a3 a4 a5 a6 ps l = some (a0, a1, a2, a3, a4, a5, a6, q1, q2) ∧ q1.length = ps.length ∧ q2.length = l.length :=
 Ref_go a0 a1 a2 a3 a4 a5 a6 ps l hp hl l.length 0 k [] (by omega) rfl (by omega)
theorem Encode_eq (a0 : Int) (a1 a2 a3 : ByteArray) (a4 a5 : Int) (a6 : ByteArray) (ps : List Piece) (l : List Pick) (h : SmallCmd a1 a2 a3 a6 ps l) (k : Nat) (hk : 1073741828 ≤ k) :
  cmd_Encode.f k a0 a1 a2 a3 a4 a5 a6 ps l = some (if CK a0 a1 a2 a3 a4 a5 a6 ps l then (toldB a0 a1 a2 a3 a4 a5 a6 ps l, 0) else ((⟨#[]⟩ : ByteArray), 1)) := by
 unfold cmd_Encode.f
 rw [check_eq _ _ _ _ _ _ _ _ _ h k hk]
 by_cases hc : CK a0 a1 a2 a3 a4 a5 a6 ps l
 ·
  rw [if_pos hc, if_pos hc, Option.bind_some, if_pos rfl, (told_eq (CK_bd hc) k (by omega)).1, Option.bind_some]
 ·
  rw [if_neg hc, if_neg hc, Option.bind_some, if_neg (by decide)]
end Go.Proofs.YtdidopoalmkhlaaDoor.Pure
end
section
namespace Go.Proofs.YtdidopoalmkhlaaDoor.KO
open Go Go.RowKit Go.Proofs.YtdidopoalmkhlaaDoorW.PrintWords Go.Proofs.YtdidopoalmkhlaaDoor.Ot 
theorem opensPiece : Opens Tryd.prog 82 k82 (fun y => y.f0.size ≤ reachBytes ∧ (Lit.int .i64 y.f1).wf = true) (fun y => ((y.f0.size + 1) + 1) + 1) :=
 opens_struct (fun x : S82 => (x.f0, x.f1)) (fun p => ⟨p.1, p.2⟩) (fun _ => rfl) Tryd.underlying82
  (opens_cons (off' := 1) rfl (opens_string Tryd.underlying9) (by kernel_rfl) (opens_last rfl (opens_int Tryd.underlying3) (by kernel_rfl)))
theorem opensPieces : Opens Tryd.prog 22 (Kd.slice 82 k82) (fun ys => ys.length * 24 ≤ reachBytes ∧ ∀ y ∈ ys, y.f0.size ≤ reachBytes ∧ (Lit.int .i64 y.f1).wf = true) (fun ys => (ys.map fun y => ((y.f0.size + 1) + 1) + 1).sum + 1) :=
 opens_slice Tryd.underlying22 opensPiece (by kernel_rfl) (by kernel_rfl)
theorem opensPick : Opens Tryd.prog 62 k62 (fun y => (Lit.int .i64 y.f0).wf = true ∧ y.f1.size ≤ reachBytes) (fun y => (1 + (y.f1.size + 1)) + 1) :=
 opens_struct (fun x : S62 => (x.f0, x.f1)) (fun p => ⟨p.1, p.2⟩) (fun _ => rfl) Tryd.underlying62
  (opens_cons (off' := 1) rfl (opens_int Tryd.underlying3) (by kernel_rfl) (opens_last rfl (opens_string Tryd.underlying9) (by kernel_rfl)))
theorem opensPicks : Opens Tryd.prog 23 (Kd.slice 62 k62) (fun ys => ys.length * 24 ≤ reachBytes ∧ ∀ y ∈ ys, (Lit.int .i64 y.f0).wf = true ∧ y.f1.size ≤ reachBytes) (fun ys => (ys.map fun y => (1 + (y.f1.size + 1)) + 1).sum + 1) :=
 opens_slice Tryd.underlying23 opensPick (by kernel_rfl) (by kernel_rfl)
structure Cmd where
 f0 : Int
 f1 : ByteArray
 f2 : ByteArray
 f3 : ByteArray
 f4 : Int
 f5 : Int
 f6 : ByteArray
 f7 : List S82
 f8 : List S62
def kCmd : Kd Cmd := Kd.iso (Kd.pair (Kd.int .i64) (Kd.pair Kd.string (Kd.pair Kd.string (Kd.pair Kd.string (Kd.pair (Kd.int .i64) (Kd.pair (Kd.int .i64) (Kd.pair Kd.string (Kd.pair (Kd.slice 82 k82) (Kd.slice 62 k62))))))))) (fun x : Cmd => (x.f0, x.f1, x.f2, x.f3, x.f4, x.f5, x.f6, x.f7, x.f8))
theorem kCmd_open {w : World} {x : Cmd} {cs : List Value} (h : kCmd.K w x cs) : ∃ (A7 : Option Addr) (c7 : Nat) (A8 : Option Addr) (c8 : Nat), cs = [.int .i64 x.f0, .string x.f1, .string x.f2, .string x.f3, .int .i64 x.f4, .int .i64 x.f5, .string x.f6, .slice A7 x.f7.length c7, .slice A8 x.f8.length c8] ∧ x.f7.length ≤ c7 ∧ Kd.C k82 w A7 x.f7.length x.f7 ∧ x.f8.length ≤ c8 ∧ Kd.C k62 w A8 x.f8.length x.f8 := by
 obtain ⟨_, _, rfl, rfl, _, _, rfl, rfl, _, _, rfl, rfl, _, _, rfl, rfl, _, _, rfl, rfl, _, _, rfl, rfl, _, _, rfl, rfl, _, _, rfl, h7, h8⟩ := h
 obtain ⟨A7, c7, rfl, hl7, g7⟩ := h7
 obtain ⟨A8, c8, rfl, hl8, g8⟩ := h8
 exact ⟨A7, c7, A8, c8, rfl, hl7, g7, hl8, g8⟩
theorem opensCmd : Opens Tryd.prog 25 kCmd (fun y => (Lit.int .i64 y.f0).wf = true ∧ y.f1.size ≤ reachBytes ∧ y.f2.size ≤ reachBytes ∧ y.f3.size ≤ reachBytes ∧ (Lit.int .i64 y.f4).wf = true ∧ (Lit.int .i64 y.f5).wf = true ∧ y.f6.size ≤ reachBytes ∧ (y.f7.length * 24 ≤ reachBytes ∧ ∀ z ∈ y.f7, z.f0.size ≤ reachBytes ∧ (Lit.int .i64 z.f1).wf = true) ∧ (y.f8.length * 24 ≤ reachBytes ∧ ∀ z ∈ y.f8, (Lit.int .i64 z.f0).wf = true ∧ z.f1.size ≤ reachBytes))
  (fun y => (1 + ((y.f1.size + 1) + ((y.f2.size + 1) + ((y.f3.size + 1) + (1 + (1 + ((y.f6.size + 1) + (((y.f7.map fun z => ((z.f0.size + 1) + 1) + 1).sum + 1) + ((y.f8.map fun z => (1 + (z.f1.size + 1)) + 1).sum + 1))))))))) + 1) :=
 opens_struct (fun x : Cmd => (x.f0, x.f1, x.f2, x.f3, x.f4, x.f5, x.f6, x.f7, x.f8)) (fun p => ⟨p.1, p.2.1, p.2.2.1, p.2.2.2.1, p.2.2.2.2.1, p.2.2.2.2.2.1, p.2.2.2.2.2.2.1, p.2.2.2.2.2.2.2.1, p.2.2.2.2.2.2.2.2⟩) (fun _ => rfl) Tryd.underlying25
  (opens_cons (off' := 1) rfl (opens_int Tryd.underlying3) (by kernel_rfl) (opens_cons (off' := 2) rfl (opens_string Tryd.underlying9) (by kernel_rfl) (opens_cons (off' := 3) rfl (opens_string Tryd.underlying9) (by kernel_rfl) (opens_cons (off' := 4) rfl (opens_string Tryd.underlying9) (by kernel_rfl) (opens_cons (off' := 5) rfl (opens_int Tryd.underlying3) (by kernel_rfl) (opens_cons (off' := 6) rfl (opens_int Tryd.underlying3) (by kernel_rfl) (opens_cons (off' := 7) rfl (opens_string Tryd.underlying9) (by kernel_rfl) (opens_cons (off' := 8) rfl opensPieces (by kernel_rfl) (opens_last rfl opensPicks (by kernel_rfl)))))))))) 
theorem sum_ge {α : Type} (f : α → Nat) (hf : ∀ y, 1 ≤ f y) : ∀ l : List α, l.length ≤ (l.map f).sum ∧ ∀ y ∈ l, f y ≤ (l.map f).sum
 | [] => ⟨Nat.le_refl _, fun y hy => by cases hy⟩
 | z :: l => by
  obtain ⟨h1, h2⟩ := sum_ge f hf l
  have := hf z
  rw [List.map_cons, List.sum_cons]
  refine ⟨by rw [List.length_cons]; omega, fun y hy => ?_⟩
  rcases List.mem_cons.1 hy with rfl | hy
  ·
   omega
  ·
   have := h2 y hy; omega
theorem small_cmd (y : Cmd) {B : Nat} (h : (1 + ((y.f1.size + 1) + ((y.f2.size + 1) + ((y.f3.size + 1) + (1 + (1 + ((y.f6.size + 1) + (((y.f7.map fun z => ((z.f0.size + 1) + 1) + 1).sum + 1) + ((y.f8.map fun z => (1 + (z.f1.size + 1)) + 1).sum + 1))))))))) + 1 ≤ B) (hB : B ≤ 1048576) : Pure.SmallCmd y.f1 y.f2 y.f3 y.f6 y.f7 y.f8 := by
 obtain ⟨h1, h2⟩ := sum_ge (fun z : Pure.Piece => ((z.f0.size + 1) + 1) + 1) (fun z => by omega) y.f7
 obtain ⟨h3, h4⟩ := sum_ge (fun z : Pure.Pick => (1 + (z.f1.size + 1)) + 1) (fun z => by omega) y.f8
 generalize (y.f7.map fun z : Pure.Piece => ((z.f0.size + 1) + 1) + 1).sum = X at h h1 h2
 generalize (y.f8.map fun z : Pure.Pick => (1 + (z.f1.size + 1)) + 1).sum = Y at h h3 h4
 exact ⟨by omega, by omega, by omega, by omega, by omega, fun z hz => by have := h2 z hz; omega, by omega, fun z hz => by have := h4 z hz; omega⟩
end Go.Proofs.YtdidopoalmkhlaaDoor.KO
end
section
namespace Go.Proofs.YtdidopoalmkhlaaDoor.Pure
open Go.RowKit Go.Proofs.YtdidopoalmkhlaaDoor.Ot Go.Proofs.YtdidopoalmkhlaaDoorW.PrintWords Go.Proofs.YtdidopoalmkhlaaDoorW.PrintLast Go.Proofs.YtdidopoalmkhlaaDoorW.PrintMore
set_option linter.unusedVariables false
set_option linter.unusedSimpArgs false
def refC (c : Piece) : RPiece := ⟨c.f0, c.f1⟩
def refK (p : Pick) : RPick := ⟨p.f0, p.f1⟩
theorem un_j4_bad (k : Nat) (a : ByteArray) (x4 : List Int) (x5 x6 x7 : Int) (h : x7 < 0) : stowageref03_Unhex.j4 (k + 1) a x4 x5 x6 x7 = some ((⟨#[]⟩ : ByteArray), 3) := by rw [stowageref03_Unhex.j4, if_pos h]
theorem un_go (a : ByteArray) (hs : a.size ≤ 1048576) : ∀ n i k (acc : List Int) (h : Int), i + n = a.size → 5 * n + 5 < k → acc.length ≤ i → ∃ b, stowageref03_Unhex.l0 k a acc h (i : Int) = some (b, if (a.data.toList.drop i).all Sha.hb = true then 0 else 3) := by
 intro n
 induction n with
 | zero =>
  intro i k acc h hi hk ha
  obtain ⟨k, rfl⟩ : ∃ j, k = j + 1 := ⟨k - 1, by omega⟩
  refine ⟨strOfNums acc, ?_⟩
  rw [stowageref03_Unhex.l0, if_neg (by omega), List.drop_of_length_le (by rw [len_eq]; omega)]
  rfl
 | succ n ih =>
  intro i k acc h hi hk ha
  obtain ⟨k, rfl⟩ : ∃ j, k = j + 1 + 1 + 1 + 1 + 1 := ⟨k - 5, by omega⟩
  obtain ⟨c, hd, hb⟩ := bt_get a i (by omega)
  have hcn : c.toNat < 256 := c.toNat_lt
  have good : ∀ d : Int, 0 ≤ d → Sha.hb c = true → ∃ b, stowageref03_Unhex.j4 (k + 1) a acc h (i : Int) d = some (b, if (c :: a.data.toList.drop (i + 1)).all Sha.hb = true then 0 else 3) := by
   intro d h0 hc
   rw [stowageref03_Unhex.j4, if_neg (by omega), w1 i (by omega)]
   have e : ((c :: a.data.toList.drop (i + 1)).all Sha.hb) = (a.data.toList.drop (i + 1)).all Sha.hb := by rw [List.all_cons, hc, Bool.true_and]
   rw [e]
   split
   ·
    rw [if_pos (by omega)]
    exact ih (i + 1) k _ _ (by omega) (by omega) (by rw [List.length_append, List.length_singleton]; omega)
   ·
    exact ih (i + 1) k _ _ (by omega) (by omega) (by omega)
  have bad : Sha.hb c = false → ((c :: a.data.toList.drop (i + 1)).all Sha.hb) = false := fun hc => by rw [List.all_cons, hc, Bool.false_and]
  rw [hd]
  have j2 : ∀ d : Int, (¬ (97 ≤ c.toNat ∧ c.toNat ≤ 102)) → stowageref03_Unhex.j2 (k + 1 + 1 + 1) a acc h (i : Int) d = stowageref03_Unhex.j4 (k + 1) a acc h (i : Int) d := by
   intro d hn
   rw [stowageref03_Unhex.j2, if_pos (by omega), if_pos (by omega), hb]
   have e : ∀ q : Bool, q = false → stowageref03_Unhex.j3 (k + 1 + 1) a acc h (i : Int) d q = stowageref03_Unhex.j4 (k + 1) a acc h (i : Int) d := fun q hq => by rw [hq, stowageref03_Unhex.j3, if_neg (by decide)]
   by_cases h1 : (c.toNat : Int) ≥ 97
   ·
    rw [if_pos h1]; exact e _ (decide_eq_false (by omega))
   ·
    rw [if_neg h1]; exact e _ rfl
  rw [stowageref03_Unhex.l0, if_pos (by omega), if_pos (by omega), hb]
  by_cases h1 : 48 ≤ c.toNat ∧ c.toNat ≤ 57
  ·
   rw [if_pos (by omega), decide_eq_true (by omega : (c.toNat : Int) ≤ 57), stowageref03_Unhex.j1, if_pos rfl, if_pos (by omega), if_pos (by omega), hb, IntWalk.wrap64_in (c.toNat : Int) (by omega), IntWalk.wrap64_in _ (by omega), j2 _ (by omega)]
   exact good _ (by omega) (by simp [Sha.hb]; omega)
  ·
   have e1 : ∀ q : Bool, q = false → stowageref03_Unhex.j1 (k + 1 + 1 + 1 + 1) a acc h (i : Int) (-1) q = stowageref03_Unhex.j2 (k + 1 + 1 + 1) a acc h (i : Int) (-1) := fun q hq => by rw [hq, stowageref03_Unhex.j1, if_neg (by decide)]
   have e2 : (if (c.toNat : Int) ≥ 48 then stowageref03_Unhex.j1 (k + 1 + 1 + 1 + 1) a acc h (i : Int) (-1) (decide ((c.toNat : Int) ≤ 57)) else stowageref03_Unhex.j1 (k + 1 + 1 + 1 + 1) a acc h (i : Int) (-1) false) = stowageref03_Unhex.j2 (k + 1 + 1 + 1) a acc h (i : Int) (-1) := by
    by_cases h2 : (c.toNat : Int) ≥ 48
    ·
     rw [if_pos h2]; exact e1 _ (decide_eq_false (by omega))
    ·
     rw [if_neg h2]; exact e1 _ rfl
   rw [e2]
   by_cases h3 : 97 ≤ c.toNat ∧ c.toNat ≤ 102
   ·
    rw [stowageref03_Unhex.j2, if_pos (by omega), if_pos (by omega), hb, if_pos (by omega), decide_eq_true (by omega : (c.toNat : Int) ≤ 102), stowageref03_Unhex.j3, if_pos rfl, if_pos (by omega), if_pos (by omega), hb, IntWalk.wrap64_in (c.toNat : Int) (by omega), IntWalk.wrap64_in _ (by omega)]
    exact good _ (by omega) (by simp [Sha.hb]; omega)
   ·
    rw [j2 _ h3, un_j4_bad k a acc h _ _ (by omega), bad (by simp [Sha.hb]; omega)]
    exact ⟨_, rfl⟩
theorem may06_eq (a : ByteArray) (hs : a.size ≤ 1048576) (k : Nat) (hk : 5300000 ≤ k) : stowageref06_May.f k a = some (D a) := by
 unfold stowageref06_May.f stowageref03_Unhex.f
 by_cases h2 : ((a.size : Int) % 2) = 0
 ·
  rw [if_pos h2]
  obtain ⟨b, hb⟩ := un_go a hs a.size 0 k [] 0 (by omega) (by omega) (Nat.le_refl _)
  rw [show ((0 : Nat) : Int) = 0 from rfl, List.drop_zero] at hb
  rw [hb, Option.bind_some]
  unfold D
  cases hc : a.data.toList.all Sha.hb
  ·
   rfl
  ·
   show (if (0 : Int) = 0 then some ((a.size : Int) == 64) else some false) = _
   rw [if_pos rfl, Bool.true_and]
   congr 1
   by_cases h : a.size = 64
   ·
    simp [h]
   ·
    rw [decide_eq_false h]
    simpa using (show ¬ (a.size : Int) = 64 by omega)
 ·
  rw [if_neg h2, Option.bind_some]
  have h : ¬ a.size = 64 := by omega
  unfold D
  rw [decide_eq_false h, Bool.and_false]
  rfl
theorem rd13 (l : List Piece) (i : Nat) (h : i < l.length) : rd_T95 (l.map refC) (i : Int) = refC (rdC l i) := by
 show (l.map refC).getD (i : Int).toNat _ = refC (l.getD (i : Int).toNat _)
 rw [Int.toNat_natCast, List.getD_eq_getElem?_getD, List.getD_eq_getElem?_getD, List.getElem?_map, List.getElem?_eq_getElem h]
 rfl
theorem pieces13_go (l : List Piece) (hl : l.length ≤ 1048576) (hs : ∀ y ∈ l, y.f0.size ≤ 1048576) : ∀ n i k (s : Int), i + n = l.length → n + 5300000 < k → 0 ≤ s → s ≤ 4096 * i → stowageref13_Pieces.l0 k (l.map refC) s (i : Int) = some (if 512 < l.length then (0, 1) else pcs (l.drop i) s) := by
 have hm : (l.map refC).length = l.length := List.length_map _
 intro n
 induction n with
 | zero =>
  intro i k s hi hk h0 h1
  obtain ⟨k, rfl⟩ : ∃ j, k = j + 1 := ⟨k - 1, by omega⟩
  rw [stowageref13_Pieces.l0, hm, if_neg (by omega), List.drop_of_length_le (by omega)]
  by_cases h : 512 < l.length
  ·
   rw [if_pos (by omega), if_pos h]
  ·
   rw [if_neg (by omega), if_neg h]
   rfl
 | succ n ih =>
  intro i k s hi hk h0 h1
  obtain ⟨k, rfl⟩ : ∃ j, k = j + 1 := ⟨k - 1, by omega⟩
  have e : (if 512 < l.length then ((0 : Int), (1 : Int)) else (0, 1)) = (0, 1) := by split <;> rfl
  rw [stowageref13_Pieces.l0, hm, if_pos (by omega), if_pos (by omega), rd13 l i (by omega)]
  show (stowageref06_May.f k (rdC l i).f0).bind (fun t => if t = true then (if (rdC l i).f1 < 1 then some (0, 1) else (if (rdC l i).f1 > 4096 then some (0, 1) else stowageref13_Pieces.l0 k (l.map refC) (wrap64 (s + (rdC l i).f1)) (wrap64 ((i : Int) + 1)))) else some (0, 1)) = _
  rw [may06_eq _ (hs _ (memC l i (by omega))) k (by omega), Option.bind_some, dropC l i (by omega), pcs, w1 i (by omega)]
  by_cases hd : D (rdC l i).f0 = true
  ·
   rw [if_pos hd]
   by_cases h2 : (rdC l i).f1 < 1
   ·
    rw [if_pos h2, if_neg (show ¬ (D (rdC l i).f0 = true ∧ 1 ≤ (rdC l i).f1 ∧ (rdC l i).f1 ≤ 4096) from fun h => by omega), e]
   ·
    rw [if_neg h2]
    by_cases h3 : (rdC l i).f1 > 4096
    ·
     rw [if_pos h3, if_neg (show ¬ (D (rdC l i).f0 = true ∧ 1 ≤ (rdC l i).f1 ∧ (rdC l i).f1 ≤ 4096) from fun h => by omega), e]
    ·
     rw [if_neg h3, if_pos (show D (rdC l i).f0 = true ∧ 1 ≤ (rdC l i).f1 ∧ (rdC l i).f1 ≤ 4096 from ⟨hd, by omega, by omega⟩), IntWalk.wrap64_in _ (by omega), ih (i + 1) k _ (by omega) (by omega) (by omega) (by omega)]
  ·
   rw [if_neg hd, if_neg (show ¬ (D (rdC l i).f0 = true ∧ 1 ≤ (rdC l i).f1 ∧ (rdC l i).f1 ≤ 4096) from fun h => hd h.1), e]
theorem pieces13_eq (l : List Piece) (hl : l.length ≤ 1048576) (hs : ∀ y ∈ l, y.f0.size ≤ 1048576) (k : Nat) (hk : 6400000 ≤ k) : stowageref13_Pieces.f k (l.map refC) = some (Pc l) := by
 unfold stowageref13_Pieces.f Pc
 exact pieces13_go l hl hs l.length 0 k 0 (by omega) (by omega) (by omega) (by omega)
theorem rdK' (l : List Pick) (i : Nat) (h : i < l.length) : rd_T61 (l.map refK) (i : Int) = refK (rdK l i) := by
 show (l.map refK).getD (i : Int).toNat _ = refK (l.getD (i : Int).toNat _)
 rw [Int.toNat_natCast, List.getD_eq_getElem?_getD, List.getD_eq_getElem?_getD, List.getElem?_map, List.getElem?_eq_getElem h]
 rfl
theorem Piece_go2 (ps : List Piece) (hl : ps.length ≤ 1048576) : ∀ (n i k : Nat) (acc : List RPiece), i + n = ps.length → acc.length = i → n < k → stowagelaw13_Piece.l0 k ps acc (i : Int) = some (acc ++ (ps.drop i).map refC) := by
 intro n
 induction n with
 | zero =>
  intro i k acc hn ha hk
  obtain ⟨k, rfl⟩ : ∃ j, k = j + 1 := ⟨k - 1, by omega⟩
  rw [stowagelaw13_Piece.l0, if_neg (by omega), List.drop_of_length_le (by omega), List.map_nil, List.append_nil]
 | succ n ih =>
  intro i k acc hn ha hk
  obtain ⟨k, rfl⟩ : ∃ j, k = j + 1 := ⟨k - 1, by omega⟩
  rw [stowagelaw13_Piece.l0, if_pos (by omega), if_pos (by omega), if_pos (by omega), w1 i (by omega), ih (i + 1) k _ (by omega) (by rw [List.length_append, ha]; rfl) (by omega), dropC ps i (by omega), List.map_cons, List.append_assoc]
  rfl
theorem Ref_go2 (a0 : Int) (a1 a2 a3 : ByteArray) (a4 a5 : Int) (a6 : ByteArray) (ps : List Piece) (l : List Pick) (hp : ps.length ≤ 1048576) (hl : l.length ≤ 1048576) : ∀ (n i k : Nat) (acc : List RPick), i + n = l.length → acc.length = i → n + 1048578 < k → stowagelaw16_Ref.l0 k acc (i : Int) a0 a1 a2 a3 a4 a5 a6 ps l = some (a0, a1, a2, a3, a4, a5, a6, ps.map refC, acc ++ (l.drop i).map refK) := by
 intro n
 induction n with
 | zero =>
  intro i k acc hn ha hk
  obtain ⟨k, rfl⟩ : ∃ j, k = j + 1 := ⟨k - 1, by omega⟩
  have h1 := Piece_go2 ps hp ps.length 0 k [] (by omega) rfl (by omega)
  rw [List.drop_zero, List.nil_append] at h1
  have h1' : stowagelaw13_Piece.f k ps = some (ps.map refC) := h1
  rw [stowagelaw16_Ref.l0, if_neg (by omega), h1', Option.bind_some, List.drop_of_length_le (by omega), List.map_nil, List.append_nil]
 | succ n ih =>
  intro i k acc hn ha hk
  obtain ⟨k, rfl⟩ : ∃ j, k = j + 1 := ⟨k - 1, by omega⟩
  rw [stowagelaw16_Ref.l0, if_pos (by omega), if_pos (by omega), if_pos (by omega), w1 i (by omega), ih (i + 1) k _ (by omega) (by rw [List.length_append, ha]; rfl) (by omega), dropK l i (by omega), List.map_cons, List.append_assoc]
  rfl
theorem Ref_eq2 (a0 : Int) (a1 a2 a3 : ByteArray) (a4 a5 : Int) (a6 : ByteArray) (ps : List Piece) (l : List Pick) (hp : ps.length ≤ 1048576) (hl : l.length ≤ 1048576) (k : Nat) (hk : 2097160 ≤ k) : stowagelaw16_Ref.f k a0 a1 a2 a3 a4 a5 a6 ps l = some (a0, a1, a2, a3, a4, a5, a6, ps.map refC, l.map refK) :=
 Ref_go2 a0 a1 a2 a3 a4 a5 a6 ps l hp hl l.length 0 k [] (by omega) rfl (by omega)
structure Small6 (a6 : ByteArray) (l : List Pick) : Prop where
 s : a6.size ≤ 1048576
 t : ∀ y ∈ l, y.f1.size ≤ 1048576
section
variable (a0 : Int) (a1 a2 a3 : ByteArray) (a4 a5 : Int) (a6 : ByteArray) (ps : List Piece) (l : List Pick)
abbrev t7 : Prop := l.all pk = true
abbrev t6 : Prop := l.length ≤ 100 ∧ (a0 ≠ 8 → l.length = 0)
abbrev t5 : Prop := ((a0 = 3 ∨ a0 = 7) → D a6 = true ∧ (Pc ps).2 = 0 ∧ (Pc ps).1 ≤ 1048576) ∧ (¬ (a0 = 3 ∨ a0 = 7) → a6.size = 0 ∧ ps.length = 0)
abbrev t4 : Prop := (a0 = 7 → 1 ≤ a5 ∧ a5 ≤ 100) ∧ (a0 ≠ 7 → a5 = 0)
abbrev iD : Prop := a0 = 5 ∨ (7 ≤ a0 ∧ a0 ≤ 10)
abbrev t3 : Prop := 0 ≤ a4 ∧ a4 ≤ 1099511627776 ∧ (¬ iD a0 → a4 = 0) ∧ (iD a0 → a0 < 10 → a4 ≠ 0)
abbrev t2 : Prop := ((3 ≤ a0 ∧ a0 ≤ 9) → keyOk a3 = true) ∧ (¬ (3 ≤ a0 ∧ a0 ≤ 9) → a3.size = 0)
abbrev t1 : Prop := (a0 = 10 → a2.size = 0) ∧ (a0 < 10 → bucketOk a2 = true)
abbrev t0 : Prop := a1.size ≠ 0 → a0 ≠ 10 ∧ tokOk a1 = true
end
theorem hasKey_eq (n : Int) : stowageref16_HasKey.f n = some (decide (3 ≤ n ∧ n ≤ 9)) := by
 unfold stowageref16_HasKey.f
 by_cases h1 : n ≥ 3
 ·
  rw [if_pos h1]; congr 1; exact decide_eq_decide.2 ⟨fun h => ⟨h1, h⟩, fun h => h.2⟩
 ·
  rw [if_neg h1]; congr 1; exact (decide_eq_false (fun h => h1 h.1)).symm
end Go.Proofs.YtdidopoalmkhlaaDoor.Pure
end
section
namespace Go.Proofs.YtdidopoalmkhlaaDoor.Pure
open Go.RowKit Go.Proofs.YtdidopoalmkhlaaDoor.Ot Go.Proofs.YtdidopoalmkhlaaDoorW.PrintWords Go.Proofs.YtdidopoalmkhlaaDoorW.PrintLast Go.Proofs.YtdidopoalmkhlaaDoorW.PrintMore
set_option linter.unusedVariables false
set_option linter.unusedSimpArgs false
theorem ic {p q : Prop} [Decidable p] [Decidable q] (h : p ↔ q) : (if p then (0 : Int) else 1) = (if q then 0 else 1) := by
 by_cases hp : p
 ·
  rw [if_pos hp, if_pos (h.1 hp)]
 ·
  rw [if_neg hp, if_neg (fun g => hp (h.2 g))]
theorem hasID_eq (n : Int) : stowageref16_hasID.f n = some (decide (iD n)) := by
 unfold stowageref16_hasID.f
 by_cases h0 : n = 5
 ·
  rw [if_pos h0, decide_eq_true (.inl h0)]
 ·
  rw [if_neg h0]
  by_cases h1 : n ≥ 7
  ·
   rw [if_pos h1]; congr 1; exact decide_eq_decide.2 ⟨fun h => .inr ⟨h1, h⟩, fun h => by rcases h with h | h; exact absurd h h0; exact h.2⟩
  ·
   rw [if_neg h1]; congr 1; exact (decide_eq_false (fun h => by rcases h with h | h; exact h0 h; exact h1 h.1)).symm
theorem hasSum_eq (n : Int) : stowageref16_hasSum.f n = some (decide (n = 3 ∨ n = 7)) := by
 unfold stowageref16_hasSum.f
 by_cases h0 : n = 3
 ·
  rw [if_pos h0, decide_eq_true (.inl h0)]
 ·
  rw [if_neg h0]; congr 1
  by_cases h1 : n = 7
  ·
   rw [beq_iff_eq.mpr h1, decide_eq_true (.inr h1)]
  ·
   rw [beq_eq_false_iff_ne.mpr h1, decide_eq_false (fun h => by rcases h with h | h; exact h0 h; exact h1 h)]
section
variable (a0 : Int) (a1 a2 a3 : ByteArray) (a4 a5 : Int) (a6 : ByteArray) (ps : List Piece) (l : List Pick)
theorem rc_l0 (hl : l.length ≤ 1048576) (hs : ∀ y ∈ l, y.f1.size ≤ 1048576) : ∀ n i k, i + n = l.length → n + 5300001 < k → stowageref16_Check.l0 k (i : Int) a0 a1 a2 a3 a4 a5 a6 (ps.map refC) (l.map refK) = some (if (l.drop i).all pk = true then 0 else 1) := by
 have hm : (l.map refK).length = l.length := List.length_map _
 intro n
 induction n with
 | zero =>
  intro i k hn hk
  obtain ⟨k, rfl⟩ : ∃ j, k = j + 1 := ⟨k - 1, by omega⟩
  rw [stowageref16_Check.l0, hm, if_neg (by omega), List.drop_of_length_le (by omega)]
  rfl
 | succ n ih =>
  intro i k hn hk
  obtain ⟨k, rfl⟩ : ∃ j, k = j + 1 := ⟨k - 1, by omega⟩
  have hd : (rdK l i).f1.size ≤ 1048576 := hs _ (memK l i (by omega))
  rw [stowageref16_Check.l0, hm, if_pos (by omega), if_pos (by omega), rdK' l i (by omega), dropK l i (by omega), List.all_cons]
  show (if (rdK l i).f0 < 0 then _ else if (rdK l i).f0 > 100 then _ else (stowageref06_May.f k (rdK l i).f1).bind _) = _
  have no : pk (rdK l i) = false → (some 1 : Option Int) = some (if (pk (rdK l i) && (l.drop (i + 1)).all pk) = true then 0 else 1) := fun h => by rw [h, Bool.false_and, if_neg (by decide)]
  by_cases h1 : (rdK l i).f0 < 0
  ·
   rw [if_pos h1]; exact no (by unfold pk; rw [decide_eq_false (by omega), Bool.false_and])
  ·
   rw [if_neg h1]
   by_cases h2 : (rdK l i).f0 > 100
   ·
    rw [if_pos h2]; exact no (by unfold pk; rw [decide_eq_false (by omega), Bool.false_and])
   ·
    rw [if_neg h2, may06_eq _ hd k (by omega), Option.bind_some]
    cases h3 : D (rdK l i).f1
    ·
     rw [if_neg (by decide)]; exact no (by unfold pk; rw [h3, Bool.and_false])
    ·
     have e : pk (rdK l i) = true := by unfold pk; rw [h3, decide_eq_true ⟨by omega, by omega⟩]; rfl
     rw [if_pos rfl, w1 i (by omega), ih (i + 1) k (by omega) (by omega), e, Bool.true_and]
variable (hsm : SmallCmd a1 a2 a3 a6 ps l) (h6 : Small6 a6 l)
include hsm h6
theorem rc_j7 (b : Bool) (k : Nat) (hk : 7000000 ≤ k) : stowageref16_Check.j7 k b a0 a1 a2 a3 a4 a5 a6 (ps.map refC) (l.map refK) = some (if b = false ∧ t7 l then 0 else 1) := by
 obtain ⟨k, rfl⟩ : ∃ j, k = j + 1 := ⟨k - 1, by omega⟩
 rw [stowageref16_Check.j7]
 cases b with
 | true => rw [if_pos rfl, if_neg (by simp)]
 | false =>
  have := rc_l0 a0 a1 a2 a3 a4 a5 a6 ps l hsm.hl h6.t l.length 0 k (by omega) (by have := hsm.hl; omega)
  rw [if_neg (by decide)]
  show stowageref16_Check.l0 k ((0 : Nat) : Int) a0 a1 a2 a3 a4 a5 a6 (ps.map refC) (l.map refK) = _
  rw [this, List.drop_zero]
  simp only [true_and]
theorem rc_j6 (b : Bool) (k : Nat) (hk : 7000001 ≤ k) : stowageref16_Check.j6 k b a0 a1 a2 a3 a4 a5 a6 (ps.map refC) (l.map refK) = some (if b = false ∧ t6 a0 l ∧ t7 l then 0 else 1) := by
 obtain ⟨k, rfl⟩ : ∃ j, k = j + 1 := ⟨k - 1, by omega⟩
 have J := fun c => rc_j7 a0 a1 a2 a3 a4 a5 a6 ps l hsm h6 c k (by omega)
 have hm : (l.map refK).length = l.length := List.length_map _
 rw [stowageref16_Check.j6, hm]
 cases b with
 | true => rw [if_pos rfl, if_neg (by simp)]
 | false =>
  rw [if_neg (by decide)]
  by_cases h1 : (l.length : Int) > 100
  ·
   rw [if_pos h1, J, if_neg (by simp), if_neg (fun h => by have := h.2.1.1; omega)]
  ·
   rw [if_neg h1]
   by_cases h2 : a0 = 8
   ·
    rw [if_pos h2, J]; congr 1; exact ic ⟨fun h => ⟨rfl, ⟨by omega, fun g => absurd h2 g⟩, h.2⟩, fun h => ⟨rfl, h.2.2⟩⟩
   ·
    rw [if_neg h2, J]; congr 1; exact ic ⟨fun h => ⟨rfl, ⟨by omega, fun _ => by have := of_decide_eq_false h.1; omega⟩, h.2⟩, fun h => ⟨decide_eq_false (by have := h.2.1.2 h2; omega), h.2.2⟩⟩
theorem rc_j5 (b : Bool) (k : Nat) (hk : 7000002 ≤ k) : stowageref16_Check.j5 k b a0 a1 a2 a3 a4 a5 a6 (ps.map refC) (l.map refK) = some (if b = false ∧ t5 a0 a6 ps ∧ t6 a0 l ∧ t7 l then 0 else 1) := by
 obtain ⟨k, rfl⟩ : ∃ j, k = j + 1 := ⟨k - 1, by omega⟩
 have J := fun c => rc_j6 a0 a1 a2 a3 a4 a5 a6 ps l hsm h6 c k (by omega)
 have hm : (ps.map refC).length = ps.length := List.length_map _
 rw [stowageref16_Check.j5, hm]
 cases b with
 | true => rw [if_pos rfl, if_neg (by simp)]
 | false =>
  rw [if_neg (by decide), pieces13_eq ps hsm.hp hsm.sp k (by omega), Option.bind_some, hasSum_eq, Option.bind_some, may06_eq a6 h6.s k (by omega)]
  conv => lhs; simp only [Option.bind_some]
  by_cases h1 : a0 = 3 ∨ a0 = 7
  ·
   rw [decide_eq_true h1, if_pos rfl, if_pos rfl]
   by_cases h2 : D a6 = false
   ·
    rw [if_neg (by rw [h2]; decide), J, if_neg (by simp), if_neg (fun h => by have := (h.2.1.1 h1).1; rw [h2] at this; cases this)]
   ·
    have h2 : D a6 = true := by simpa using h2
    rw [if_pos h2]
    by_cases h3 : (Pc ps).2 = 0
    ·
     rw [if_pos h3]
     by_cases h4 : (Pc ps).1 > 1048576
     ·
      rw [if_pos h4, J, if_neg (by simp), if_neg (fun h => by have := (h.2.1.1 h1).2.2; omega)]
     ·
      rw [if_neg h4, J]; congr 1; exact ic ⟨fun h => ⟨rfl, ⟨fun _ => ⟨h2, h3, by omega⟩, fun g => absurd h1 g⟩, h.2⟩, fun h => ⟨rfl, h.2.2⟩⟩
    ·
     rw [if_neg h3, J, if_neg (by simp), if_neg (fun h => h3 (h.2.1.1 h1).2.1)]
  ·
   rw [decide_eq_false h1, if_neg (by decide), if_neg (by decide)]
   by_cases h2 : a6.toList = ([] : List UInt8)
   ·
    rw [if_pos h2, J]; congr 1; exact ic ⟨fun h => ⟨rfl, ⟨fun g => absurd g h1, fun _ => ⟨(toList_nil a6).1 h2, by have := of_decide_eq_false h.1; omega⟩⟩, h.2⟩, fun h => ⟨decide_eq_false (by have := (h.2.1.2 h1).2; omega), h.2.2⟩⟩
   ·
    rw [if_neg h2, J, if_neg (by simp), if_neg (fun h => h2 ((toList_nil a6).2 (h.2.1.2 h1).1))]
theorem rc_j4 (b : Bool) (k : Nat) (hk : 7000003 ≤ k) : stowageref16_Check.j4 k b a0 a1 a2 a3 a4 a5 a6 (ps.map refC) (l.map refK) = some (if b = false ∧ t4 a0 a5 ∧ t5 a0 a6 ps ∧ t6 a0 l ∧ t7 l then 0 else 1) := by
 obtain ⟨k, rfl⟩ : ∃ j, k = j + 1 := ⟨k - 1, by omega⟩
 have J := fun c => rc_j5 a0 a1 a2 a3 a4 a5 a6 ps l hsm h6 c k (by omega)
 rw [stowageref16_Check.j4]
 cases b with
 | true => rw [if_pos rfl, if_neg (by simp)]
 | false =>
  rw [if_neg (by decide)]
  by_cases h1 : a0 = 7
  ·
   rw [if_pos h1]
   by_cases h2 : a5 < 1
   ·
    rw [if_pos h2, J, if_neg (by simp), if_neg (fun h => by have := (h.2.1.1 h1).1; omega)]
   ·
    rw [if_neg h2]
    by_cases h3 : a5 > 100
    ·
     rw [if_pos h3, J, if_neg (by simp), if_neg (fun h => by have := (h.2.1.1 h1).2; omega)]
    ·
     rw [if_neg h3, J]; congr 1; exact ic ⟨fun h => ⟨rfl, ⟨fun _ => ⟨by omega, by omega⟩, fun g => absurd h1 g⟩, h.2⟩, fun h => ⟨rfl, h.2.2⟩⟩
  ·
   rw [if_neg h1, J]; congr 1; exact ic ⟨fun h => ⟨rfl, ⟨fun g => absurd g h1, fun _ => bne_eq_false_iff_eq.mp h.1⟩, h.2⟩, fun h => ⟨bne_eq_false_iff_eq.mpr (h.2.1.2 h1), h.2.2⟩⟩
theorem rc_j3 (b : Bool) (k : Nat) (hk : 7000004 ≤ k) : stowageref16_Check.j3 k b a0 a1 a2 a3 a4 a5 a6 (ps.map refC) (l.map refK) = some (if b = false ∧ t3 a0 a4 ∧ t4 a0 a5 ∧ t5 a0 a6 ps ∧ t6 a0 l ∧ t7 l then 0 else 1) := by
 obtain ⟨k, rfl⟩ : ∃ j, k = j + 1 := ⟨k - 1, by omega⟩
 have J := fun c => rc_j4 a0 a1 a2 a3 a4 a5 a6 ps l hsm h6 c k (by omega)
 rw [stowageref16_Check.j3]
 cases b with
 | true => rw [if_pos rfl, if_neg (by simp)]
 | false =>
  rw [if_neg (by decide), hasID_eq]
  conv => lhs; simp only [Option.bind_some]
  by_cases h1 : a4 < 0
  ·
   rw [if_pos h1, J, if_neg (by simp), if_neg (fun h => by have := h.2.1.1; omega)]
  ·
   rw [if_neg h1]
   by_cases h2 : a4 > 1099511627776
   ·
    rw [if_pos h2, J, if_neg (by simp), if_neg (fun h => by have := h.2.1.2.1; omega)]
   ·
    rw [if_neg h2]
    by_cases h3 : iD a0
    ·
     rw [decide_eq_true h3, if_pos rfl, if_pos rfl]
     by_cases h4 : a0 < 10
     ·
      rw [if_pos h4, J]; congr 1; exact ic ⟨fun h => ⟨rfl, ⟨by omega, by omega, fun g => absurd h3 g, fun _ _ => beq_eq_false_iff_ne.mp h.1⟩, h.2⟩, fun h => ⟨beq_eq_false_iff_ne.mpr (h.2.1.2.2.2 h3 h4), h.2.2⟩⟩
     ·
      rw [if_neg h4, J]; congr 1; exact ic ⟨fun h => ⟨rfl, ⟨by omega, by omega, fun g => absurd h3 g, fun _ g => absurd g h4⟩, h.2⟩, fun h => ⟨rfl, h.2.2⟩⟩
    ·
     rw [decide_eq_false h3, if_neg (by decide)]
     by_cases h4 : a4 = 0
     ·
      rw [if_pos h4, if_neg (by decide), J]; congr 1; exact ic ⟨fun h => ⟨rfl, ⟨by omega, by omega, fun _ => h4, fun g => absurd g h3⟩, h.2⟩, fun h => ⟨rfl, h.2.2⟩⟩
     ·
      rw [if_neg h4, J, if_neg (by simp), if_neg (fun h => h4 (h.2.1.2.2.1 h3))]
theorem rc_j2 (b : Bool) (k : Nat) (hk : 9223372036854775810 ≤ k) : stowageref16_Check.j2 k b a0 a1 a2 a3 a4 a5 a6 (ps.map refC) (l.map refK) = some (if b = false ∧ t2 a0 a3 ∧ t3 a0 a4 ∧ t4 a0 a5 ∧ t5 a0 a6 ps ∧ t6 a0 l ∧ t7 l then 0 else 1) := by
 obtain ⟨k, rfl⟩ : ∃ j, k = j + 1 := ⟨k - 1, by omega⟩
 have J := fun c => rc_j3 a0 a1 a2 a3 a4 a5 a6 ps l hsm h6 c k (by omega)
 rw [stowageref16_Check.j2]
 cases b with
 | true => rw [if_pos rfl, if_neg (by simp)]
 | false =>
  rw [if_neg (by decide), hasKey_eq, ref_Key_eq a3 (by have := hsm.s3; omega) k (by omega)]
  conv => lhs; simp only [Option.bind_some]
  by_cases h1 : 3 ≤ a0 ∧ a0 ≤ 9
  ·
   rw [decide_eq_true h1, if_pos rfl, if_pos rfl]
   by_cases h2 : keyOk a3 = false
   ·
    rw [if_neg (by rw [h2]; decide), J, if_neg (by simp), if_neg (fun h => by have := h.2.1.1 h1; rw [h2] at this; cases this)]
   ·
    have h2 : keyOk a3 = true := by simpa using h2
    rw [if_pos h2, J]; congr 1; exact ic ⟨fun h => ⟨rfl, ⟨fun _ => h2, fun g => absurd h1 g⟩, h.2⟩, fun h => ⟨rfl, h.2.2⟩⟩
  ·
   rw [decide_eq_false h1, if_neg (by decide), if_neg (by decide), J]; congr 1
   exact ic ⟨fun h => ⟨rfl, ⟨fun g => absurd g h1, fun _ => (toList_nil a3).1 (bne_eq_false_iff_eq.mp h.1)⟩, h.2⟩, fun h => ⟨bne_eq_false_iff_eq.mpr ((toList_nil a3).2 (h.2.1.2 h1)), h.2.2⟩⟩
theorem rc_j1 (b : Bool) (k : Nat) (hk : 9223372036854775811 ≤ k) : stowageref16_Check.j1 k b a0 a1 a2 a3 a4 a5 a6 (ps.map refC) (l.map refK) = some (if b = false ∧ t1 a0 a2 ∧ t2 a0 a3 ∧ t3 a0 a4 ∧ t4 a0 a5 ∧ t5 a0 a6 ps ∧ t6 a0 l ∧ t7 l then 0 else 1) := by
 obtain ⟨k, rfl⟩ : ∃ j, k = j + 1 := ⟨k - 1, by omega⟩
 have J := fun c => rc_j2 a0 a1 a2 a3 a4 a5 a6 ps l hsm h6 c k (by omega)
 rw [stowageref16_Check.j1]
 cases b with
 | true => rw [if_pos rfl, if_neg (by simp)]
 | false =>
  rw [if_neg (by decide), ref_Bucket_eq a2 (by have := hsm.s2; omega) k (by omega)]
  conv => lhs; simp only [Option.bind_some]
  by_cases h1 : a0 = 10
  ·
   rw [if_pos h1]
   by_cases h2 : a2.toList = ([] : List UInt8)
   ·
    rw [if_pos h2, if_neg (by omega), J]; congr 1; exact ic ⟨fun h => ⟨rfl, ⟨fun _ => (toList_nil a2).1 h2, fun g => by omega⟩, h.2⟩, fun h => ⟨rfl, h.2.2⟩⟩
   ·
    rw [if_neg h2, J, if_neg (by simp), if_neg (fun h => h2 ((toList_nil a2).2 (h.2.1.1 h1)))]
  ·
   rw [if_neg h1]
   by_cases h2 : a0 < 10
   ·
    rw [if_pos h2, J]; congr 1; exact ic ⟨fun h => ⟨rfl, ⟨fun g => absurd g h1, fun _ => by simpa using h.1⟩, h.2⟩, fun h => ⟨by rw [h.2.1.2 h2]; rfl, h.2.2⟩⟩
   ·
    rw [if_neg h2, J]; congr 1; exact ic ⟨fun h => ⟨rfl, ⟨fun g => absurd g h1, fun g => absurd g h2⟩, h.2⟩, fun h => ⟨rfl, h.2.2⟩⟩
theorem rc_j0 (b : Bool) (k : Nat) (hk : 9223372036854775812 ≤ k) : stowageref16_Check.j0 k b a0 a1 a2 a3 a4 a5 a6 (ps.map refC) (l.map refK) = some (if b = false ∧ t0 a0 a1 ∧ t1 a0 a2 ∧ t2 a0 a3 ∧ t3 a0 a4 ∧ t4 a0 a5 ∧ t5 a0 a6 ps ∧ t6 a0 l ∧ t7 l then 0 else 1) := by
 obtain ⟨k, rfl⟩ : ∃ j, k = j + 1 := ⟨k - 1, by omega⟩
 have J := fun c => rc_j1 a0 a1 a2 a3 a4 a5 a6 ps l hsm h6 c k (by omega)
 rw [stowageref16_Check.j0]
 cases b with
 | true => rw [if_pos rfl, if_neg (by simp)]
 | false =>
  rw [if_neg (by decide), ref_Token_eq a1 (by have := hsm.s1; omega) k (by omega)]
  conv => lhs; simp only [Option.bind_some]
  by_cases h1 : a1.toList = ([] : List UInt8)
  ·
   rw [if_pos h1, J]; congr 1; exact ic ⟨fun h => ⟨rfl, fun g => absurd ((toList_nil a1).1 h1) g, h.2⟩, fun h => ⟨rfl, h.2.2⟩⟩
  ·
   have h1' : a1.size ≠ 0 := fun g => h1 ((toList_nil a1).2 g)
   rw [if_neg h1]
   by_cases h2 : a0 = 10
   ·
    rw [if_pos h2, J, if_neg (by simp), if_neg (fun h => (h.2.1 h1').1 h2)]
   ·
    rw [if_neg h2, J]; congr 1; exact ic ⟨fun h => ⟨rfl, fun _ => ⟨h2, by simpa using h.1⟩, h.2⟩, fun h => ⟨by rw [(h.2.1 h1').2]; rfl, h.2.2⟩⟩
end
theorem bits (n : Int) (h : 1 ≤ n ∧ n ≤ 10) : (ba (fb n) 1 = 0 ↔ n = 10) ∧ (ba (fb n) 2 = 0 ↔ n = 10) ∧ (ba (fb n) 4 = 0 ↔ ¬ (3 ≤ n ∧ n ≤ 9)) ∧ (ba (fb n) 8 = 0 ↔ ¬ iD n) ∧ (ba (fb n) 16 = 0 ↔ n ≠ 7) ∧ (ba (fb n) 32 = 0 ↔ ¬ (n = 3 ∨ n = 7)) ∧ (ba (fb n) 64 = 0 ↔ ¬ (n = 3 ∨ n = 7)) ∧ (ba (fb n) 128 = 0 ↔ n ≠ 8) ∧ fb n ≠ 0 := by
 obtain ⟨m, rfl⟩ : ∃ m : Nat, n = m := ⟨n.toNat, by omega⟩
 have : m = 1 ∨ m = 2 ∨ m = 3 ∨ m = 4 ∨ m = 5 ∨ m = 6 ∨ m = 7 ∨ m = 8 ∨ m = 9 ∨ m = 10 := by omega
 rcases this with rfl | rfl | rfl | rfl | rfl | rfl | rfl | rfl | rfl | rfl <;> decide +kernel
theorem CK_iff (a0 : Int) (a1 a2 a3 : ByteArray) (a4 a5 : Int) (a6 : ByteArray) (ps : List Piece) (l : List Pick) :
  CK a0 a1 a2 a3 a4 a5 a6 ps l ↔ (1 ≤ a0 ∧ a0 ≤ 10) ∧ t0 a0 a1 ∧ t1 a0 a2 ∧ t2 a0 a3 ∧ t3 a0 a4 ∧ t4 a0 a5 ∧ t5 a0 a6 ps ∧ t6 a0 l ∧ t7 l := by
 constructor
 ·
  intro h
  have hb := CK_bd h
  obtain ⟨f1, f2, f3, f4, f5, f6, f7, f8, f9⟩ := bits a0 hb.k0
  obtain ⟨h0, ⟨z1, z2, z3, z4, z5, z6, z7, z8⟩, ht, ⟨r1, r2, r3, r4, r5⟩, ⟨q1, q2, q3, q4, q5, q6, q7⟩, hk⟩ := h
  refine ⟨hb.k0, ?_, ⟨fun h => z2 (f2.2 h), fun h => r1 (fun g => by have := f2.1 g; omega)⟩, ⟨fun h => r2 (fun g => f3.1 g h), fun h => z3 (f3.2 h)⟩, ⟨q1, q2, fun h => z4 (f4.2 h), fun h1 h2 h3 => by have := q3 (fun g => f4.1 g h1) h3; omega⟩, ⟨fun h => ?_, fun h => z5 (f5.2 h)⟩, ⟨fun h => ⟨r3 (fun g => f6.1 g h), r4, r5⟩, fun h => ⟨z6 (f6.2 h), z7 (f7.2 h)⟩⟩, ⟨q7, fun h => z8 (f8.2 h)⟩, hk⟩
  ·
   intro h1
   exact ⟨fun h2 => h1 (z1 (f1.2 h2)), ht h1⟩
  ·
   have := q6 (fun g => f5.1 g h)
   omega
 ·
  rintro ⟨hk, h0, h1, h2, h3, h4, h5, h6, h7⟩
  obtain ⟨f1, f2, f3, f4, f5, f6, f7, f8, f9⟩ := bits a0 hk
  have hp0 : ps.length = 0 → (Pc ps).2 = 0 ∧ (Pc ps).1 ≤ 1048576 := fun h => by
   obtain rfl := List.length_eq_zero_iff.1 h
   exact ⟨rfl, by decide⟩
  refine ⟨f9, ⟨fun g => ?_, fun g => h1.1 (f2.1 g), fun g => h2.2 (f3.1 g), fun g => h3.2.2.1 (f4.1 g), fun g => h4.2 (f5.1 g), fun g => (h5.2 (f6.1 g)).1, fun g => (h5.2 (f7.1 g)).2, fun g => h6.2 (f8.1 g)⟩, fun g => (h0 g).2, ⟨fun g => ?_, fun g => ?_, fun g => ?_, ?_, ?_⟩, ⟨h3.1, h3.2.1, fun g e => ?_, ?_, ?_, fun g => ?_, h6.1⟩, h7⟩
  ·
   rcases Nat.eq_zero_or_pos a1.size with e | e
   ·
    exact e
   ·
    exact absurd (f1.1 g) (h0 (by omega)).1
  ·
   by_cases e : a0 = 10
   ·
    exact absurd (f2.2 e) g
   ·
    exact h1.2 (by omega)
  ·
   by_cases e : 3 ≤ a0 ∧ a0 ≤ 9
   ·
    exact h2.1 e
   ·
    exact absurd (f3.2 e) g
  ·
   by_cases e : a0 = 3 ∨ a0 = 7
   ·
    exact (h5.1 e).1
   ·
    exact absurd (f6.2 e) g
  ·
   by_cases e : a0 = 3 ∨ a0 = 7
   ·
    exact (h5.1 e).2.1
   ·
    exact (hp0 (h5.2 e).2).1
  ·
   by_cases e : a0 = 3 ∨ a0 = 7
   ·
    exact (h5.1 e).2.2
   ·
    exact (hp0 (h5.2 e).2).2
  ·
   by_cases e1 : a0 < 10
   ·
    by_cases e2 : iD a0
    ·
     exact absurd e (h3.2.2.2 e2 e1)
    ·
     exact absurd (f4.2 e2) g
   ·
    omega
  ·
   by_cases e : a0 = 7
   ·
    have := (h4.1 e).1; omega
   ·
    have := h4.2 e; omega
  ·
   by_cases e : a0 = 7
   ·
    exact (h4.1 e).2
   ·
    have := h4.2 e; omega
  ·
   by_cases e : a0 = 7
   ·
    have := (h4.1 e).1; omega
   ·
    exact absurd (f5.2 e) g
theorem rcheck_eq (a0 : Int) (a1 a2 a3 : ByteArray) (a4 a5 : Int) (a6 : ByteArray) (ps : List Piece) (l : List Pick) (hsm : SmallCmd a1 a2 a3 a6 ps l) (h6 : Small6 a6 l) (k : Nat) (hk : 9223372036854775812 ≤ k) :
  stowageref16_Check.f k a0 a1 a2 a3 a4 a5 a6 (ps.map refC) (l.map refK) = some (if CK a0 a1 a2 a3 a4 a5 a6 ps l then 0 else 1) := by
 have J := fun c => rc_j0 a0 a1 a2 a3 a4 a5 a6 ps l hsm h6 c k hk
 unfold stowageref16_Check.f
 have hiff := CK_iff a0 a1 a2 a3 a4 a5 a6 ps l
 by_cases h1 : a0 < 1
 ·
  rw [if_pos h1, J, if_neg (by simp), if_neg (fun h => by have := (hiff.1 h).1; omega)]
 ·
  rw [if_neg h1, J]; congr 1
  exact ic ⟨fun h => hiff.2 ⟨⟨by omega, by have := of_decide_eq_false h.1; omega⟩, h.2⟩, fun h => ⟨decide_eq_false (by have := (hiff.1 h).1; omega), (hiff.1 h).2⟩⟩
end Go.Proofs.YtdidopoalmkhlaaDoor.Pure
end
section
namespace Go.Proofs.YtdidopoalmkhlaaDoor.Pure
open Go.RowKit Go.Proofs.YtdidopoalmkhlaaDoor.Ot Go.Proofs.YtdidopoalmkhlaaDoorW.PrintWords Go.Proofs.YtdidopoalmkhlaaDoorW.PrintLast Go.Proofs.YtdidopoalmkhlaaDoorW.PrintMore
set_option linter.unusedVariables false
set_option linter.unusedSimpArgs false
theorem Bd.bare {a0 : Int} {a1 a2 a3 : ByteArray} {a4 a5 : Int} {a6 : ByteArray} {ps : List Piece} {l : List Pick} (h : Bd a0 a1 a2 a3 a4 a5 a6 ps l) : Bd a0 ⟨#[]⟩ a2 a3 a4 a5 a6 ps l :=
 ⟨h.k0, Nat.zero_le _, h.b2, h.b3, h.b4, h.b5, h.b6, h.hp, h.bp, h.hl, h.bl⟩
theorem Digest_eq (a0 : Int) (a1 a2 a3 : ByteArray) (a4 a5 : Int) (a6 : ByteArray) (ps : List Piece) (l : List Pick) (h : SmallCmd a1 a2 a3 a6 ps l) (k : Nat) (hk : 1073741828 ≤ k) :
  cmd_Digest.f k a0 a1 a2 a3 a4 a5 a6 ps l = some (if CK a0 a1 a2 a3 a4 a5 a6 ps l then (dig (toldB a0 ⟨#[]⟩ a2 a3 a4 a5 a6 ps l), 0) else ((⟨#[]⟩ : ByteArray), 1)) := by
 unfold cmd_Digest.f
 rw [check_eq _ _ _ _ _ _ _ _ _ h k hk]
 by_cases hc : CK a0 a1 a2 a3 a4 a5 a6 ps l
 ·
  obtain ⟨h1, h2⟩ := told_eq (CK_bd hc).bare k (by omega)
  rw [if_pos hc, if_pos hc, Option.bind_some, if_pos rfl, h1, Option.bind_some, dig_tag _ (by omega), Option.bind_some, dig_hex, Option.bind_some]
 ·
  rw [if_neg hc, if_neg hc, Option.bind_some, if_neg (by decide)]
theorem rp_ext {x y : RPick} (h0 : x.f0 = y.f0) (h1 : x.f1 = y.f1) : x = y := by cases x; cases y; cases h0; cases h1; rfl
theorem rc_ext {x y : RPiece} (h0 : x.f0 = y.f0) (h1 : x.f1 = y.f1) : x = y := by cases x; cases y; cases h0; cases h1; rfl
theorem dropRC (l : List RPiece) (i : Nat) (h : i < l.length) : l.drop i = rd_T95 l (i : Int) :: l.drop (i + 1) := by
 rw [List.drop_eq_getElem_cons h]; congr 1
 show l[i] = l.getD (i : Int).toNat _
 rw [Int.toNat_natCast, List.getD_eq_getElem?_getD, List.getElem?_eq_getElem h]; rfl
theorem dropRK (l : List RPick) (i : Nat) (h : i < l.length) : l.drop i = rd_T61 l (i : Int) :: l.drop (i + 1) := by
 rw [List.drop_eq_getElem_cons h]; congr 1
 show l[i] = l.getD (i : Int).toNat _
 rw [Int.toNat_natCast, List.getD_eq_getElem?_getD, List.getElem?_eq_getElem h]; rfl
section
variable (a0 : Int) (a1 a2 a3 : ByteArray) (a4 a5 : Int) (a6 : ByteArray) (ps : List RPiece) (l : List RPick) (b0 : Int) (b1 b2 b3 : ByteArray) (b4 b5 : Int) (b6 : ByteArray) (qs : List RPiece) (m : List RPick)
end
theorem map_inj {α β : Type} {f : α → β} (hf : ∀ x y, f x = f y → x = y) : ∀ {l m : List α}, l.map f = m.map f → l = m
 | [], [], _ => rfl
 | [], _ :: _, h => by cases h
 | _ :: _, [], h => by cases h
 | x :: l, y :: m, h => by
  rw [List.map_cons, List.map_cons] at h
  rw [hf x y (List.cons.inj h).1, map_inj hf (List.cons.inj h).2]
theorem refC_inj (x y : Piece) (h : refC x = refC y) : x = y := by cases x; cases y; cases h; rfl
theorem refK_inj (x y : Pick) (h : refK x = refK y) : x = y := by cases x; cases y; cases h; rfl
theorem steps {a0 : Int} {a1 a2 a3 : ByteArray} {a4 a5 : Int} {a6 : ByteArray} {ps : List Piece} {l : List Pick} (hc : CK a0 a1 a2 a3 a4 a5 a6 ps l) (T : ByteArray) (hs' : T.size ≤ 1073741824) (rest : List UInt8) (h : T.data.toList = (toldB a0 a1 a2 a3 a4 a5 a6 ps l).data.toList ++ rest) (k : Nat) (hk : 40 ≤ k) :
  ∃ p0 p1 p2 p3 p4 p5 p6 p7 p8 p9 p10 : Nat, xn T 0 0 10 = (a0, (p0 : Int), 0) ∧ cmd_Decode_txt k (!nb (fb a0) 1) T (p0 : Int) 0 64 = some (a1, T, (p1 : Int), 0) ∧ cmd_Decode_txt k (!nb (fb a0) 2) T (p1 : Int) 0 63 = some (a2, T, (p2 : Int), 0) ∧ cmd_Decode_txt k (!nb (fb a0) 4) T (p2 : Int) 0 1024 = some (a3, T, (p3 : Int), 0) ∧
   cmd_Decode_num k (!nb (fb a0) 8) T (p3 : Int) 0 1099511627776 = some (a4, T, (p4 : Int), 0) ∧ cmd_Decode_num k (!nb (fb a0) 16) T (p4 : Int) 0 100 = some (a5, T, (p5 : Int), 0) ∧ cmd_Decode_txt k (!nb (fb a0) 32) T (p5 : Int) 0 64 = some (a6, T, (p6 : Int), 0) ∧ cmd_Decode_num k (!nb (fb a0) 64) T (p6 : Int) 0 512 = some ((ps.length : Int), T, (p7 : Int), 0) ∧
   cmd_Decode_l0 k ps.length T (p7 : Int) 0 [] = some (T, (p8 : Int), 0, ps) ∧ cmd_Decode_num k (!nb (fb a0) 128) T (p8 : Int) 0 100 = some ((l.length : Int), T, (p9 : Int), 0) ∧ cmd_Decode_l1 k l.length T (p9 : Int) 0 [] = some (T, (p10 : Int), 0, l) := by
 have hb := CK_bd hc
 have hL : T.data.toList.drop 0 = (num a0).data.toList ++ ((ot (nb (fb a0) 1) a1).data.toList ++ ((ot (nb (fb a0) 2) a2).data.toList ++ ((ot (nb (fb a0) 4) a3).data.toList ++ ((on (nb (fb a0) 8) a4).data.toList ++ ((on (nb (fb a0) 16) a5).data.toList ++ ((ot (nb (fb a0) 32) a6).data.toList ++ ((on (nb (fb a0) 64) (ps.length : Int)).data.toList ++ ((tpB ps).data.toList ++ ((on (nb (fb a0) 128) (l.length : Int)).data.toList ++ ((tkB l).data.toList ++ rest)))))))))) := by
  rw [List.drop_zero, h]
  unfold toldB
  simp only [al, List.append_assoc]
 obtain ⟨h0, ⟨z1, z2, z3, z4, z5, z6, z7, z8⟩, -⟩ := id hc
 obtain ⟨k0, b1, b2, b3, b4, b5, b6, hp, bp, hl, bl⟩ := hb
 have q0 := xn_back T 0 a0 10 _ (by omega) (by omega) (by omega) hL
 have d0 := drop_add _ _ _ _ hL
 rw [len_eq] at d0
 have s0 := size_le T 0 _ _ (num_pos a0) hL
 rw [len_eq] at s0
 obtain ⟨e1, d1, s1⟩ := dec_txt k (by omega) (nb (fb a0) 1) T a1 _ 64 _ hs' s0 (by omega) (by omega) (fun h => z1 (nb_zero h)) d0
 obtain ⟨e2, d2, s2⟩ := dec_txt k (by omega) (nb (fb a0) 2) T a2 _ 63 _ hs' s1 (by omega) (by omega) (fun h => z2 (nb_zero h)) d1
 obtain ⟨e3, d3, s3⟩ := dec_txt k (by omega) (nb (fb a0) 4) T a3 _ 1024 _ hs' s2 (by omega) (by omega) (fun h => z3 (nb_zero h)) d2
 obtain ⟨e4, d4, s4⟩ := dec_num k (by omega) (nb (fb a0) 8) T a4 _ 1099511627776 _ hs' s3 b4.1 b4.2 (by omega) (fun h => z4 (nb_zero h)) d3
 obtain ⟨e5, d5, s5⟩ := dec_num k (by omega) (nb (fb a0) 16) T a5 _ 100 _ hs' s4 b5.1 b5.2 (by omega) (fun h => z5 (nb_zero h)) d4
 obtain ⟨e6, d6, s6⟩ := dec_txt k (by omega) (nb (fb a0) 32) T a6 _ 64 _ hs' s5 (by omega) (by omega) (fun h => z6 (nb_zero h)) d5
 obtain ⟨e7, d7, s7⟩ := dec_num k (by omega) (nb (fb a0) 64) T (ps.length : Int) _ 512 _ hs' s6 (by omega) (by omega) (by omega) (fun h => by have := z7 (nb_zero h); omega) d6
 obtain ⟨e8, d8, s8⟩ := dec_l0 k (by omega) T hs' ps _ [] _ s7 (by rw [List.length_nil]; omega) bp d7
 obtain ⟨e9, d9, s9⟩ := dec_num k (by omega) (nb (fb a0) 128) T (l.length : Int) _ 100 _ hs' s8 (by omega) (by omega) (by omega) (fun h => by have := z8 (nb_zero h); omega) d8
 obtain ⟨e10, d10, s10⟩ := dec_l1 k (by omega) T hs' l _ [] _ s9 (by rw [List.length_nil]; omega) bl d9
 exact ⟨_, _, _, _, _, _, _, _, _, _, _, q0, e1, e2, e3, e4, e5, e6, e7, e8, e9, e10⟩
theorem uniq {a0 : Int} {a1 a2 a3 : ByteArray} {a4 a5 : Int} {a6 : ByteArray} {ps : List Piece} {l : List Pick} {b0 : Int} {b1 b2 b3 : ByteArray} {b4 b5 : Int} {b6 : ByteArray} {qs : List Piece} {m : List Pick} (hc : CK a0 a1 a2 a3 a4 a5 a6 ps l) (hd : CK b0 b1 b2 b3 b4 b5 b6 qs m) (r : List UInt8)
  (h : (toldB b0 b1 b2 b3 b4 b5 b6 qs m).data.toList = (toldB a0 a1 a2 a3 a4 a5 a6 ps l).data.toList ++ r) : a0 = b0 ∧ a1 = b1 ∧ a2 = b2 ∧ a3 = b3 ∧ a4 = b4 ∧ a5 = b5 ∧ a6 = b6 ∧ ps = qs ∧ l = m := by
 have hz := (told_eq (CK_bd hd) 40 (by omega)).2
 obtain ⟨p0, p1, p2, p3, p4, p5, p6, p7, p8, p9, p10, x0, x1, x2, x3, x4, x5, x6, x7, x8, x9, x10⟩ := steps hc _ (by omega) r h 40 (Nat.le_refl _)
 obtain ⟨q0, q1, q2, q3, q4, q5, q6, q7, q8, q9, q10, y0, y1, y2, y3, y4, y5, y6, y7, y8, y9, y10⟩ := steps hd _ (by omega) [] (List.append_nil _).symm 40 (Nat.le_refl _)
 generalize toldB b0 b1 b2 b3 b4 b5 b6 qs m = T at *
 have e0 := x0.symm.trans y0
 simp only [Prod.mk.injEq, and_true] at e0
 obtain ⟨rfl, e⟩ := e0
 obtain rfl : p0 = q0 := by omega
 have e1 := x1.symm.trans y1
 simp only [Option.some.injEq, Prod.mk.injEq, and_true, true_and] at e1
 obtain ⟨rfl, e⟩ := e1
 obtain rfl : p1 = q1 := by omega
 have e2 := x2.symm.trans y2
 simp only [Option.some.injEq, Prod.mk.injEq, and_true, true_and] at e2
 obtain ⟨rfl, e⟩ := e2
 obtain rfl : p2 = q2 := by omega
 have e3 := x3.symm.trans y3
 simp only [Option.some.injEq, Prod.mk.injEq, and_true, true_and] at e3
 obtain ⟨rfl, e⟩ := e3
 obtain rfl : p3 = q3 := by omega
 have e4 := x4.symm.trans y4
 simp only [Option.some.injEq, Prod.mk.injEq, and_true, true_and] at e4
 obtain ⟨rfl, e⟩ := e4
 obtain rfl : p4 = q4 := by omega
 have e5 := x5.symm.trans y5
 simp only [Option.some.injEq, Prod.mk.injEq, and_true, true_and] at e5
 obtain ⟨rfl, e⟩ := e5
 obtain rfl : p5 = q5 := by omega
 have e6 := x6.symm.trans y6
 simp only [Option.some.injEq, Prod.mk.injEq, and_true, true_and] at e6
 obtain ⟨rfl, e⟩ := e6
 obtain rfl : p6 = q6 := by omega
 have e7 := x7.symm.trans y7
 simp only [Option.some.injEq, Prod.mk.injEq, and_true, true_and] at e7
 obtain ⟨hn, e⟩ := e7
 obtain rfl : p7 = q7 := by omega
 have hn' : ps.length = qs.length := by omega
 rw [hn'] at x8
 have e8 := x8.symm.trans y8
 simp only [Option.some.injEq, Prod.mk.injEq, and_true, true_and] at e8
 obtain ⟨e, rfl⟩ := e8
 obtain rfl : p8 = q8 := by omega
 have e9 := x9.symm.trans y9
 simp only [Option.some.injEq, Prod.mk.injEq, and_true, true_and] at e9
 obtain ⟨hn2, e⟩ := e9
 obtain rfl : p9 = q9 := by omega
 have hn2' : l.length = m.length := by omega
 rw [hn2'] at x10
 have e10 := x10.symm.trans y10
 simp only [Option.some.injEq, Prod.mk.injEq, and_true, true_and] at e10
 obtain ⟨e, rfl⟩ := e10
 exact ⟨rfl, rfl, rfl, rfl, rfl, rfl, rfl, rfl, rfl⟩
end Go.Proofs.YtdidopoalmkhlaaDoor.Pure
end
section
namespace Go.Proofs.YtdidopoalmkhlaaDoor.Pure
open Go.RowKit Go.Proofs.YtdidopoalmkhlaaDoor.Ot Go.Proofs.YtdidopoalmkhlaaDoorW.PrintWords Go.Proofs.YtdidopoalmkhlaaDoorW.PrintLast Go.Proofs.YtdidopoalmkhlaaDoorW.PrintMore
set_option linter.unusedVariables false
set_option linter.unusedSimpArgs false
def rdig (n : Int) : Int := if n < 10 then (48 + n) % 256 else (87 + n) % 256
def hexN (l : List UInt8) : List Int := l.flatMap fun c => [rdig ((Int.tdiv (c.toNat : Int) 16) % 256), rdig (Int.tmod (c.toNat : Int) 16)]
theorem two_nat : ∀ n, n < 256 → (Sha.two (UInt8.ofNat n)).map UInt8.ofBitVec = [rdig ((Int.tdiv (n : Int) 16) % 256), rdig (Int.tmod (n : Int) 16)].map fun n => UInt8.ofNat n.toNat := by decide +kernel
theorem two_eq (c : UInt8) : (Sha.two c).map UInt8.ofBitVec = [rdig ((Int.tdiv (c.toNat : Int) 16) % 256), rdig (Int.tmod (c.toNat : Int) 16)].map fun n => UInt8.ofNat n.toNat := by
 have := two_nat c.toNat c.toNat_lt
 rwa [UInt8.ofNat_toNat] at this
theorem hexN_eq (l : List UInt8) : strOfNums (hexN l) = Sha.ofB (Sha.hexL l) := by
 have h : (hexN l).map (fun n => UInt8.ofNat n.toNat) = (Sha.hexL l).map UInt8.ofBitVec := by
  induction l with
  | nil => rfl
  | cons c l ih =>
   have e1 : hexN (c :: l) = [rdig ((Int.tdiv (c.toNat : Int) 16) % 256), rdig (Int.tmod (c.toNat : Int) 16)] ++ hexN l := rfl
   have e2 : Sha.hexL (c :: l) = Sha.two c ++ Sha.hexL l := rfl
   rw [e1, e2, List.map_append, List.map_append, ih, two_eq]
 unfold strOfNums Sha.ofB
 rw [h]
theorem hex_go (a : ByteArray) (hs : a.size ≤ 1048576) : ∀ n i k (acc : List Int), i + n = a.size → 4 * n < k → acc.length ≤ 2 * i → stowageref03_Hex.l0 k a acc (i : Int) = some (strOfNums (acc ++ hexN (a.data.toList.drop i))) := by
 intro n
 induction n with
 | zero =>
  intro i k acc hi hk ha
  obtain ⟨k, rfl⟩ : ∃ j, k = j + 1 := ⟨k - 1, by omega⟩
  rw [stowageref03_Hex.l0, if_neg (by omega), List.drop_of_length_le (by rw [len_eq]; omega)]
  show _ = some (strOfNums (acc ++ []))
  rw [List.append_nil]
 | succ n ih =>
  intro i k acc hi hk ha
  obtain ⟨k, rfl⟩ : ∃ j, k = j + 1 + 1 + 1 + 1 := ⟨k - 4, by omega⟩
  obtain ⟨c, hd, hb⟩ := bt_get a i (by omega)
  rw [stowageref03_Hex.l0, if_pos (by omega), if_pos (by omega), Option.bind_some, hb, hd]
  obtain ⟨x, hx⟩ : ∃ x, (Int.tdiv (c.toNat : Int) 16) % 256 = x := ⟨_, rfl⟩
  obtain ⟨y, hy⟩ : ∃ y, Int.tmod (c.toNat : Int) 16 = y := ⟨_, rfl⟩
  have e : hexN (c :: a.data.toList.drop (i + 1)) = [rdig x, rdig y] ++ hexN (a.data.toList.drop (i + 1)) := by rw [← hx, ← hy]; rfl
  rw [e, hx, hy]
  have d : ∀ (k : Nat) (acc : List Int) (z : Int) (j : Int), acc.length ≤ 4194304 → (if z < 10 then (if acc.length < 140737488355328 then stowageref03_Hex.l1 k a (acc ++ [(48 + z) % 256]) (i : Int) [x, y] 2 j else none) else (if acc.length < 140737488355328 then stowageref03_Hex.l1 k a (acc ++ [(87 + z) % 256]) (i : Int) [x, y] 2 j else none)) = stowageref03_Hex.l1 k a (acc ++ [rdig z]) (i : Int) [x, y] 2 j := by
   intro k acc z j hl
   unfold rdig
   by_cases h : z < 10
   ·
    rw [if_pos h, if_pos (by omega), if_pos h]
   ·
    rw [if_neg h, if_pos (by omega), if_neg h]
  show stowageref03_Hex.l1 (k + 1 + 1 + 1) a acc (i : Int) [x, y] 2 0 = _
  rw [stowageref03_Hex.l1, if_pos (by decide), if_pos (by decide), if_pos (show (0 : Int) < (([x, y] : List Int).length : Int) by show (0 : Int) < ((2 : Nat) : Int); decide)]
  show (if x < 10 then (if acc.length < 140737488355328 then stowageref03_Hex.l1 (k + 1 + 1) a (acc ++ [(48 + x) % 256]) (i : Int) [x, y] 2 (wrap64 (0 + 1)) else none) else (if acc.length < 140737488355328 then stowageref03_Hex.l1 (k + 1 + 1) a (acc ++ [(87 + x) % 256]) (i : Int) [x, y] 2 (wrap64 (0 + 1)) else none)) = _
  rw [d (k + 1 + 1) acc x _ (by omega), show wrap64 (0 + 1) = 1 from IntWalk.wrap64_in _ (by omega), stowageref03_Hex.l1, if_pos (by decide), if_pos (by decide), if_pos (show (1 : Int) < (([x, y] : List Int).length : Int) by show (1 : Int) < ((2 : Nat) : Int); decide)]
  show (if y < 10 then (if (acc ++ [rdig x]).length < 140737488355328 then stowageref03_Hex.l1 (k + 1) a ((acc ++ [rdig x]) ++ [(48 + y) % 256]) (i : Int) [x, y] 2 (wrap64 (1 + 1)) else none) else (if (acc ++ [rdig x]).length < 140737488355328 then stowageref03_Hex.l1 (k + 1) a ((acc ++ [rdig x]) ++ [(87 + y) % 256]) (i : Int) [x, y] 2 (wrap64 (1 + 1)) else none)) = _
  rw [d (k + 1) (acc ++ [rdig x]) y _ (by rw [List.length_append, List.length_singleton]; omega), show wrap64 (1 + 1) = 2 from IntWalk.wrap64_in _ (by omega), stowageref03_Hex.l1, if_neg (by decide), w1 i (by omega),
   ih (i + 1) k _ (by omega) (by omega) (by rw [List.length_append, List.length_append, List.length_singleton, List.length_singleton]; omega), List.append_assoc, List.append_assoc]
  rfl
theorem hex_eq (a : ByteArray) (hs : a.size ≤ 1048576) (k : Nat) (hk : 4194305 ≤ k) : stowageref03_Hex.f k a = some (Sha.ofB (Sha.hexL a.data.toList)) := by
 unfold stowageref03_Hex.f
 have := hex_go a hs a.size 0 k [] (by omega) (by omega) (Nat.le_refl _)
 rw [show ((0 : Nat) : Int) = 0 from rfl, List.drop_zero, List.nil_append, hexN_eq] at this
 exact this
theorem rnumber (n : Int) (h0 : 0 ≤ n) (h1 : n ≤ 9223372036854775807) (k : Nat) (hk : 10 ≤ k) : stowageref16_number.f k n = some (num n) := by
 unfold stowageref16_number.f
 rw [IntWalk.u64_in n (by omega), ref_Number n h0 (by omega) k hk, Option.bind_some]
theorem rtold_pcs (ps : List Piece) (hl : ps.length ≤ 512) (hy : ∀ y ∈ ps, y.f0.size ≤ 64 ∧ 1 ≤ y.f1 ∧ y.f1 ≤ 4096) : ∀ n i k x, i + n = ps.length → n + 20 ≤ k → x.size ≤ 1000000 + 84 * i → stowageref13_Told.l0 k (ps.map refC) x (i : Int) = some (x ++ tpB (ps.drop i)) := by
 have hm : (ps.map refC).length = ps.length := List.length_map _
 intro n
 induction n with
 | zero =>
  intro i k x hi hk hx
  obtain ⟨k, rfl⟩ : ∃ j, k = j + 1 := ⟨k - 1, by omega⟩
  rw [stowageref13_Told.l0, hm, if_neg (by omega), List.drop_of_length_le (by omega), tpB, nil_app]
 | succ n ih =>
  intro i k x hi hk hx
  obtain ⟨k, rfl⟩ : ∃ j, k = j + 1 := ⟨k - 1, by omega⟩
  have hy' := hy _ (memC ps i (by omega))
  have e1 := txt_size (rdC ps i).f0
  have e2 := num_size (rdC ps i).f1
  have t0 : stowageref01_Text.f k (refC (rdC ps i)).f0 = some (txt (rdC ps i).f0) := ref_Text (rdC ps i).f0 (by omega) k (by omega)
  have t1 : stowageref01_Number.f k (IntKind.u64.wrap (refC (rdC ps i)).f1) = some (num (rdC ps i).f1) := by
   rw [show (refC (rdC ps i)).f1 = (rdC ps i).f1 from rfl, IntWalk.u64_in _ (by omega)]
   exact ref_Number _ (by omega) (by omega) k (by omega)
  rw [stowageref13_Told.l0, hm, if_pos (by omega), if_pos (by omega), rd13 ps i (by omega), t0, Option.bind_some, if_pos (by omega), t1, Option.bind_some, if_pos (by rw [ByteArray.size_append]; omega), w1 i (by omega),
   ih (i + 1) k _ (by omega) (by omega) (by rw [ByteArray.size_append, ByteArray.size_append]; omega), dropC ps i (by omega), tpB, ba_assoc, ba_assoc, ba_assoc]
theorem rtold_pieces (ps : List Piece) (hl : ps.length ≤ 512) (hy : ∀ y ∈ ps, y.f0.size ≤ 64 ∧ 1 ≤ y.f1 ∧ y.f1 ≤ 4096) (k : Nat) (hk : 600 ≤ k) : stowageref13_Told.f k (ps.map refC) = some (num (ps.length : Int) ++ tpB ps) := by
 have hm : (ps.map refC).length = ps.length := List.length_map _
 have e := num_size (ps.length : Int)
 unfold stowageref13_Told.f
 rw [hm, IntWalk.u64_in _ (by omega), ref_Number _ (by omega) (by omega) k (by omega), Option.bind_some]
 have := rtold_pcs ps hl hy ps.length 0 k (num (ps.length : Int)) (by omega) (by omega) (by omega)
 rw [List.drop_zero] at this
 exact this
theorem nb_dec {a0 bit : Int} {p : Prop} [Decidable p] (h : ba (fb a0) bit = 0 ↔ ¬ p) : nb (fb a0) bit = decide p := by
 by_cases hp : p
 ·
  rw [decide_eq_true hp]
  exact bne_iff_ne.mpr (fun g => h.1 g hp)
 ·
  rw [decide_eq_false hp]
  exact bne_eq_false_iff_eq.mpr (h.2 hp)
section
variable (a0 : Int) (a1 a2 a3 : ByteArray) (a4 a5 : Int) (a6 : ByteArray) (ps : List Piece) (l : List Pick)
theorem rt_l0 (hl : l.length ≤ 100) (hy : ∀ y ∈ l, y.f1.size ≤ 64 ∧ 0 ≤ y.f0 ∧ y.f0 ≤ 100) : ∀ n i k x, i + n = l.length → n + 20 ≤ k → x.size ≤ 1000000 + 84 * i → stowageref16_Told.l0 k x (i : Int) a0 a1 a2 a3 a4 a5 a6 (ps.map refC) (l.map refK) = some (x ++ tkB (l.drop i)) := by
 have hm : (l.map refK).length = l.length := List.length_map _
 intro n
 induction n with
 | zero =>
  intro i k x hi hk hx
  obtain ⟨k, rfl⟩ : ∃ j, k = j + 1 := ⟨k - 1, by omega⟩
  rw [stowageref16_Told.l0, hm, if_neg (by omega), List.drop_of_length_le (by omega), tkB, nil_app]
 | succ n ih =>
  intro i k x hi hk hx
  obtain ⟨k, rfl⟩ : ∃ j, k = j + 1 := ⟨k - 1, by omega⟩
  have hy' := hy _ (memK l i (by omega))
  have e1 := txt_size (rdK l i).f1
  have e2 := num_size (rdK l i).f0
  have t0 : stowageref01_Text.f k (refK (rdK l i)).f1 = some (txt (rdK l i).f1) := ref_Text (rdK l i).f1 (by omega) k (by omega)
  have t1 : stowageref16_number.f k (refK (rdK l i)).f0 = some (num (rdK l i).f0) := rnumber (rdK l i).f0 (by omega) (by omega) k (by omega)
  rw [stowageref16_Told.l0, hm, if_pos (by omega), if_pos (by omega), rdK' l i (by omega), t1, Option.bind_some, if_pos (by omega), t0, Option.bind_some, if_pos (by rw [ByteArray.size_append]; omega), w1 i (by omega),
   ih (i + 1) k _ (by omega) (by omega) (by rw [ByteArray.size_append, ByteArray.size_append]; omega), dropK l i (by omega), tkB, ba_assoc, ba_assoc, ba_assoc]
variable (hb : Bd a0 a1 a2 a3 a4 a5 a6 ps l)
include hb
theorem rt_j4 (k : Nat) (hk : 1000 ≤ k) (x : ByteArray) (hx : x.size ≤ 100000) (b8 : Bool) (h8 : b8 = decide (a0 = 8)) : stowageref16_Told.j4 k x a0 a1 a2 a3 a4 a5 a6 (ps.map refC) (l.map refK) = some (x ++ on b8 (l.length : Int) ++ tkB l) := by
 obtain ⟨k, rfl⟩ : ∃ j, k = j + 1 + 1 := ⟨k - 2, by omega⟩
 have hm : (l.map refK).length = l.length := List.length_map _
 have hl := hb.hl
 have e := num_size (l.length : Int)
 have L := fun (y : ByteArray) (hy : y.size ≤ 1000000) => rt_l0 a0 a1 a2 a3 a4 a5 a6 ps l hl hb.bl l.length 0 k y (by omega) (by omega) (by omega)
 rw [stowageref16_Told.j4, hm]
 by_cases h : a0 = 8
 ·
  rw [if_pos h, rnumber _ (by omega) (by omega) (k + 1) (by omega), Option.bind_some, if_pos (by omega), stowageref16_Told.j5, h8, decide_eq_true h]
  have := L (x ++ num (l.length : Int)) (by rw [ByteArray.size_append]; omega)
  rw [List.drop_zero] at this
  exact this
 ·
  rw [if_neg h, stowageref16_Told.j5, h8, decide_eq_false h]
  have := L x (by omega)
  rw [List.drop_zero] at this
  show _ = some (x ++ (⟨#[]⟩ : ByteArray) ++ tkB l)
  rw [nil_app]
  exact this
theorem rt_j3 (k : Nat) (hk : 1001 ≤ k) (x : ByteArray) (hx : x.size ≤ 10000) (hz : ¬ (a0 = 3 ∨ a0 = 7) → ps.length = 0) : stowageref16_Told.j3 k x a0 a1 a2 a3 a4 a5 a6 (ps.map refC) (l.map refK) = some (x ++ ot (decide (a0 = 3 ∨ a0 = 7)) a6 ++ on (decide (a0 = 3 ∨ a0 = 7)) (ps.length : Int) ++ tpB ps ++ on (decide (a0 = 8)) (l.length : Int) ++ tkB l) := by
 obtain ⟨k, rfl⟩ : ∃ j, k = j + 1 := ⟨k - 1, by omega⟩
 have h6 := hb.b6
 have hp := hb.hp
 have e1 := txt_size a6
 have e2 := num_size (ps.length : Int)
 have e3 := tpB_size ps (fun y hy => (hb.bp y hy).1)
 rw [stowageref16_Told.j3, hasSum_eq, Option.bind_some]
 by_cases h : a0 = 3 ∨ a0 = 7
 ·
  rw [decide_eq_true h, if_pos rfl, ref_Text a6 (by omega) k (by omega), Option.bind_some, if_pos (by omega), rtold_pieces ps hp hb.bp k (by omega), Option.bind_some, if_pos (by rw [ByteArray.size_append, ByteArray.size_append]; omega),
   rt_j4 a0 a1 a2 a3 a4 a5 a6 ps l hb k (by omega) _ (by rw [ByteArray.size_append, ByteArray.size_append, ByteArray.size_append]; omega) _ rfl]
  congr 3
  exact (ba_assoc _ _ _).symm
 ·
  rw [decide_eq_false h, if_neg (by decide), rt_j4 a0 a1 a2 a3 a4 a5 a6 ps l hb k (by omega) x (by omega) _ rfl]
  obtain rfl := List.length_eq_zero_iff.1 (hz h)
  show _ = some (x ++ (⟨#[]⟩ : ByteArray) ++ (⟨#[]⟩ : ByteArray) ++ (⟨#[]⟩ : ByteArray) ++ _ ++ _)
  rw [nil_app, nil_app, nil_app]
theorem rt_j2 (k : Nat) (hk : 1002 ≤ k) (x : ByteArray) (hx : x.size ≤ 9000) (hz : ¬ (a0 = 3 ∨ a0 = 7) → ps.length = 0) : stowageref16_Told.j2 k x a0 a1 a2 a3 a4 a5 a6 (ps.map refC) (l.map refK) = some (x ++ on (decide (a0 = 7)) a5 ++ ot (decide (a0 = 3 ∨ a0 = 7)) a6 ++ on (decide (a0 = 3 ∨ a0 = 7)) (ps.length : Int) ++ tpB ps ++ on (decide (a0 = 8)) (l.length : Int) ++ tkB l) := by
 obtain ⟨k, rfl⟩ : ∃ j, k = j + 1 := ⟨k - 1, by omega⟩
 have h5 := hb.b5
 have e := num_size a5
 rw [stowageref16_Told.j2]
 by_cases h : a0 = 7
 ·
  rw [if_pos h, rnumber a5 (by omega) (by omega) k (by omega), Option.bind_some, if_pos (by omega), rt_j3 a0 a1 a2 a3 a4 a5 a6 ps l hb k (by omega) _ (by rw [ByteArray.size_append]; omega) hz, decide_eq_true h]
  rfl
 ·
  rw [if_neg h, rt_j3 a0 a1 a2 a3 a4 a5 a6 ps l hb k (by omega) _ (by omega) hz, decide_eq_false h]
  show _ = some (x ++ (⟨#[]⟩ : ByteArray) ++ _ ++ _ ++ _ ++ _ ++ _)
  rw [nil_app]
theorem rt_j1 (k : Nat) (hk : 1003 ≤ k) (x : ByteArray) (hx : x.size ≤ 8000) (hz : ¬ (a0 = 3 ∨ a0 = 7) → ps.length = 0) : stowageref16_Told.j1 k x a0 a1 a2 a3 a4 a5 a6 (ps.map refC) (l.map refK) = some (x ++ on (decide (iD a0)) a4 ++ on (decide (a0 = 7)) a5 ++ ot (decide (a0 = 3 ∨ a0 = 7)) a6 ++ on (decide (a0 = 3 ∨ a0 = 7)) (ps.length : Int) ++ tpB ps ++ on (decide (a0 = 8)) (l.length : Int) ++ tkB l) := by
 obtain ⟨k, rfl⟩ : ∃ j, k = j + 1 := ⟨k - 1, by omega⟩
 have h4 := hb.b4
 have e := num_size a4
 rw [stowageref16_Told.j1, hasID_eq, Option.bind_some]
 by_cases h : iD a0
 ·
  rw [decide_eq_true h, if_pos rfl, rnumber a4 (by omega) (by omega) k (by omega), Option.bind_some, if_pos (by omega), rt_j2 a0 a1 a2 a3 a4 a5 a6 ps l hb k (by omega) _ (by rw [ByteArray.size_append]; omega) hz]
  rfl
 ·
  rw [decide_eq_false h, if_neg (by decide), rt_j2 a0 a1 a2 a3 a4 a5 a6 ps l hb k (by omega) _ (by omega) hz]
  show _ = some (x ++ (⟨#[]⟩ : ByteArray) ++ _ ++ _ ++ _ ++ _ ++ _ ++ _)
  rw [nil_app]
theorem rt_j0 (k : Nat) (hk : 1004 ≤ k) (x : ByteArray) (hx : x.size ≤ 4000) (hz : ¬ (a0 = 3 ∨ a0 = 7) → ps.length = 0) : stowageref16_Told.j0 k x a0 a1 a2 a3 a4 a5 a6 (ps.map refC) (l.map refK) = some (x ++ ot (decide (3 ≤ a0 ∧ a0 ≤ 9)) a3 ++ on (decide (iD a0)) a4 ++ on (decide (a0 = 7)) a5 ++ ot (decide (a0 = 3 ∨ a0 = 7)) a6 ++ on (decide (a0 = 3 ∨ a0 = 7)) (ps.length : Int) ++ tpB ps ++ on (decide (a0 = 8)) (l.length : Int) ++ tkB l) := by
 obtain ⟨k, rfl⟩ : ∃ j, k = j + 1 := ⟨k - 1, by omega⟩
 have h3 := hb.b3
 have e := txt_size a3
 rw [stowageref16_Told.j0, hasKey_eq, Option.bind_some]
 by_cases h : 3 ≤ a0 ∧ a0 ≤ 9
 ·
  rw [decide_eq_true h, if_pos rfl, ref_Text a3 (by omega) k (by omega), Option.bind_some, if_pos (by omega), rt_j1 a0 a1 a2 a3 a4 a5 a6 ps l hb k (by omega) _ (by rw [ByteArray.size_append]; omega) hz]
  rfl
 ·
  rw [decide_eq_false h, if_neg (by decide), rt_j1 a0 a1 a2 a3 a4 a5 a6 ps l hb k (by omega) _ (by omega) hz]
  show _ = some (x ++ (⟨#[]⟩ : ByteArray) ++ _ ++ _ ++ _ ++ _ ++ _ ++ _ ++ _)
  rw [nil_app]
theorem rtold_eq (hz : ¬ (a0 = 3 ∨ a0 = 7) → ps.length = 0) (k : Nat) (hk : 1005 ≤ k) : stowageref16_Told.f k a0 a1 a2 a3 a4 a5 a6 (ps.map refC) (l.map refK) = some (toldB a0 a1 a2 a3 a4 a5 a6 ps l) := by
 have hk0 := hb.k0
 have h1 := hb.b1
 have h2 := hb.b2
 have e0 := num_size a0
 have e1 := txt_size a1
 have e2 := txt_size a2
 obtain ⟨f1, f2, f3, f4, f5, f6, f7, f8, f9⟩ := bits a0 hk0
 have g1 : nb (fb a0) 1 = decide (a0 < 10) := nb_dec (by rw [f1]; omega)
 have g2 : nb (fb a0) 2 = decide (a0 < 10) := nb_dec (by rw [f2]; omega)
 have g3 : nb (fb a0) 4 = decide (3 ≤ a0 ∧ a0 ≤ 9) := nb_dec f3
 have g4 : nb (fb a0) 8 = decide (iD a0) := nb_dec f4
 have g5 : nb (fb a0) 16 = decide (a0 = 7) := nb_dec f5
 have g6 : nb (fb a0) 32 = decide (a0 = 3 ∨ a0 = 7) := nb_dec f6
 have g7 : nb (fb a0) 64 = decide (a0 = 3 ∨ a0 = 7) := nb_dec f7
 have g8 : nb (fb a0) 128 = decide (a0 = 8) := nb_dec f8
 unfold stowageref16_Told.f toldB
 rw [g1, g2, g3, g4, g5, g6, g7, g8, rnumber a0 (by omega) (by omega) k (by omega), Option.bind_some]
 by_cases h : a0 < 10
 ·
  rw [if_pos h, ref_Text a1 (by omega) k (by omega), Option.bind_some, if_pos (by omega), ref_Text a2 (by omega) k (by omega), Option.bind_some, if_pos (by rw [ByteArray.size_append]; omega),
   rt_j0 a0 a1 a2 a3 a4 a5 a6 ps l hb k (by omega) _ (by rw [ByteArray.size_append, ByteArray.size_append]; omega) hz, decide_eq_true h]
  rfl
 ·
  rw [if_neg h, rt_j0 a0 a1 a2 a3 a4 a5 a6 ps l hb k (by omega) _ (by omega) hz, decide_eq_false h]
  show _ = some (num a0 ++ (⟨#[]⟩ : ByteArray) ++ (⟨#[]⟩ : ByteArray) ++ _ ++ _ ++ _ ++ _ ++ _ ++ _ ++ _ ++ _)
  rw [nil_app, nil_app]
end
theorem CK_ps {a0 : Int} {a1 a2 a3 : ByteArray} {a4 a5 : Int} {a6 : ByteArray} {ps : List Piece} {l : List Pick} (h : CK a0 a1 a2 a3 a4 a5 a6 ps l) : ¬ (a0 = 3 ∨ a0 = 7) → ps.length = 0 := fun g => (((CK_iff a0 a1 a2 a3 a4 a5 a6 ps l).1 h).2.2.2.2.2.2.1.2 g).2
theorem rdig_eq (s : ByteArray) (h : s.size ≤ 1073741824) (k : Nat) (hk : 4194305 ≤ k) : ((stowageref03_Tagged.f 67 ([s] : List ByteArray)).bind fun t => (stowageref03_Hex.f k t).bind fun u => some (u, (0 : Int))) = some (dig s, 0) := by
 have h1 := dig_tag s h
 have h2 : stowageref03_Tagged.f 67 ([s] : List ByteArray) = some (Sha.ofB (Sha.sha (Sha.tagB (BitVec.ofInt 8 67) [s]))) := h1
 rw [h2, Option.bind_some, hex_eq _ (by rw [sum_size]; decide) k hk, Option.bind_some]
 rfl
theorem CmdTexts_F (a0 : Int) (a1 a2 a3 : ByteArray) (a4 a5 : Int) (a6 : ByteArray) (ps : List Piece) (l : List Pick) (h : SmallCmd a1 a2 a3 a6 ps l) (h6 : Small6 a6 l) (k : Nat) (hk : 9223372036854775812 ≤ k) : stowagelaw16_CmdTexts.F k a0 a1 a2 a3 a4 a5 a6 ps l := by
 unfold stowagelaw16_CmdTexts.F
 have hr := Ref_eq2 a0 a1 a2 a3 a4 a5 a6 ps l h.hp h.hl k (by omega)
 have hck := rcheck_eq a0 a1 a2 a3 a4 a5 a6 ps l h h6 k hk
 by_cases hc : CK a0 a1 a2 a3 a4 a5 a6 ps l
 ·
  rw [if_pos hc] at hck
  have hz := (told_eq (CK_bd hc).bare 40 (by omega)).2
  refine ⟨_, 0, _, _, _, _, _, _, _, _, _, dig (toldB a0 ⟨#[]⟩ a2 a3 a4 a5 a6 ps l), 0, by rw [Encode_eq _ _ _ _ _ _ _ _ _ h k (by omega), if_pos hc], hr, ?_, by rw [Digest_eq _ _ _ _ _ _ _ _ _ h k (by omega), if_pos hc], ?_, awake_true k (by omega), by rw [check_eq _ _ _ _ _ _ _ _ _ h k (by omega), if_pos hc], hck⟩
  ·
   unfold stowageref16_Encode.f
   rw [hck, Option.bind_some, if_pos rfl, rtold_eq a0 a1 a2 a3 a4 a5 a6 ps l (CK_bd hc) (CK_ps hc) k (by omega), Option.bind_some]
  ·
   unfold stowageref16_Digest.f
   rw [hck, Option.bind_some, if_pos rfl, rtold_eq a0 ⟨#[]⟩ a2 a3 a4 a5 a6 ps l (CK_bd hc).bare (CK_ps hc) k (by omega), Option.bind_some]
   exact rdig_eq _ (by omega) k (by omega)
 ·
  rw [if_neg hc] at hck
  refine ⟨_, 1, _, _, _, _, _, _, _, _, _, (⟨#[]⟩ : ByteArray), 1, by rw [Encode_eq _ _ _ _ _ _ _ _ _ h k (by omega), if_neg hc], hr, ?_, by rw [Digest_eq _ _ _ _ _ _ _ _ _ h k (by omega), if_neg hc], ?_, awake_true k (by omega), by rw [check_eq _ _ _ _ _ _ _ _ _ h k (by omega), if_neg hc], hck⟩
  ·
   unfold stowageref16_Encode.f
   rw [hck, Option.bind_some, if_neg (by decide)]
  ·
   unfold stowageref16_Digest.f
   rw [hck, Option.bind_some, if_neg (by decide)]
theorem CmdTexts_true (a0 : Int) (a1 a2 a3 : ByteArray) (a4 a5 : Int) (a6 : ByteArray) (ps : List Piece) (l : List Pick) (h : SmallCmd a1 a2 a3 a6 ps l) (h6 : Small6 a6 l) : ∃ k, stowagelaw16_CmdTexts.f k a0 a1 a2 a3 a4 a5 a6 ps l = some true := by
 refine ⟨9223372036854775812, ?_⟩
 unfold stowagelaw16_CmdTexts.f
 rw [if_pos (CmdTexts_F a0 a1 a2 a3 a4 a5 a6 ps l h h6 _ (Nat.le_refl _))]
end Go.Proofs.YtdidopoalmkhlaaDoor.Pure
end
section
namespace Go.Proofs.YtdidopoalmkhlaaDoor.KO
open Go Go.RowKit Go.Proofs.YtdidopoalmkhlaaDoorW.PrintWords Go.Proofs.YtdidopoalmkhlaaDoor.Ot 
theorem small6 (y : Cmd) {B : Nat} (h : (1 + ((y.f1.size + 1) + ((y.f2.size + 1) + ((y.f3.size + 1) + (1 + (1 + ((y.f6.size + 1) + (((y.f7.map fun z => ((z.f0.size + 1) + 1) + 1).sum + 1) + ((y.f8.map fun z => (1 + (z.f1.size + 1)) + 1).sum + 1))))))))) + 1 ≤ B) (hB : B ≤ 1048576) : Pure.Small6 y.f6 y.f8 := by
 obtain ⟨h3, h4⟩ := sum_ge (fun z : Pure.Pick => (1 + (z.f1.size + 1)) + 1) (fun z => by omega) y.f8
 generalize (y.f7.map fun z : Pure.Piece => ((z.f0.size + 1) + 1) + 1).sum = X at h
 generalize (y.f8.map fun z : Pure.Pick => (1 + (z.f1.size + 1)) + 1).sum = Y at h h3 h4
 exact ⟨by omega, fun z hz => by have := h4 z hz; omega⟩
end Go.Proofs.YtdidopoalmkhlaaDoor.KO
end
section
/- CmdTexts, second form: which commands may be, their texts and digests. Its conditions: those of the given card. -/
namespace Go.Proofs.YtdidopoalmkhlaaDoor.cmdTexts
open Go.ChangeShapes Go.WideShapes Go.ChangeAt Go.RowKit Go.Proofs.YtdidopoalmkhlaaDoor.Ot Go.Proofs.YtdidopoalmkhlaaDoorW.PrintWords
open Go.ChangeMaps (open_string shut_string)
set_option linter.unusedVariables false
set_option linter.unusedSimpArgs false
theorem own : ownKnob Tryd.prog.godebug = none := by kernel_rfl
theorem laidOut : laidOutB Tryd.prog = true := by kernel_rfl
set_option maxRecDepth 100000 in
/-- What the walk gives, for every argument and every world: the same for both forms. -/
theorem contract (H : Type) (enc : TypeId × Value → H) (W : World) (base : Nat) (args : Array Value) (ds gs : List (DataW H)) (before : List MemPlace)
  (hval : ∀ (j : Nat) t v, Tryd.f3.params[j]? = some t → args[j]? = some v → Value.okWide Tryd.prog W .any base t v)
  (hW : DataW.Whole enc Tryd.prog Tryd.f3.params.toList Rows.cmdTextsSpec.vars false W args.toList ds gs before)
  (hsz : (DataW.weightsEach Tryd.prog (Tryd.f3.params.toList ++ (OpenSpec.ofChange Rows.cmdTextsSpec).bare.plain.varTypes Tryd.prog) (ds ++ gs)).all (· ≤ reachBytes) = true) (hcond : ∀ k, (Rows.OpenSpec.upto Rows.cmdTextsSpec).cond = some k → k H (ds ++ gs) = true) (hG : GG W) :
  Calls Tryd.prog 3 args W fun e W' => ∃ v, e = .returned v ∧ Rows.cmdTextsSpec.post enc Tryd.prog Tryd.f3 false true false false W args v W' := by
 have hW' := hW
 obtain ⟨p, q, hA0, hV, rfl, hfz, hnd⟩ := hW
 have hA : DataW.TrodAll enc Tryd.prog W 0 (fun _ => true) true Tryd.f3.params.toList args.toList ds p := hA0
 rw [Tryd.params3] at hA hval hsz
 obtain ⟨v0, vs0, d0, ds0, p0, q0, hargs, rfl, rfl, h0, r0⟩ := trodAll_cons hA
 obtain ⟨rfl, rfl, rfl⟩ := trodAll_nil r0
 obtain rfl : args = #[v0] := by cases args; simp_all
 obtain ⟨rfl, rfl⟩ := trodVars_none hV
 have k0 := h0
 have lt0 : ∀ x ∈ p0, x.block < W.heap.size := by obtain ⟨m, hm⟩ := k0; exact DataW.trod_lt m _ _ _ hm
 obtain ⟨fuel0, hf0⟩ := h0
 obtain ⟨x0, hK0, wt0, bk0⟩ := (KO.opensCmd).out enc W _ _ _ fuel0 _ _ hf0
 have hc0 := KO.kCmd_open hK0
 obtain ⟨A0_7, c0_7, A0_8, c0_8, hc0, hcap0_7, hr0_7, hcap0_8, hr0_8⟩ := hc0
 obtain rfl : v0 = .agg #[.int .i64 x0.f0, .string x0.f1, .string x0.f2, .string x0.f3, .int .i64 x0.f4, .int .i64 x0.f5, .string x0.f6, .slice A0_7 x0.f7.length c0_7, .slice A0_8 x0.f8.length c0_8] := by cases v0 <;> simp [Value.cells] at hc0 ⊢ <;> first | exact Array.ext' hc0 | (rename_i xs; exact Array.ext' hc0) | (cases hc0)
 have hup := hcond _ rfl
 simp only [Rows.uptoSmall, decide_eq_true_eq, List.cons_append, List.nil_append, Rows.uptoBulkAll, Rows.uptoBulk] at hup
 have hb0 : (1 + ((x0.f1.size + 1) + ((x0.f2.size + 1) + ((x0.f3.size + 1) + (1 + (1 + ((x0.f6.size + 1) + (((x0.f7.map fun z => ((z.f0.size + 1) + 1) + 1).sum + 1) + ((x0.f8.map fun z => (1 + (z.f1.size + 1)) + 1).sum + 1))))))))) + 1 ≤ Rows.uptoBulk d0 := bk0
 have hs0 := KO.small_cmd x0 hb0 (by omega)
 have h60 := KO.small6 x0 hb0 (by omega)
 obtain ⟨k, hk⟩ := Pure.CmdTexts_true x0.f0 x0.f1 x0.f2 x0.f3 x0.f4 x0.f5 x0.f6 x0.f7 x0.f8 hs0 h60
 refine (stowagelaw16_CmdTexts.calls k x0.f0 x0.f1 x0.f2 x0.f3 x0.f4 x0.f5 x0.f6 _ _ x0.f7 _ _ x0.f8 true W hr0_7 hcap0_7 hr0_8 hcap0_8 hk hG).mono fun e W' ⟨he, bel⟩ => ?_
 subst he
 exact ⟨_, rfl, _, _, _, [], _, [], hW', trodAll_mk1 (shut_bool Tryd.underlying4 _), (trodAll_cons_mk (Below.trod laidOut (by kernel_rfl) (of_decide_eq_true (by kernel_rfl)) k0 bel lt0) trodAll_mk0), rfl, bel.frame _, fun h => by cases h⟩
/-- The cells of a datum without pointers. -/
def flat : DataW Unit → List Value
 | .lit (.int k n) => [.int k n]
 | .agg xs => flats xs
 | _ => []
where flats : List (DataW Unit) → List Value
 | [] => []
 | x :: xs => flat x ++ flats xs
def put (cs : List Value) : Obj → Obj
 | .cells _ t z => .cells cs.toArray t z
 | ob => ob
/-- A world for the witness: the listed tables hold what their text lays. -/
noncomputable def laidWorld (os : Os) : World :=
 { World.holding Tryd.prog os ⟨#[], #[], []⟩ with heap := Rows.cmdTextsUptoRow.laid.foldl (fun h x => match Tryd.prog.globalNamed x.1 with | some g => h.modify g (put (flat x.2)) | none => h) (World.holding Tryd.prog os ⟨#[], #[], []⟩).heap }
theorem laid_met (os : Os) : laidMet Tryd.prog Rows.cmdTextsUptoRow.laid ((laidWorld os).forCall (fun _ _ => 0) ⟨#[], #[.agg #[.int .i64 0, .string ByteArray.empty, .string ByteArray.empty, .string ByteArray.empty, .int .i64 0, .int .i64 0, .string ByteArray.empty, .slice none 0 0, .slice none 0 0]], []⟩).memory :=
 laidMet_of_run3 8 (by kernel_rfl) (by kernel_rfl) (by kernel_rfl)
theorem reads (os : Os) {H : Type} (enc : TypeId × Value → H) : ∃ places, DataW.whole enc Tryd.prog ((laidWorld os).forCall (fun _ _ => 0) ⟨#[], #[.agg #[.int .i64 0, .string ByteArray.empty, .string ByteArray.empty, .string ByteArray.empty, .int .i64 0, .int .i64 0, .string ByteArray.empty, .slice none 0 0, .slice none 0 0]], []⟩).memory Tryd.f3.params.toList Rows.cmdTextsSpec.vars false (#[.agg #[.int .i64 0, .string ByteArray.empty, .string ByteArray.empty, .string ByteArray.empty, .int .i64 0, .int .i64 0, .string ByteArray.empty, .slice none 0 0, .slice none 0 0]] : Array Value).toList 8 = some ([.agg [.lit (.int .i64 0), .lit (.string []), .lit (.string []), .lit (.string []), .lit (.int .i64 0), .lit (.int .i64 0), .lit (.string []), .nil, .nil]], [], places) :=
 ⟨[], by kernel_rfl⟩
set_option maxRecDepth 100000 in
theorem lifted (os : Os) (started : os.Started) (H : Type) (enc : TypeId × Value → H) (F : Stop.Interp) :
  ReturnsInHanded {} Tryd.checked os 3 .any ((Rows.OpenSpec.upto Rows.cmdTextsSpec).preRow enc Tryd.prog Tryd.f3 Rows.cmdTextsUptoRow.domain false Rows.cmdTextsUptoRow.laid) (((Rows.OpenSpec.upto Rows.cmdTextsSpec).at F).post enc Tryd.prog Tryd.f3 false true false false) := by
 obtain ⟨places, hx⟩ := reads os enc
 refine returnsInHanded_of_row (C := Tryd.checked) (s := (Rows.OpenSpec.upto Rows.cmdTextsSpec)) own started (by kernel_rfl) Tryd.func3
  (witness_row_at (enc := enc) (C := Tryd.checked) false (laidWorld os) #[.agg #[.int .i64 0, .string ByteArray.empty, .string ByteArray.empty, .string ByteArray.empty, .int .i64 0, .int .i64 0, .string ByteArray.empty, .slice none 0 0, .slice none 0 0]] rfl (by kernel_rfl) (by kernel_rfl) (by kernel_rfl)
   (OpenSpec.preRow_of_cond 8 hx (by kernel_rfl) (fun k hk => by cases hk; kernel_rfl) (by kernel_rfl) (laid_met os))) ?_
 intro W base args ds gs before hval hW _ hcond hsz hlaid hsh _
 exact contract H enc W base args ds gs before hval hW hsz hcond ⟨KO.table_of_laid hlaid, (Go.Proofs.cell_of_shapedOpen_int (zero := #[.int .i64 0]) (t := 3) hsh (of_decide_eq_true (by kernel_rfl)) (by kernel_rfl) rfl (by kernel_rfl) (by kernel_rfl) Tryd.underlying3)⟩
theorem said : Rows.CmdTextsUptoSaid :=
 OpenClaim.holds_of_cond 3 Tryd.f3 rfl rfl rfl rfl rfl rfl rfl ⟨rfl, rfl, rfl, rfl, rfl⟩ rfl rfl rfl rfl rfl (by kernel_rfl) Tryd.func3 (by kernel_rfl)
  (of_decide_eq_true (by kernel_rfl)) (by unfold Func.isWrapper; first | (rw [if_pos (by decide +kernel)]; kernel_rfl) | (rw [if_neg (by decide +kernel)]; exact ⟨rfl, rfl⟩))
  (fun os started H enc _ F => by rw [OpenClaim.pre_eq_preRow]; exact lifted os started H enc F)
/-- No parameter wants a stand-in; the program's own looks are off: what the card asks. -/
theorem plain (f : FuncId) (fn : Func) (hf : Tryd.pinned.checked.prog.funcNamed "stowage/stowagelaw16.CmdTexts" = some f) (hfn : Tryd.pinned.checked.prog.funcs[f]? = some fn) :
  false = Tryd.pinned.checked.prog.looks [] ∧ ∀ (j : Nat) t, fn.params[j]? = some t → Tryd.pinned.checked.prog.wantsStandIn t = false := by
 obtain rfl : f = 3 := Option.some.inj ((show Tryd.prog.funcNamed "stowage/stowagelaw16.CmdTexts" = some 3 by kernel_rfl).symm.trans hf) |>.symm
 obtain rfl : fn = Tryd.f3 := (Option.some.inj (Tryd.func3.symm.trans hfn)).symm
 refine ⟨by kernel_rfl, fun j t ht => ?_⟩
 rw [Tryd.params3] at ht
 have hm := Array.mem_of_getElem? ht
 simp only [List.mem_toArray, List.mem_cons, List.not_mem_nil, or_false] at hm
 rcases hm with rfl
 ·
  exact (show Tryd.prog.wantsStandIn 25 = false by kernel_rfl)
/-- The card. -/
theorem card : Rows.CmdTextsUptoCardSaid :=
 Claim7.holds_tied_plain_at .later [] _ _ _ _ said (fun _ h => by cases h) (by kernel_rfl) (fun _ h => by cases h) cmdTextsUpto_row_tie rfl ⟨rfl, rfl⟩ (by kernel_rfl) rfl plain (by kernel_rfl)
end Go.Proofs.YtdidopoalmkhlaaDoor.cmdTexts
namespace Go.Proofs.YtdidopoalmkhlaaDoor
theorem cmdTexts_cardUpto : Rows.CmdTextsUptoCardSaid := cmdTexts.card
end Go.Proofs.YtdidopoalmkhlaaDoor
end
