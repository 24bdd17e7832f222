/- Merged of several texts of this session's by merge.py. -/
import Derived.Test.YtdidopoalmkhlaaDoorMb7
import Derived.KernelRfl
import Derived.ProofKit
import Derived.OpenShut
import Derived.Test.YtdidopoalmkhlaaDoorMb3
import Derived.Test.YtdidopoalmkhlaaDoorCards
import Derived.Test.YtdidopoalmkhlaaDoorTie
import Derived.WalkKit
import Derived.Below
import Derived.Carry
import Derived.Deep.DeepHandedRow
import Derived.Deep.DeepLaidRun
import Derived.Test.YtdidopoalmkhlaaDoorMb2
import Derived.HandedShaped
section
namespace Go.Proofs.YtdidopoalmkhlaaDoor.Pure
open Go.RowKit Go.Proofs.YtdidopoalmkhlaaDoor.Ob Go.Proofs.YtdidopoalmkhlaaDoorW.PrintWords Go.Proofs.YtdidopoalmkhlaaDoorW.PrintLast Go.Proofs.YtdidopoalmkhlaaDoorW.PrintMore
set_option linter.unusedVariables false
set_option linter.unusedSimpArgs false
abbrev rdC (l : List Piece) (i : Nat) : Piece := rd_T82 l (i : Int)
abbrev rdK (l : List Pick) (i : Nat) : Pick := rd_T62 l (i : Int)
theorem dropC (l : List Piece) (i : Nat) (h : i < l.length) : l.drop i = rdC l i :: l.drop (i + 1) := by
 rw [List.drop_eq_getElem_cons h]
 congr 1
 show l[i] = l.getD (i : Int).toNat _
 rw [Int.toNat_natCast, List.getD_eq_getElem?_getD, List.getElem?_eq_getElem h]
 rfl
theorem dropK (l : List Pick) (i : Nat) (h : i < l.length) : l.drop i = rdK l i :: l.drop (i + 1) := by
 rw [List.drop_eq_getElem_cons h]
 congr 1
 show l[i] = l.getD (i : Int).toNat _
 rw [Int.toNat_natCast, List.getD_eq_getElem?_getD, List.getElem?_eq_getElem h]
 rfl
theorem memC (l : List Piece) (i : Nat) (h : i < l.length) : rdC l i ∈ l := by
 have : rdC l i ∈ l.drop i := by rw [dropC l i h]; exact List.mem_cons_self
 exact List.mem_of_mem_drop this
theorem memK (l : List Pick) (i : Nat) (h : i < l.length) : rdK l i ∈ l := by
 have : rdK l i ∈ l.drop i := by rw [dropK l i h]; exact List.mem_cons_self
 exact List.mem_of_mem_drop this
def D (a : ByteArray) : Bool := a.data.toList.all Sha.hb && decide (a.size = 64)
theorem digits_go (a : ByteArray) (hs : a.size ≤ 1048576) : ∀ n i k, i + n = a.size → n < k → chain_digits.l0 k a (a.size : Int) (i : Int) = some ((a.data.toList.drop i).all Sha.hb && decide (a.size = 64)) := by
 intro n
 induction n with
 | zero =>
  intro i k hi hk
  obtain ⟨k, rfl⟩ : ∃ j, k = j + 1 := ⟨k - 1, by omega⟩
  rw [chain_digits.l0, if_neg (by omega), List.drop_of_length_le (by rw [len_eq]; omega)]
  simp only [List.all_nil, Bool.true_and]
  congr 1
  by_cases h : a.size = 64
  ·
   simp [h]
  ·
   rw [decide_eq_false h]
   simpa using (show ¬ (a.size : Int) = 64 by omega)
 | succ n ih =>
  intro i k hi hk
  obtain ⟨k, rfl⟩ : ∃ j, k = j + 1 := ⟨k - 1, by omega⟩
  obtain ⟨c, hd, hb⟩ := bt_get a i (by omega)
  rw [chain_digits.l0, if_pos (by omega), if_pos (by omega), if_pos (by omega), hb, hd, List.all_cons, w1 i (by omega), ih (i + 1) k (by omega) (by omega)]
  by_cases h1 : (c.toNat : Int) < 48
  ·
   rw [if_pos h1, if_pos (by omega)]
   have : Sha.hb c = false := by simp [Sha.hb]; omega
   rw [this, Bool.false_and, Bool.false_and]
  ·
   rw [if_neg h1]
   by_cases h2 : (c.toNat : Int) > 57
   ·
    rw [if_pos h2]
    by_cases h3 : (c.toNat : Int) < 97
    ·
     rw [if_pos h3]
     have : Sha.hb c = false := by simp [Sha.hb]; omega
     rw [this, Bool.false_and, Bool.false_and]
    ·
     rw [if_neg h3]
     by_cases h4 : (c.toNat : Int) > 102
     ·
      rw [if_pos h4]
      have : Sha.hb c = false := by simp [Sha.hb]; omega
      rw [this, Bool.false_and, Bool.false_and]
     ·
      rw [if_neg h4]
      have : Sha.hb c = true := by simp [Sha.hb]; omega
      rw [this, Bool.true_and]
   ·
    rw [if_neg h2]
    have : Sha.hb c = true := by simp [Sha.hb]; omega
    rw [this, Bool.true_and]
theorem digits_eq (a : ByteArray) (hs : a.size ≤ 1048576) (k : Nat) (hk : 1048577 ≤ k) : chain_digits.f k a = some (D a) := digits_go a hs a.size 0 k (by omega) (by omega)
def pcs : List Piece → Int → Int × Int
 | [], s => (s, 0)
 | y :: r, s => if D y.f0 = true ∧ 1 ≤ y.f1 ∧ y.f1 ≤ 4096 then pcs r (s + y.f1) else (0, 1)
def Pc (l : List Piece) : Int × Int := if 512 < l.length then (0, 1) else pcs l 0
theorem pieces_go (l : List Piece) (hl : l.length ≤ 512) (hs : ∀ y ∈ l, y.f0.size ≤ 1048576) : ∀ n i k (s : Int), i + n = l.length → n + 1048577 < k → 0 ≤ s → s ≤ 4096 * i → chain_Pieces.l0 k s l (l.length : Int) (i : Int) = some (pcs (l.drop i) s) := by
 intro n
 induction n with
 | zero =>
  intro i k s hi hk h0 h1
  obtain ⟨k, rfl⟩ : ∃ j, k = j + 1 := ⟨k - 1, by omega⟩
  rw [chain_Pieces.l0, if_neg (by omega), List.drop_of_length_le (by omega)]
  rfl
 | succ n ih =>
  intro i k s hi hk h0 h1
  obtain ⟨k, rfl⟩ : ∃ j, k = j + 1 := ⟨k - 1, by omega⟩
  rw [chain_Pieces.l0, if_pos (by omega), if_pos (by omega), if_pos (by omega), digits_eq _ (hs _ (memC l i (by omega))) k (by omega), Option.bind_some, dropC l i (by omega), pcs, w1 i (by omega)]
  show (if D (rdC l i).f0 = true then (if (rdC l i).f1 < 1 then some (0, 1) else (if (rdC l i).f1 > 4096 then some (0, 1) else chain_Pieces.l0 k (wrap64 (s + (rdC l i).f1)) l (l.length : Int) ((i + 1 : Nat) : Int))) else some (0, 1)) = _
  by_cases hd : D (rdC l i).f0 = true
  ·
   rw [if_pos hd]
   by_cases h2 : (rdC l i).f1 < 1
   ·
    rw [if_pos h2, if_neg (by omega)]
   ·
    rw [if_neg h2]
    by_cases h3 : (rdC l i).f1 > 4096
    ·
     rw [if_pos h3, if_neg (by omega)]
    ·
     rw [if_neg h3, if_pos ⟨hd, by omega, by omega⟩, IntWalk.wrap64_in _ (by omega), ih (i + 1) k _ (by omega) (by omega) (by omega) (by omega)]
  ·
   rw [if_neg hd, if_neg (by intro h; exact hd h.1)]
theorem pieces_eq (l : List Piece) (hs : ∀ y ∈ l, y.f0.size ≤ 1048576) (k : Nat) (hk : 1049100 ≤ k) : chain_Pieces.f k l = some (Pc l) := by
 unfold chain_Pieces.f Pc
 by_cases h : 512 < l.length
 ·
  rw [if_pos (by omega), if_pos h]
 ·
  rw [if_neg (by omega), if_neg h]
  exact pieces_go l (by omega) hs l.length 0 k 0 (by omega) (by omega) (by omega) (by omega)
theorem unhex_some : ∀ l : List UInt8, l.length % 2 = 0 → (Sha.unhexL l).isSome = l.all Sha.hb
 | [], _ => rfl
 | [_], h => by simp at h
 | a :: b :: r, h => by
  have ih := unhex_some r (by simp at h; omega)
  rw [Sha.unhexL, List.all_cons, List.all_cons]
  cases h1 : Sha.hb a
  ·
   simp
  ·
   cases h2 : Sha.hb b
   ·
    simp
   ·
    simp [ih]
theorem unhex_len : ∀ (l : List UInt8) (r : List (BitVec 8)), Sha.unhexL l = some r → l.length = 2 * r.length
 | [], r, h => by
  rw [Sha.unhexL] at h
  cases h
  rfl
 | [_], r, h => by rw [Sha.unhexL] at h; cases h
 | a :: b :: l, r, h => by
  rw [Sha.unhexL] at h
  split at h
  ·
   cases hq : Sha.unhexL l with
   | none => rw [hq] at h; cases h
   | some q =>
    rw [hq] at h
    cases h
    have := unhex_len l q hq
    simp only [List.length_cons]
    omega
  ·
   cases h
theorem cd_eq (a : ByteArray) (hs : a.size ≤ 1073741824) : cmd_digits.f a = some (D a) := by
 unfold cmd_digits.f
 have hU : digest_Unhex.f a = some (Sha.unhexR (Sha.unhexL a.data.toList)) := by
  show Sha.unhexF a = _
  unfold Sha.unhexF
  rw [if_pos (by omega)]
 rw [hU, Option.bind_some]
 unfold D
 cases h : Sha.unhexL a.data.toList with
 | none =>
  show (if (3 : Int) = 0 then _ else some false) = _
  rw [if_neg (by decide)]
  by_cases h6 : a.size = 64
  ·
   have hi := unhex_some a.data.toList (by rw [len_eq, h6])
   rw [h] at hi
   rw [← hi]
   rfl
  ·
   rw [decide_eq_false h6, Bool.and_false]
 | some r =>
  show (if (0 : Int) = 0 then some ((((Sha.ofB r).size : Nat) : Int) == 32) else _) = _
  have hl := unhex_len _ _ h
  rw [len_eq] at hl
  rw [if_pos rfl, Sha.ofB_size]
  by_cases h6 : a.size = 64
  ·
   have hi := unhex_some a.data.toList (by rw [len_eq, h6])
   rw [h] at hi
   rw [← hi, decide_eq_true h6, show r.length = 32 by omega]
   rfl
  ·
   rw [decide_eq_false h6, Bool.and_false]
   congr 1
   exact beq_eq_false_iff_ne.2 (by omega)
def fb (n : Int) : Int := if n = 1 ∨ n = 2 then 3 else if n = 3 then 103 else if n = 4 ∨ n = 6 then 7 else if n = 5 ∨ n = 9 then 15 else if n = 7 then 127 else if n = 8 then 143 else if n = 10 then 8 else 0
theorem fields_eq (n : Int) (k : Nat) (hk : 10 ≤ k) : cmd_fields.f k n = some (fb n) := by
 have go : ∀ m, cmd_fields.f 10 m = some (fb m) → n = m → cmd_fields.f k n = some (fb n) := by
  intro m h1 h3
  subst h3
  exact up_to (f := fun k => cmd_fields.f k n) (fun k => cmd_fields.mono _ k) h1 hk
 by_cases h1 : n = 1
 ·
  exact go 1 (by kernel_rfl) h1
 by_cases h2 : n = 2
 ·
  exact go 2 (by kernel_rfl) h2
 by_cases h3 : n = 3
 ·
  exact go 3 (by kernel_rfl) h3
 by_cases h4 : n = 4
 ·
  exact go 4 (by kernel_rfl) h4
 by_cases h5 : n = 5
 ·
  exact go 5 (by kernel_rfl) h5
 by_cases h6 : n = 6
 ·
  exact go 6 (by kernel_rfl) h6
 by_cases h7 : n = 7
 ·
  exact go 7 (by kernel_rfl) h7
 by_cases h8 : n = 8
 ·
  exact go 8 (by kernel_rfl) h8
 by_cases h9 : n = 9
 ·
  exact go 9 (by kernel_rfl) h9
 by_cases h10 : n = 10
 ·
  exact go 10 (by kernel_rfl) h10
 obtain ⟨k, rfl⟩ : ∃ j, k = j + 1 + 1 + 1 := ⟨k - 3, by omega⟩
 have e : ∀ m : Int, n ≠ m → (n == m) = false := fun m h => beq_eq_false_iff_ne.2 h
 unfold cmd_fields.f fb
 rw [if_neg h1, e 2 h2, cmd_fields.j0, if_neg (by decide), if_neg h3, if_neg h4, e 6 h6, cmd_fields.j1, if_neg (by decide), if_neg h5, e 9 h9, cmd_fields.j2, if_neg (by decide), if_neg h7, if_neg h8, if_neg h10]
 rw [if_neg (by omega), if_neg h3, if_neg (by omega), if_neg (by omega), if_neg h7, if_neg h8, if_neg h10]
theorem fb_kind (n : Int) (h : fb n ≠ 0) : n = 1 ∨ n = 2 ∨ n = 3 ∨ n = 4 ∨ n = 5 ∨ n = 6 ∨ n = 7 ∨ n = 8 ∨ n = 9 ∨ n = 10 := by
 unfold fb at h
 omega
abbrev ba (f bit : Int) : Int := Go.bits .and .i64 f bit
def pk (p : Pick) : Bool := decide (0 ≤ p.f0 ∧ p.f0 ≤ 100) && D p.f1
theorem ck_l0 (l : List Pick) (hl : l.length ≤ 1073741824) (hs : ∀ y ∈ l, y.f1.size ≤ 1073741824) : ∀ n i k (b : Bool), i + n = l.length → n < k → cmd_Check.l0 k b l (l.length : Int) (i : Int) = some (if b = false ∧ (l.drop i).all pk = true then 0 else 1) := by
 intro n
 induction n with
 | zero =>
  intro i k b hi hk
  obtain ⟨k, rfl⟩ : ∃ j, k = j + 1 := ⟨k - 1, by omega⟩
  rw [cmd_Check.l0, if_neg (by omega), List.drop_of_length_le (by omega)]
  cases b <;> rfl
 | succ n ih =>
  intro i k b hi hk
  obtain ⟨k, rfl⟩ : ∃ j, k = j + 1 := ⟨k - 1, by omega⟩
  have IH := fun b => ih (i + 1) k b (by omega) (by omega)
  rw [cmd_Check.l0, if_pos (by omega), if_pos (by omega), if_pos (by omega), w1 i (by omega), dropK l i (by omega), List.all_cons]
  show (if b = true then _ else if (rdK l i).f0 < 0 then _ else if (rdK l i).f0 > 100 then _ else (cmd_digits.f (rdK l i).f1).bind _) = _
  rw [cd_eq _ (hs _ (memK l i (by omega))), Option.bind_some, IH, IH]
  have hpk : pk (rdK l i) = (decide (0 ≤ (rdK l i).f0 ∧ (rdK l i).f0 ≤ 100) && D (rdK l i).f1) := rfl
  rw [hpk]
  cases b with
  | true => simp
  | false =>
   rw [if_neg (by decide)]
   by_cases h1 : (rdK l i).f0 < 0
   ·
    rw [if_pos h1, decide_eq_false (by omega)]; simp
   ·
    rw [if_neg h1]
    by_cases h2 : (rdK l i).f0 > 100
    ·
     rw [if_pos h2, decide_eq_false (by omega)]; simp
    ·
     rw [if_neg h2, decide_eq_true (by omega)]
     cases D (rdK l i).f1 <;> simp
theorem ck_j2 (b : Bool) (a0 : Int) (a1 a2 a3 : ByteArray) (a4 a5 : Int) (a6 : ByteArray) (ps : List Piece) (l : List Pick) (hl : l.length ≤ 1073741824) (hs : ∀ y ∈ l, y.f1.size ≤ 1073741824) (k : Nat) (hk : 1073741826 ≤ k) :
  cmd_Check.j2 k b a0 a1 a2 a3 a4 a5 a6 ps l = some (if b = false ∧ l.all pk = true then 0 else 1) := by
 obtain ⟨k, rfl⟩ : ∃ j, k = j + 1 := ⟨k - 1, by omega⟩
 rw [cmd_Check.j2]
 exact ck_l0 l hl hs l.length 0 k b (by omega) (by omega)
def Q (f a0 a4 a5 : Int) (n : Nat) : Prop := 0 ≤ a4 ∧ a4 ≤ 1099511627776 ∧ (ba f 8 ≠ 0 → a4 = 0 → a0 = 10) ∧ 0 ≤ a5 ∧ a5 ≤ 100 ∧ (ba f 16 ≠ 0 → a5 ≠ 0) ∧ n ≤ 100
instance (f a0 a4 a5 : Int) (n : Nat) : Decidable (Q f a0 a4 a5 n) := by unfold Q; infer_instance
theorem ck_j1 (f : Int) (b : Bool) (a0 : Int) (a1 a2 a3 : ByteArray) (a4 a5 : Int) (a6 : ByteArray) (ps : List Piece) (l : List Pick) (hl : l.length ≤ 1073741824) (hs : ∀ y ∈ l, y.f1.size ≤ 1073741824) (k : Nat) (hk : 1073741827 ≤ k) :
  cmd_Check.j1 k f b a0 a1 a2 a3 a4 a5 a6 ps l = some (if b = false ∧ Q f a0 a4 a5 l.length ∧ l.all pk = true then 0 else 1) := by
 obtain ⟨k, rfl⟩ : ∃ j, k = j + 1 := ⟨k - 1, by omega⟩
 have J := fun c => ck_j2 c a0 a1 a2 a3 a4 a5 a6 ps l hl hs k (by omega)
 have no : ¬ Q f a0 a4 a5 l.length → cmd_Check.j2 k true a0 a1 a2 a3 a4 a5 a6 ps l = some (if b = false ∧ Q f a0 a4 a5 l.length ∧ l.all pk = true then 0 else 1) := fun h => by
  rw [J, if_neg (by simp), if_neg (fun g => h g.2.1)]
 have yes : b = false → (l.length ≤ 100 → Q f a0 a4 a5 l.length) → cmd_Check.j2 k (decide ((l.length : Int) > 100)) a0 a1 a2 a3 a4 a5 a6 ps l = some (if b = false ∧ Q f a0 a4 a5 l.length ∧ l.all pk = true then 0 else 1) := fun hb h => by
  rw [J]
  by_cases hn : l.length ≤ 100
  ·
   rw [decide_eq_false (by omega)]
   simp only [hb, h hn, true_and]
  ·
   rw [decide_eq_true (by omega), if_neg (by simp), if_neg (fun g => hn g.2.1.2.2.2.2.2.2)]
 rw [cmd_Check.j1]
 cases b with
 | true => rw [if_pos rfl, J, if_neg (by simp), if_neg (by simp)]
 | false =>
  rw [if_neg (by decide)]
  unfold Q ba at no yes ⊢
  repeat' (first | exact no (by omega) | exact yes rfl (by intro hn; omega) | split)
def R_ (f : Int) (a2 a3 a6 : ByteArray) (ps : List Piece) : Prop := (ba f 2 ≠ 0 → bucketOk a2 = true) ∧ (ba f 4 ≠ 0 → keyOk a3 = true) ∧ (ba f 32 ≠ 0 → D a6 = true) ∧ (Pc ps).2 = 0 ∧ (Pc ps).1 ≤ 1048576
instance (f : Int) (a2 a3 a6 : ByteArray) (ps : List Piece) : Decidable (R_ f a2 a3 a6 ps) := by unfold R_; infer_instance
structure SmallCmd (a1 a2 a3 a6 : ByteArray) (ps : List Piece) (l : List Pick) : Prop where
 s1 : a1.size ≤ 1073741824
 s2 : a2.size ≤ 1073741824
 s3 : a3.size ≤ 1073741824
 s6 : a6.size ≤ 1073741824
 hp : ps.length ≤ 1048576
 sp : ∀ y ∈ ps, y.f0.size ≤ 1048576
 hl : l.length ≤ 1048576
 sl : ∀ y ∈ l, y.f1.size ≤ 1073741824
theorem ck_j0 (f : Int) (b : Bool) (a0 : Int) (a1 a2 a3 : ByteArray) (a4 a5 : Int) (a6 : ByteArray) (ps : List Piece) (l : List Pick) (h : SmallCmd a1 a2 a3 a6 ps l) (k : Nat) (hk : 1073741828 ≤ k) :
  cmd_Check.j0 k f b a0 a1 a2 a3 a4 a5 a6 ps l = some (if b = false ∧ R_ f a2 a3 a6 ps ∧ Q f a0 a4 a5 l.length ∧ l.all pk = true then 0 else 1) := by
 obtain ⟨k, rfl⟩ : ∃ j, k = j + 1 := ⟨k - 1, by omega⟩
 have J := fun c => ck_j1 f c a0 a1 a2 a3 a4 a5 a6 ps l (by have := h.hl; omega) h.sl k (by omega)
 cases b with
 | true => rw [cmd_Check.j0, if_pos rfl, if_neg (by simp)]
 | false =>
  obtain ⟨X, hX⟩ : ∃ X, X = some (if false = false ∧ R_ f a2 a3 a6 ps ∧ Q f a0 a4 a5 l.length ∧ l.all pk = true then (0 : Int) else 1) := ⟨_, rfl⟩
  rw [← hX]
  have no : ¬ R_ f a2 a3 a6 ps → cmd_Check.j1 k f true a0 a1 a2 a3 a4 a5 a6 ps l = X := fun h => by
   rw [hX, J, if_neg (by simp), if_neg (fun g => h g.2.1)]
  have yes : ((Pc ps).1 ≤ 1048576 → R_ f a2 a3 a6 ps) → cmd_Check.j1 k f (decide ((Pc ps).1 > 1048576)) a0 a1 a2 a3 a4 a5 a6 ps l = X := fun h => by
   rw [hX, J]
   by_cases hn : (Pc ps).1 ≤ 1048576
   ·
    rw [decide_eq_false (by omega)]
    simp only [h hn, true_and]
   ·
    rw [decide_eq_true (by omega), if_neg (by simp), if_neg (fun g => hn g.2.1.2.2.2.2)]
  rw [cmd_Check.j0, if_neg (by decide), pieces_eq ps h.sp k (by omega), Option.bind_some, names_Bucket_eq a2 (by have := h.s2; omega) k (by omega), names_Key_eq a3 (by have := h.s3; omega), cd_eq a6 h.s6]
  simp only [Option.bind_some]
  clear J h hk hX
  unfold R_ ba at no yes
  generalize bucketOk a2 = B2 at no yes ⊢
  generalize keyOk a3 = B3 at no yes ⊢
  generalize D a6 = B6 at no yes ⊢
  generalize (Pc ps).1 = P1 at no yes ⊢
  generalize (Pc ps).2 = P2 at no yes ⊢
  generalize Go.bits .and .i64 f 2 = f2 at no yes ⊢
  generalize Go.bits .and .i64 f 4 = f4 at no yes ⊢
  generalize Go.bits .and .i64 f 32 = f32 at no yes ⊢
  repeat' (first | exact no (by clear no yes; simp_all) | exact yes (by clear no yes; intro hn; simp_all) | split)
theorem ba_ext (a b : ByteArray) : a.toList = b.toList ↔ a = b := by
 rw [ByteArray.toList_eq, ByteArray.toList_eq]
 exact ⟨fun h => ByteArray.ext (Array.ext' h), fun h => by rw [h]⟩
theorem ba_nil (a : ByteArray) : (⟨#[]⟩ : ByteArray) = a ↔ a.size = 0 := by
 constructor
 ·
  rintro rfl; rfl
 ·
  intro h
  apply ByteArray.ext
  apply Array.ext'
  have : a.data.toList = [] := List.length_eq_zero_iff.1 (by rw [len_eq]; exact h)
  rw [this]
theorem pieces_self (l : List Piece) (hl : l.length ≤ 1073741824) : ∀ n i k, i + n = l.length → n < k → api_Piece_68.l0 k l l (l.length : Int) (i : Int) = some true := by
 intro n
 induction n with
 | zero =>
  intro i k hi hk
  obtain ⟨k, rfl⟩ : ∃ j, k = j + 1 := ⟨k - 1, by omega⟩
  rw [api_Piece_68.l0, if_neg (by omega)]
 | succ n ih =>
  intro i k hi hk
  obtain ⟨k, rfl⟩ : ∃ j, k = j + 1 := ⟨k - 1, by omega⟩
  rw [api_Piece_68.l0, if_pos (by omega), if_pos (by omega), if_pos (by omega), if_pos (by omega), if_neg (by simp), w1 i (by omega)]
  exact ih (i + 1) k (by omega) (by omega)
theorem picks_self (l : List Pick) (hl : l.length ≤ 1073741824) : ∀ n i k, i + n = l.length → n < k → api_Pick_69.l0 k l l (l.length : Int) (i : Int) = some true := by
 intro n
 induction n with
 | zero =>
  intro i k hi hk
  obtain ⟨k, rfl⟩ : ∃ j, k = j + 1 := ⟨k - 1, by omega⟩
  rw [api_Pick_69.l0, if_neg (by omega)]
 | succ n ih =>
  intro i k hi hk
  obtain ⟨k, rfl⟩ : ∃ j, k = j + 1 := ⟨k - 1, by omega⟩
  rw [api_Pick_69.l0, if_pos (by omega), if_pos (by omega), if_pos (by omega), if_pos (by omega), if_neg (by simp), w1 i (by omega)]
  exact ih (i + 1) k (by omega) (by omega)
def Z (f : Int) (a1 a2 a3 : ByteArray) (a4 a5 : Int) (a6 : ByteArray) (ps : List Piece) (l : List Pick) : Prop :=
 (ba f 1 = 0 → a1.size = 0) ∧ (ba f 2 = 0 → a2.size = 0) ∧ (ba f 4 = 0 → a3.size = 0) ∧ (ba f 8 = 0 → a4 = 0) ∧ (ba f 16 = 0 → a5 = 0) ∧ (ba f 32 = 0 → a6.size = 0) ∧ (ba f 64 = 0 → ps.length = 0) ∧ (ba f 128 = 0 → l.length = 0)
instance (f : Int) (a1 a2 a3 : ByteArray) (a4 a5 : Int) (a6 : ByteArray) (ps : List Piece) (l : List Pick) : Decidable (Z f a1 a2 a3 a4 a5 a6 ps l) := by unfold Z; infer_instance
theorem cut_t_eq (f bit : Int) (s : ByteArray) : (cmd_cut_t f bit s).toList = s.toList ↔ (ba f bit = 0 → s.size = 0) := by
 unfold cmd_cut_t
 rw [ba_ext]
 by_cases h : ba f bit = 0
 ·
  have : (Go.bits .and .i64 f bit != 0) = false := bne_eq_false_iff_eq.2 h
  rw [this, if_neg (by decide), ba_nil]
  exact ⟨fun g _ => g, fun g => g h⟩
 ·
  have : (Go.bits .and .i64 f bit != 0) = true := bne_iff_ne.2 h
  rw [this, if_pos rfl]
  exact ⟨fun _ g => absurd g h, fun _ => rfl⟩
theorem cut_n_eq (f bit n : Int) : cmd_cut_n f bit n = n ↔ (ba f bit = 0 → n = 0) := by
 unfold cmd_cut_n
 by_cases h : ba f bit = 0
 ·
  have : (Go.bits .and .i64 f bit != 0) = false := bne_eq_false_iff_eq.2 h
  rw [this, if_neg (by decide)]
  exact ⟨fun g _ => g.symm, fun g => (g h).symm⟩
 ·
  have : (Go.bits .and .i64 f bit != 0) = true := bne_iff_ne.2 h
  rw [this, if_pos rfl]
  exact ⟨fun _ g => absurd g h, fun _ => rfl⟩
theorem pieces_cut (f : Int) (ps : List Piece) (hp : ps.length ≤ 1048576) (k : Nat) (hk : 1048580 ≤ k) : ∃ q, (if (Go.bits .and .i64 f 64 != 0) = true then api_Piece_70.f ps else some []) = some q ∧ api_Piece_68.f k q ps = some (decide (ba f 64 = 0 → ps.length = 0)) := by
 by_cases h : ba f 64 = 0
 ·
  have : (Go.bits .and .i64 f 64 != 0) = false := bne_eq_false_iff_eq.2 h
  rw [this, if_neg (by decide)]
  refine ⟨[], rfl, ?_⟩
  unfold api_Piece_68.f
  by_cases h0 : ps.length = 0
  ·
   obtain rfl := List.length_eq_zero_iff.1 h0
   rw [if_pos rfl]
   exact (pieces_self [] (by decide) 0 0 k rfl (by omega)).trans (congrArg some (decide_eq_true (fun _ => rfl)).symm)
  ·
   rw [if_neg (by show ¬ (((0 : Nat) : Int) = _); omega), decide_eq_false (fun g => h0 (g h))]
 ·
  have : (Go.bits .and .i64 f 64 != 0) = true := bne_iff_ne.2 h
  rw [this, if_pos rfl]
  refine ⟨ps, ?_, ?_⟩
  ·
   unfold api_Piece_70.f
   rw [if_pos (by omega)]
  ·
   unfold api_Piece_68.f
   rw [if_pos rfl, decide_eq_true (fun g => absurd g h)]
   exact pieces_self ps (by omega) ps.length 0 k (by omega) (by omega)
theorem picks_cut (f : Int) (l : List Pick) (hp : l.length ≤ 1048576) (k : Nat) (hk : 1048580 ≤ k) : ∃ q, (if (Go.bits .and .i64 f 128 != 0) = true then api_Pick_71.f l else some []) = some q ∧ api_Pick_69.f k q l = some (decide (ba f 128 = 0 → l.length = 0)) := by
 by_cases h : ba f 128 = 0
 ·
  have : (Go.bits .and .i64 f 128 != 0) = false := bne_eq_false_iff_eq.2 h
  rw [this, if_neg (by decide)]
  refine ⟨[], rfl, ?_⟩
  unfold api_Pick_69.f
  by_cases h0 : l.length = 0
  ·
   obtain rfl := List.length_eq_zero_iff.1 h0
   rw [if_pos rfl]
   exact (picks_self [] (by decide) 0 0 k rfl (by omega)).trans (congrArg some (decide_eq_true (fun _ => rfl)).symm)
  ·
   rw [if_neg (by show ¬ (((0 : Nat) : Int) = _); omega), decide_eq_false (fun g => h0 (g h))]
 ·
  have : (Go.bits .and .i64 f 128 != 0) = true := bne_iff_ne.2 h
  rw [this, if_pos rfl]
  refine ⟨l, ?_, ?_⟩
  ·
   unfold api_Pick_71.f
   rw [if_pos (by omega)]
  ·
   unfold api_Pick_69.f
   rw [if_pos rfl, decide_eq_true (fun g => absurd g h)]
   exact picks_self l (by omega) l.length 0 k (by omega) (by omega)
theorem cut_same (f a0 : Int) (a1 a2 a3 : ByteArray) (a4 a5 : Int) (a6 : ByteArray) (ps : List Piece) (l : List Pick) (hp : ps.length ≤ 1048576) (hl : l.length ≤ 1048576) (k : Nat) (hk : 1048580 ≤ k) :
  ∃ c, cmd_cut.f a0 a1 a2 a3 a4 a5 a6 ps l f = some c ∧ cmd_same.f k c.1 c.2.1 c.2.2.1 c.2.2.2.1 c.2.2.2.2.1 c.2.2.2.2.2.1 c.2.2.2.2.2.2.1 c.2.2.2.2.2.2.2.1 c.2.2.2.2.2.2.2.2 a0 a1 a2 a3 a4 a5 a6 ps l = some (decide (Z f a1 a2 a3 a4 a5 a6 ps l)) := by
 obtain ⟨q1, h1, g1⟩ := pieces_cut f ps hp k hk
 obtain ⟨q2, h2, g2⟩ := picks_cut f l hl k hk
 refine ⟨_, by unfold cmd_cut.f; rw [h1, Option.bind_some, h2, Option.bind_some], ?_⟩
 unfold cmd_same.f
 show (if a0 = a0 then (if (cmd_cut_t f 1 a1).toList = a1.toList then (if (cmd_cut_t f 2 a2).toList = a2.toList then (if (cmd_cut_t f 4 a3).toList = a3.toList then (if cmd_cut_n f 8 a4 = a4 then (if cmd_cut_n f 16 a5 = a5 then (if (cmd_cut_t f 32 a6).toList = a6.toList then ((api_Piece_68.f k q1 ps).bind fun t107 => (if t107 = true then ((api_Pick_69.f k q2 l).bind fun t108 => (some t108)) else (some false))) else (some false)) else (some false)) else (some false)) else (some false)) else (some false)) else (some false)) else (some false)) = _
 rw [g1, g2, if_pos rfl]
 simp only [Option.bind_some, cut_t_eq, cut_n_eq, decide_eq_true_eq]
 by_cases e1 : ba f 1 = 0 → a1.size = 0
 ·
  rw [if_pos e1]
  by_cases e2 : ba f 2 = 0 → a2.size = 0
  ·
   rw [if_pos e2]
   by_cases e3 : ba f 4 = 0 → a3.size = 0
   ·
    rw [if_pos e3]
    by_cases e4 : ba f 8 = 0 → a4 = 0
    ·
     rw [if_pos e4]
     by_cases e5 : ba f 16 = 0 → a5 = 0
     ·
      rw [if_pos e5]
      by_cases e6 : ba f 32 = 0 → a6.size = 0
      ·
       rw [if_pos e6]
       by_cases e7 : ba f 64 = 0 → ps.length = 0
       ·
        rw [if_pos e7]
        congr 1
        exact decide_eq_decide.2 ⟨fun g => ⟨e1, e2, e3, e4, e5, e6, e7, g⟩, fun g => g.2.2.2.2.2.2.2⟩
       ·
        rw [if_neg e7, decide_eq_false (fun g => e7 g.2.2.2.2.2.2.1)]
      ·
       rw [if_neg e6, decide_eq_false (fun g => e6 g.2.2.2.2.2.1)]
     ·
      rw [if_neg e5, decide_eq_false (fun g => e5 g.2.2.2.2.1)]
    ·
     rw [if_neg e4, decide_eq_false (fun g => e4 g.2.2.2.1)]
   ·
    rw [if_neg e3, decide_eq_false (fun g => e3 g.2.2.1)]
  ·
   rw [if_neg e2, decide_eq_false (fun g => e2 g.2.1)]
 ·
  rw [if_neg e1, decide_eq_false (fun g => e1 g.1)]
def CK (a0 : Int) (a1 a2 a3 : ByteArray) (a4 a5 : Int) (a6 : ByteArray) (ps : List Piece) (l : List Pick) : Prop :=
 fb a0 ≠ 0 ∧ Z (fb a0) a1 a2 a3 a4 a5 a6 ps l ∧ (a1.size ≠ 0 → tokOk a1 = true) ∧ R_ (fb a0) a2 a3 a6 ps ∧ Q (fb a0) a0 a4 a5 l.length ∧ l.all pk = true
instance (a0 : Int) (a1 a2 a3 : ByteArray) (a4 a5 : Int) (a6 : ByteArray) (ps : List Piece) (l : List Pick) : Decidable (CK a0 a1 a2 a3 a4 a5 a6 ps l) := by unfold CK; infer_instance
theorem check_eq (a0 : Int) (a1 a2 a3 : ByteArray) (a4 a5 : Int) (a6 : ByteArray) (ps : List Piece) (l : List Pick) (h : SmallCmd a1 a2 a3 a6 ps l) (k : Nat) (hk : 1073741828 ≤ k) :
  cmd_Check.f k a0 a1 a2 a3 a4 a5 a6 ps l = some (if CK a0 a1 a2 a3 a4 a5 a6 ps l then 0 else 1) := by
 have J := fun b => ck_j0 (fb a0) b a0 a1 a2 a3 a4 a5 a6 ps l h k hk
 have J1 : cmd_Check.j0 k (fb a0) true a0 a1 a2 a3 a4 a5 a6 ps l = some 1 := by rw [J true, if_neg (by simp)]
 unfold cmd_Check.f
 rw [fields_eq a0 k (by omega), Option.bind_some, J1]
 by_cases h0 : fb a0 = 0
 ·
  rw [if_pos h0, if_neg (fun g => g.1 h0)]
 ·
  rw [if_neg h0]
  obtain ⟨c, g1, g2⟩ := cut_same (fb a0) a0 a1 a2 a3 a4 a5 a6 ps l h.hp h.hl k (by omega)
  rw [g1, Option.bind_some, g2, Option.bind_some]
  by_cases hz : Z (fb a0) a1 a2 a3 a4 a5 a6 ps l
  ·
   rw [if_pos (decide_eq_true hz)]
   by_cases h1 : a1.size = 0
   ·
    rw [if_pos ((toList_nil a1).2 h1), J false]
    congr 1
    by_cases hr : R_ (fb a0) a2 a3 a6 ps ∧ Q (fb a0) a0 a4 a5 l.length ∧ l.all pk = true
    ·
     rw [if_pos ⟨rfl, hr⟩, if_pos ⟨h0, hz, fun g => absurd h1 g, hr⟩]
    ·
     rw [if_neg (fun g => hr g.2), if_neg (fun g => hr g.2.2.2)]
   ·
    rw [if_neg (fun g => h1 ((toList_nil a1).1 g)), names_Token_eq a1 h.s1 k (by omega), Option.bind_some]
    cases ht : tokOk a1 with
    | false =>
     rw [Bool.not_false, J1, if_neg (fun g => by have := g.2.2.1 h1; rw [ht] at this; cases this)]
    | true =>
     rw [Bool.not_true, J false]
     congr 1
     by_cases hr : R_ (fb a0) a2 a3 a6 ps ∧ Q (fb a0) a0 a4 a5 l.length ∧ l.all pk = true
     ·
      rw [if_pos ⟨rfl, hr⟩, if_pos ⟨h0, hz, fun _ => ht, hr⟩]
     ·
      rw [if_neg (fun g => hr g.2), if_neg (fun g => hr g.2.2.2)]
  ·
   rw [if_neg (by simpa using hz), if_neg (fun g => hz g.2.1)]
theorem al (a b : ByteArray) : (a ++ b).data.toList = a.data.toList ++ b.data.toList := by
 rw [ByteArray.data_append, Array.toList_append]
theorem ba_empty (a : ByteArray) (h : a.size = 0) : a = ⟨#[]⟩ := ((ba_nil a).2 h).symm
theorem nil_app (s : ByteArray) : s ++ (⟨#[]⟩ : ByteArray) = s := by
 apply ByteArray.ext; apply Array.ext'; rw [al]; exact List.append_nil _
theorem list_ext (a b : ByteArray) (h : a.data.toList = b.data.toList) : a = b := by
 apply ByteArray.ext; exact Array.ext' h
structure Bd (a0 : Int) (a1 a2 a3 : ByteArray) (a4 a5 : Int) (a6 : ByteArray) (ps : List Piece) (l : List Pick) : Prop where
 k0 : 1 ≤ a0 ∧ a0 ≤ 10
 b1 : a1.size ≤ 64
 b2 : a2.size ≤ 63
 b3 : a3.size ≤ 1024
 b4 : 0 ≤ a4 ∧ a4 ≤ 1099511627776
 b5 : 0 ≤ a5 ∧ a5 ≤ 100
 b6 : a6.size ≤ 64
 hp : ps.length ≤ 512
 bp : ∀ y ∈ ps, y.f0.size ≤ 64 ∧ 1 ≤ y.f1 ∧ y.f1 ≤ 4096
 hl : l.length ≤ 100
 bl : ∀ y ∈ l, y.f1.size ≤ 64 ∧ 0 ≤ y.f0 ∧ y.f0 ≤ 100
theorem D_size (a : ByteArray) (h : D a = true) : a.size = 64 := by
 unfold D at h
 rw [Bool.and_eq_true, decide_eq_true_eq] at h
 exact h.2
theorem pcs_all : ∀ (l : List Piece) (s : Int), (pcs l s).2 = 0 → ∀ y ∈ l, y.f0.size ≤ 64 ∧ 1 ≤ y.f1 ∧ y.f1 ≤ 4096
 | [], _, _, y, hy => by cases hy
 | x :: r, s, h, y, hy => by
  rw [pcs] at h
  by_cases hc : D x.f0 = true ∧ 1 ≤ x.f1 ∧ x.f1 ≤ 4096
  ·
   rw [if_pos hc] at h
   rcases List.mem_cons.1 hy with rfl | hy
   ·
    exact ⟨Nat.le_of_eq (D_size _ hc.1), hc.2⟩
   ·
    exact pcs_all r _ h y hy
  ·
   rw [if_neg hc] at h; exact absurd h (by decide)
theorem CK_bd {a0 : Int} {a1 a2 a3 : ByteArray} {a4 a5 : Int} {a6 : ByteArray} {ps : List Piece} {l : List Pick} (h : CK a0 a1 a2 a3 a4 a5 a6 ps l) : Bd a0 a1 a2 a3 a4 a5 a6 ps l := by
 obtain ⟨h0, ⟨z1, z2, z3, z4, z5, z6, z7, z8⟩, ht, ⟨r1, r2, r3, r4, r5⟩, ⟨q1, q2, q3, q4, q5, q6, q7⟩, hk⟩ := h
 have hpl : ps.length ≤ 512 ∧ (pcs ps 0).2 = 0 := by
  unfold Pc at r4
  by_cases hl : 512 < ps.length
  ·
   rw [if_pos hl] at r4; exact absurd r4 (by decide)
  ·
   rw [if_neg hl] at r4; exact ⟨by omega, r4⟩
 refine ⟨by have := fb_kind a0 h0; omega, ?_, ?_, ?_, ⟨q1, q2⟩, ⟨q4, q5⟩, ?_, hpl.1, pcs_all ps 0 hpl.2, q7, ?_⟩
 ·
  by_cases e : a1.size = 0
  ·
   omega
  ·
   have := ht e; unfold tokOk at this; simp only [Bool.and_eq_true, decide_eq_true_eq] at this; omega
 ·
  by_cases e : ba (fb a0) 2 = 0
  ·
   have := z2 e; omega
  ·
   have := r1 e; unfold bucketOk at this; simp only [Bool.and_eq_true, decide_eq_true_eq] at this; omega
 ·
  by_cases e : ba (fb a0) 4 = 0
  ·
   have := z3 e; omega
  ·
   have := r2 e; unfold keyOk at this; simp only [Bool.and_eq_true, decide_eq_true_eq] at this; omega
 ·
  by_cases e : ba (fb a0) 32 = 0
  ·
   have := z6 e; omega
  ·
   have := D_size _ (r3 e); omega
 ·
  intro y hy
  have := List.all_eq_true.1 hk y hy
  unfold pk at this
  simp only [Bool.and_eq_true, decide_eq_true_eq] at this
  exact ⟨Nat.le_of_eq (D_size _ this.2), this.1⟩
def ot (b : Bool) (t : ByteArray) : ByteArray := if b = true then txt t else ⟨#[]⟩
def on (b : Bool) (n : Int) : ByteArray := if b = true then num n else ⟨#[]⟩
def tpB : List Piece → ByteArray
 | [] => ⟨#[]⟩
 | y :: r => (txt y.f0 ++ num y.f1) ++ tpB r
def tkB : List Pick → ByteArray
 | [] => ⟨#[]⟩
 | y :: r => (num y.f0 ++ txt y.f1) ++ tkB r
abbrev nb (f bit : Int) : Bool := Go.bits .and .i64 f bit != 0
def toldB (a0 : Int) (a1 a2 a3 : ByteArray) (a4 a5 : Int) (a6 : ByteArray) (ps : List Piece) (l : List Pick) : ByteArray :=
 num a0 ++ ot (nb (fb a0) 1) a1 ++ ot (nb (fb a0) 2) a2 ++ ot (nb (fb a0) 4) a3 ++ on (nb (fb a0) 8) a4 ++ on (nb (fb a0) 16) a5 ++ ot (nb (fb a0) 32) a6 ++ on (nb (fb a0) 64) (ps.length : Int) ++ tpB ps ++ on (nb (fb a0) 128) (l.length : Int) ++ tkB l
theorem ot_size (b : Bool) (t : ByteArray) : (ot b t).size ≤ t.size + 10 := by
 unfold ot; have := txt_size t; split
 ·
  exact this
 ·
  exact Nat.zero_le _
theorem on_size (b : Bool) (n : Int) : (on b n).size ≤ 10 := by
 unfold on; have := num_size n; split
 ·
  exact this
 ·
  exact Nat.zero_le _
theorem tpB_size : ∀ (l : List Piece), (∀ y ∈ l, y.f0.size ≤ 64) → (tpB l).size ≤ 84 * l.length
 | [], _ => Nat.le_refl _
 | y :: r, h => by
  have h1 := tpB_size r (fun z hz => h z (List.mem_cons_of_mem _ hz))
  have h2 := txt_size y.f0
  have h3 := num_size y.f1
  have h4 := h y List.mem_cons_self
  rw [tpB, ByteArray.size_append, ByteArray.size_append, List.length_cons]
  omega
theorem tkB_size : ∀ (l : List Pick), (∀ y ∈ l, y.f1.size ≤ 64) → (tkB l).size ≤ 84 * l.length
 | [], _ => Nat.le_refl _
 | y :: r, h => by
  have h1 := tkB_size r (fun z hz => h z (List.mem_cons_of_mem _ hz))
  have h2 := txt_size y.f1
  have h3 := num_size y.f0
  have h4 := h y List.mem_cons_self
  rw [tkB, ByteArray.size_append, ByteArray.size_append, List.length_cons]
  omega
theorem told_txt (k : Nat) (b : Bool) (s t : ByteArray) (ht : t.size ≤ 1073741824) (hs : s.size ≤ 1073741824) (hk : 10 ≤ k) : cmd_told_txt k b s t = some (s ++ ot b t) := by
 unfold cmd_told_txt ot
 have := txt_size t
 cases b with
 | false => rw [if_neg (by decide), if_neg (by decide), nil_app]
 | true => rw [if_pos rfl, if_pos rfl, oct_Text t ht k hk, Option.bind_some, if_pos (by omega)]
theorem told_num (k : Nat) (b : Bool) (s : ByteArray) (n : Int) (h0 : 0 ≤ n) (h1 : n ≤ 9223372036854775807) (hs : s.size ≤ 1073741824) (hk : 10 ≤ k) : cmd_told_num k b s n = some (s ++ on b n) := by
 unfold cmd_told_num on
 have := num_size n
 cases b with
 | false => rw [if_neg (by decide), if_neg (by decide), nil_app]
 | true => rw [if_pos rfl, if_pos rfl, IntWalk.u64_in n (by omega), oct_Number n h0 (by omega) k hk, Option.bind_some, if_pos (by omega)]
theorem told_l0 (k : Nat) (hk : 10 ≤ k) : ∀ (l : List Piece) (s : ByteArray), (∀ y ∈ l, y.f0.size ≤ 64 ∧ 1 ≤ y.f1 ∧ y.f1 ≤ 4096) → s.size + 84 * l.length ≤ 1073741824 → cmd_told_l0 k l s = some (s ++ tpB l)
 | [], s, _, _ => by rw [cmd_told_l0, tpB, nil_app]
 | y :: r, s, h, hs => by
  have hy := h y List.mem_cons_self
  have h2 := txt_size y.f0
  have h3 := num_size y.f1
  rw [List.length_cons] at hs
  have hz : (txt y.f0 ++ num y.f1).size ≤ 84 := by rw [ByteArray.size_append]; omega
  rw [cmd_told_l0, oct_Text y.f0 (by omega) k hk, Option.bind_some, IntWalk.u64_in y.f1 (by omega), oct_Number y.f1 (by omega) (by omega) k hk, Option.bind_some, if_pos (by omega), if_pos (by omega),
   told_l0 k hk r _ (fun z hz => h z (List.mem_cons_of_mem _ hz)) (by rw [ByteArray.size_append]; omega), tpB, ba_assoc]
theorem told_l1 (k : Nat) (hk : 10 ≤ k) : ∀ (l : List Pick) (s : ByteArray), (∀ y ∈ l, y.f1.size ≤ 64 ∧ 0 ≤ y.f0 ∧ y.f0 ≤ 100) → s.size + 84 * l.length ≤ 1073741824 → cmd_told_l1 k l s = some (s ++ tkB l)
 | [], s, _, _ => by rw [cmd_told_l1, tkB, nil_app]
 | y :: r, s, h, hs => by
  have hy := h y List.mem_cons_self
  have h2 := txt_size y.f1
  have h3 := num_size y.f0
  rw [List.length_cons] at hs
  have hz : (num y.f0 ++ txt y.f1).size ≤ 84 := by rw [ByteArray.size_append]; omega
  rw [cmd_told_l1, IntWalk.u64_in y.f0 (by omega), oct_Number y.f0 (by omega) (by omega) k hk, Option.bind_some, oct_Text y.f1 (by omega) k hk, Option.bind_some, if_pos (by omega), if_pos (by omega),
   told_l1 k hk r _ (fun z hz => h z (List.mem_cons_of_mem _ hz)) (by rw [ByteArray.size_append]; omega), tkB, ba_assoc]
theorem told_eq {a0 : Int} {a1 a2 a3 : ByteArray} {a4 a5 : Int} {a6 : ByteArray} {ps : List Piece} {l : List Pick} (h : Bd a0 a1 a2 a3 a4 a5 a6 ps l) (k : Nat) (hk : 20 ≤ k) :
  cmd_told.f k a0 a1 a2 a3 a4 a5 a6 ps l = some (toldB a0 a1 a2 a3 a4 a5 a6 ps l) ∧ (toldB a0 a1 a2 a3 a4 a5 a6 ps l).size ≤ 100000 := by
 have q0 := num_size a0
 have q1 := ot_size (nb (fb a0) 1) a1
 have q2 := ot_size (nb (fb a0) 2) a2
 have q3 := ot_size (nb (fb a0) 4) a3
 have q4 := on_size (nb (fb a0) 8) a4
 have q5 := on_size (nb (fb a0) 16) a5
 have q6 := ot_size (nb (fb a0) 32) a6
 have q7 := on_size (nb (fb a0) 64) (ps.length : Int)
 have q8 := tpB_size ps (fun y hy => (h.bp y hy).1)
 have q9 := on_size (nb (fb a0) 128) (l.length : Int)
 have q10 := tkB_size l (fun y hy => (h.bl y hy).1)
 obtain ⟨k0, b1, b2, b3, b4, b5, b6, hp, bp, hl, bl⟩ := h
 constructor
 ·
  unfold cmd_told.f toldB
  rw [fields_eq a0 k (by omega), Option.bind_some, IntWalk.u64_in a0 (by omega), oct_Number a0 (by omega) (by omega) k (by omega), Option.bind_some]
  show ((cmd_told_txt k (nb (fb a0) 1) (num a0) a1).bind fun s1 => (cmd_told_txt k (nb (fb a0) 2) s1 a2).bind fun s2 => (cmd_told_txt k (nb (fb a0) 4) s2 a3).bind fun s3 => (cmd_told_num k (nb (fb a0) 8) s3 a4).bind fun s4 => (cmd_told_num k (nb (fb a0) 16) s4 a5).bind fun s5 => (cmd_told_txt k (nb (fb a0) 32) s5 a6).bind fun s6 => (cmd_told_num k (nb (fb a0) 64) s6 (ps.length : Int)).bind fun s7 => (cmd_told_l0 k ps s7).bind fun s8 => (cmd_told_num k (nb (fb a0) 128) s8 (l.length : Int)).bind fun s9 => cmd_told_l1 k l s9) = _
  generalize nb (fb a0) 1 = c1 at *
  generalize nb (fb a0) 2 = c2 at *
  generalize nb (fb a0) 4 = c3 at *
  generalize nb (fb a0) 8 = c4 at *
  generalize nb (fb a0) 16 = c5 at *
  generalize nb (fb a0) 32 = c6 at *
  generalize nb (fb a0) 64 = c7 at *
  generalize nb (fb a0) 128 = c8 at *
  rw [told_txt k _ _ a1 (by omega) (by omega) (by omega), Option.bind_some]
  rw [told_txt k _ _ a2 (by omega) (by rw [ByteArray.size_append]; omega) (by omega), Option.bind_some]
  rw [told_txt k _ _ a3 (by omega) (by rw [ByteArray.size_append, ByteArray.size_append]; omega) (by omega), Option.bind_some]
  rw [told_num k _ _ a4 (by omega) (by omega) (by rw [ByteArray.size_append, ByteArray.size_append, ByteArray.size_append]; omega) (by omega), Option.bind_some]
  rw [told_num k _ _ a5 (by omega) (by omega) (by rw [ByteArray.size_append, ByteArray.size_append, ByteArray.size_append, ByteArray.size_append]; omega) (by omega), Option.bind_some]
  rw [told_txt k _ _ a6 (by omega) (by rw [ByteArray.size_append, ByteArray.size_append, ByteArray.size_append, ByteArray.size_append, ByteArray.size_append]; omega) (by omega), Option.bind_some]
  rw [told_num k _ _ (ps.length : Int) (by omega) (by omega) (by rw [ByteArray.size_append, ByteArray.size_append, ByteArray.size_append, ByteArray.size_append, ByteArray.size_append, ByteArray.size_append]; omega) (by omega), Option.bind_some]
  rw [told_l0 k (by omega) ps _ bp (by rw [ByteArray.size_append, ByteArray.size_append, ByteArray.size_append, ByteArray.size_append, ByteArray.size_append, ByteArray.size_append, ByteArray.size_append]; omega), Option.bind_some]
  rw [told_num k _ _ (l.length : Int) (by omega) (by omega) (by rw [ByteArray.size_append, ByteArray.size_append, ByteArray.size_append, ByteArray.size_append, ByteArray.size_append, ByteArray.size_append, ByteArray.size_append, ByteArray.size_append]; omega) (by omega), Option.bind_some]
  refine told_l1 k (by omega) l _ bl ?_
  rw [ByteArray.size_append, ByteArray.size_append, ByteArray.size_append, ByteArray.size_append, ByteArray.size_append, ByteArray.size_append, ByteArray.size_append, ByteArray.size_append, ByteArray.size_append]
  omega
 ·
  unfold toldB
  rw [ByteArray.size_append, ByteArray.size_append, ByteArray.size_append, ByteArray.size_append, ByteArray.size_append, ByteArray.size_append, ByteArray.size_append, ByteArray.size_append, ByteArray.size_append, ByteArray.size_append]
  omega
theorem dec_txt (k : Nat) (hk : 30 ≤ k) (c : Bool) (s t : ByteArray) (a : Nat) (most : Int) (rest : List UInt8) (hs : s.size ≤ 1073741824) (ha : a ≤ s.size) (ht : t.size ≤ 1073741824) (hm : (t.size : Int) ≤ most) (hc : c = false → t.size = 0) (h : s.data.toList.drop a = (ot c t).data.toList ++ rest) :
  cmd_Decode_txt k (!c) s (a : Int) 0 most = some (t, s, ((a + (ot c t).size : Nat) : Int), 0) ∧ s.data.toList.drop (a + (ot c t).size) = rest ∧ a + (ot c t).size ≤ s.size := by
 unfold cmd_Decode_txt
 cases c with
 | false =>
  obtain rfl := ba_empty t (hc rfl)
  exact ⟨rfl, h, ha⟩
 | true =>
  have e : ot true t = txt t := rfl
  rw [e] at h ⊢
  rw [Bool.not_true, if_neg (by decide), oct_RText s a hs ha 0 most k hk, xt_back s t a most rest ht hm h]
  refine ⟨rfl, ?_, ?_⟩
  ·
   have := drop_add _ _ _ _ h; rwa [len_eq] at this
  ·
   have := size_le s a _ _ (txt_pos t) h; rwa [len_eq] at this
theorem dec_num (k : Nat) (hk : 30 ≤ k) (c : Bool) (s : ByteArray) (n : Int) (a : Nat) (most : Int) (rest : List UInt8) (hs : s.size ≤ 1073741824) (ha : a ≤ s.size) (h0 : 0 ≤ n) (hm : n ≤ most) (hM : most ≤ 9223372036854775807) (hc : c = false → n = 0) (h : s.data.toList.drop a = (on c n).data.toList ++ rest) :
  cmd_Decode_num k (!c) s (a : Int) 0 most = some (n, s, ((a + (on c n).size : Nat) : Int), 0) ∧ s.data.toList.drop (a + (on c n).size) = rest ∧ a + (on c n).size ≤ s.size := by
 unfold cmd_Decode_num
 cases c with
 | false =>
  obtain rfl := hc rfl
  exact ⟨rfl, h, ha⟩
 | true =>
  have e : on true n = num n := rfl
  rw [e] at h ⊢
  rw [Bool.not_true, if_neg (by decide), oct_RInt s a hs ha 0 most (by omega) hM k hk, xn_back s a n most rest h0 (by omega) hm h]
  refine ⟨rfl, ?_, ?_⟩
  ·
   have := drop_add _ _ _ _ h; rwa [len_eq] at this
  ·
   have := size_le s a _ _ (num_pos n) h; rwa [len_eq] at this
theorem dec_l0 (k : Nat) (hk : 30 ≤ k) (s : ByteArray) (hs : s.size ≤ 1073741824) : ∀ (l : List Piece) (a : Nat) (acc : List Piece) (rest : List UInt8), a ≤ s.size → acc.length + l.length ≤ 1048576 → (∀ y ∈ l, y.f0.size ≤ 64 ∧ 1 ≤ y.f1 ∧ y.f1 ≤ 4096) → s.data.toList.drop a = (tpB l).data.toList ++ rest →
  cmd_Decode_l0 k l.length s (a : Int) 0 acc = some (s, ((a + (tpB l).size : Nat) : Int), 0, acc ++ l) ∧ s.data.toList.drop (a + (tpB l).size) = rest ∧ a + (tpB l).size ≤ s.size
 | [], a, acc, rest, ha, _, _, h => by rw [List.append_nil]; exact ⟨rfl, h, ha⟩
 | y :: r, a, acc, rest, ha, hn, hb, h => by
  have hy := hb y List.mem_cons_self
  rw [tpB, al, al, List.append_assoc, List.append_assoc] at h
  have d1 := drop_add _ _ _ _ h
  rw [len_eq] at d1
  have d2 := drop_add _ _ _ _ d1
  rw [len_eq] at d2
  have s1 := size_le s a _ _ (txt_pos y.f0) h
  rw [len_eq] at s1
  have s2 := size_le s _ _ _ (num_pos y.f1) d1
  rw [len_eq] at s2
  rw [List.length_cons] at hn
  have ih := dec_l0 k hk s hs r (a + (txt y.f0).size + (num y.f1).size) (acc ++ [⟨y.f0, y.f1⟩]) rest s2 (by rw [List.length_append, List.length_cons, List.length_nil]; omega) (fun z hz => hb z (List.mem_cons_of_mem _ hz)) d2
  rw [List.length_cons, cmd_Decode_l0, oct_RText s a hs ha 0 64 k hk, xt_back s y.f0 a 64 _ (by omega) (by omega) h, Option.bind_some]
  show (octet_Reader_Int.f k s ((a + (txt y.f0).size : Nat) : Int) 0 4096).bind _ = _ ∧ _
  rw [oct_RInt s _ hs s1 0 4096 (by omega) (by omega) k hk, xn_back s _ y.f1 4096 _ (by omega) (by omega) (by omega) d1, Option.bind_some, if_pos (by omega)]
  have e : (tpB (y :: r)).size = (txt y.f0).size + (num y.f1).size + (tpB r).size := by rw [tpB, ByteArray.size_append, ByteArray.size_append]
  have e2 : a + (txt y.f0).size + (num y.f1).size + (tpB r).size = a + (tpB (y :: r)).size := by omega
  rw [e2, List.append_assoc] at ih
  exact ih
theorem dec_l1 (k : Nat) (hk : 30 ≤ k) (s : ByteArray) (hs : s.size ≤ 1073741824) : ∀ (l : List Pick) (a : Nat) (acc : List Pick) (rest : List UInt8), a ≤ s.size → acc.length + l.length ≤ 1048576 → (∀ y ∈ l, y.f1.size ≤ 64 ∧ 0 ≤ y.f0 ∧ y.f0 ≤ 100) → s.data.toList.drop a = (tkB l).data.toList ++ rest →
  cmd_Decode_l1 k l.length s (a : Int) 0 acc = some (s, ((a + (tkB l).size : Nat) : Int), 0, acc ++ l) ∧ s.data.toList.drop (a + (tkB l).size) = rest ∧ a + (tkB l).size ≤ s.size
 | [], a, acc, rest, ha, _, _, h => by rw [List.append_nil]; exact ⟨rfl, h, ha⟩
 | y :: r, a, acc, rest, ha, hn, hb, h => by
  have hy := hb y List.mem_cons_self
  rw [tkB, al, al, List.append_assoc, List.append_assoc] at h
  have d1 := drop_add _ _ _ _ h
  rw [len_eq] at d1
  have d2 := drop_add _ _ _ _ d1
  rw [len_eq] at d2
  have s1 := size_le s a _ _ (num_pos y.f0) h
  rw [len_eq] at s1
  have s2 := size_le s _ _ _ (txt_pos y.f1) d1
  rw [len_eq] at s2
  rw [List.length_cons] at hn
  have ih := dec_l1 k hk s hs r (a + (num y.f0).size + (txt y.f1).size) (acc ++ [⟨y.f0, y.f1⟩]) rest s2 (by rw [List.length_append, List.length_cons, List.length_nil]; omega) (fun z hz => hb z (List.mem_cons_of_mem _ hz)) d2
  rw [List.length_cons, cmd_Decode_l1, oct_RInt s a hs ha 0 100 (by omega) (by omega) k hk, xn_back s a y.f0 100 _ (by omega) (by omega) (by omega) h, Option.bind_some]
  show (octet_Reader_Text.f k s ((a + (num y.f0).size : Nat) : Int) 0 64).bind _ = _ ∧ _
  rw [oct_RText s _ hs s1 0 64 k hk, xt_back s y.f1 _ 64 _ (by omega) (by omega) d1, Option.bind_some, if_pos (by omega)]
  have e : (tkB (y :: r)).size = (num y.f0).size + (txt y.f1).size + (tkB r).size := by rw [tkB, ByteArray.size_append, ByteArray.size_append]
  have e2 : a + (num y.f0).size + (txt y.f1).size + (tkB r).size = a + (tkB (y :: r)).size := by omega
  rw [e2, List.append_assoc] at ih
  exact ih
theorem nb_not (f bit : Int) : (Go.bits .and .i64 f bit == 0) = !(nb f bit) := by
 unfold nb bne; rw [Bool.not_not]
theorem nb_zero {f bit : Int} (h : nb f bit = false) : ba f bit = 0 := by
 unfold nb bne at h
 cases e : Go.bits .and .i64 f bit == 0
 ·
  rw [e] at h; cases h
 ·
  exact beq_iff_eq.1 e
theorem Decode_eq (k : Nat) (hk : 40 ≤ k) (s : ByteArray) (hs : s.size ≤ 1073741824) : cmd_Decode.f k s =
  ((cmd_Decode_txt k (!nb (fb (xn s 0 0 10).1) 1) s (xn s 0 0 10).2.1 (xn s 0 0 10).2.2 64).bind fun b2 => (cmd_Decode_txt k (!nb (fb (xn s 0 0 10).1) 2) b2.2.1 b2.2.2.1 b2.2.2.2 63).bind fun b3 => (cmd_Decode_txt k (!nb (fb (xn s 0 0 10).1) 4) b3.2.1 b3.2.2.1 b3.2.2.2 1024).bind fun b4 => (cmd_Decode_num k (!nb (fb (xn s 0 0 10).1) 8) b4.2.1 b4.2.2.1 b4.2.2.2 1099511627776).bind fun b5 => (cmd_Decode_num k (!nb (fb (xn s 0 0 10).1) 16) b5.2.1 b5.2.2.1 b5.2.2.2 100).bind fun b6 => (cmd_Decode_txt k (!nb (fb (xn s 0 0 10).1) 32) b6.2.1 b6.2.2.1 b6.2.2.2 64).bind fun b7 => (cmd_Decode_num k (!nb (fb (xn s 0 0 10).1) 64) b7.2.1 b7.2.2.1 b7.2.2.2 512).bind fun b8 => (if b8.1 ≤ 512 then cmd_Decode_l0 k b8.1.toNat b8.2.1 b8.2.2.1 b8.2.2.2 [] else none).bind fun b9 => (cmd_Decode_num k (!nb (fb (xn s 0 0 10).1) 128) b9.1 b9.2.1 b9.2.2.1 100).bind fun b10 => (if b10.1 ≤ 100 then cmd_Decode_l1 k b10.1.toNat b10.2.1 b10.2.2.1 b10.2.2.2 [] else none).bind fun b11 => (octet_Reader_End.f b11.1 b11.2.1 b11.2.2.1).bind fun b12 => if b12.1 = 0 then ((cmd_Check.f k (xn s 0 0 10).1 b2.1 b3.1 b4.1 b5.1 b6.1 b7.1 b9.2.2.2 b11.2.2.2).bind fun c => if c = 0 then some ((xn s 0 0 10).1, b2.1, b3.1, b4.1, b5.1, b6.1, b7.1, b9.2.2.2, b11.2.2.2, 0) else some cmd_Decode_none) else some cmd_Decode_none) := by
 unfold cmd_Decode.f octet_NewReader.f
 rw [Option.bind_some, show octet_Reader_Int.f k s 0 0 10 = _ from oct_RInt s 0 hs (Nat.zero_le _) 0 10 (by omega) (by omega) k (by omega), Option.bind_some]
 show ((cmd_fields.f k (xn s 0 0 10).1).bind _) = _
 rw [fields_eq _ k (by omega), Option.bind_some]
 simp only [nb_not]
theorem dec_back {a0 : Int} {a1 a2 a3 : ByteArray} {a4 a5 : Int} {a6 : ByteArray} {ps : List Piece} {l : List Pick} (hc : CK a0 a1 a2 a3 a4 a5 a6 ps l) (hs : SmallCmd a1 a2 a3 a6 ps l) (k : Nat) (hk : 1073741828 ≤ k) :
  cmd_Decode.f k (toldB a0 a1 a2 a3 a4 a5 a6 ps l) = some (a0, a1, a2, a3, a4, a5, a6, ps, l, 0) := by
 have hb := CK_bd hc
 have hz := (told_eq hb k (by omega)).2
 obtain ⟨T, hT⟩ : ∃ T, T = toldB a0 a1 a2 a3 a4 a5 a6 ps l := ⟨_, rfl⟩
 rw [← hT] at hz ⊢
 have hL : T.data.toList.drop 0 = (num a0).data.toList ++ ((ot (nb (fb a0) 1) a1).data.toList ++ ((ot (nb (fb a0) 2) a2).data.toList ++ ((ot (nb (fb a0) 4) a3).data.toList ++ ((on (nb (fb a0) 8) a4).data.toList ++ ((on (nb (fb a0) 16) a5).data.toList ++ ((ot (nb (fb a0) 32) a6).data.toList ++ ((on (nb (fb a0) 64) (ps.length : Int)).data.toList ++ ((tpB ps).data.toList ++ ((on (nb (fb a0) 128) (l.length : Int)).data.toList ++ ((tkB l).data.toList ++ [])))))))))) := by
  rw [hT, List.drop_zero]
  unfold toldB
  simp only [al, List.append_assoc, List.append_nil]
 obtain ⟨h0, ⟨z1, z2, z3, z4, z5, z6, z7, z8⟩, -⟩ := id hc
 obtain ⟨k0, b1, b2, b3, b4, b5, b6, hp, bp, hl, bl⟩ := hb
 have hs' : T.size ≤ 1073741824 := by omega
 have q0 := xn_back T 0 a0 10 _ (by omega) (by omega) (by omega) hL
 have d0 := drop_add _ _ _ _ hL
 rw [len_eq] at d0
 have s0 := size_le T 0 _ _ (num_pos a0) hL
 rw [len_eq] at s0
 rw [Decode_eq k (by omega) T hs', q0]
 obtain ⟨e1, d1, s1⟩ := dec_txt k (by omega) (nb (fb a0) 1) T a1 _ 64 _ hs' s0 (by omega) (by omega) (fun h => z1 (nb_zero h)) d0
 obtain ⟨e2, d2, s2⟩ := dec_txt k (by omega) (nb (fb a0) 2) T a2 _ 63 _ hs' s1 (by omega) (by omega) (fun h => z2 (nb_zero h)) d1
 obtain ⟨e3, d3, s3⟩ := dec_txt k (by omega) (nb (fb a0) 4) T a3 _ 1024 _ hs' s2 (by omega) (by omega) (fun h => z3 (nb_zero h)) d2
 obtain ⟨e4, d4, s4⟩ := dec_num k (by omega) (nb (fb a0) 8) T a4 _ 1099511627776 _ hs' s3 b4.1 b4.2 (by omega) (fun h => z4 (nb_zero h)) d3
 obtain ⟨e5, d5, s5⟩ := dec_num k (by omega) (nb (fb a0) 16) T a5 _ 100 _ hs' s4 b5.1 b5.2 (by omega) (fun h => z5 (nb_zero h)) d4
 obtain ⟨e6, d6, s6⟩ := dec_txt k (by omega) (nb (fb a0) 32) T a6 _ 64 _ hs' s5 (by omega) (by omega) (fun h => z6 (nb_zero h)) d5
 obtain ⟨e7, d7, s7⟩ := dec_num k (by omega) (nb (fb a0) 64) T (ps.length : Int) _ 512 _ hs' s6 (by omega) (by omega) (by omega) (fun h => by have := z7 (nb_zero h); omega) d6
 obtain ⟨e8, d8, s8⟩ := dec_l0 k (by omega) T hs' ps _ [] _ s7 (by rw [List.length_nil]; omega) bp d7
 obtain ⟨e9, d9, s9⟩ := dec_num k (by omega) (nb (fb a0) 128) T (l.length : Int) _ 100 _ hs' s8 (by omega) (by omega) (by omega) (fun h => by have := z8 (nb_zero h); omega) d8
 obtain ⟨e10, d10, s10⟩ := dec_l1 k (by omega) T hs' l _ [] _ s9 (by rw [List.length_nil]; omega) bl d9
 have hend := congrArg List.length d10
 rw [List.length_drop, List.length_nil, len_eq] at hend
 show ((cmd_Decode_txt k (!nb (fb a0) 1) T ((0 + (num a0).size : Nat) : Int) 0 64).bind _) = _
 rw [e1, Option.bind_some]
 dsimp only
 rw [e2, Option.bind_some]
 dsimp only
 rw [e3, Option.bind_some]
 dsimp only
 rw [e4, Option.bind_some]
 dsimp only
 rw [e5, Option.bind_some]
 dsimp only
 rw [e6, Option.bind_some]
 dsimp only
 rw [e7, Option.bind_some]
 dsimp only
 rw [if_pos (by omega), Int.toNat_natCast, e8, Option.bind_some]
 dsimp only
 rw [e9, Option.bind_some]
 dsimp only
 rw [if_pos (by omega), Int.toNat_natCast, e10, Option.bind_some]
 dsimp only
 rw [List.nil_append, List.nil_append]
 have en : ∀ p : Nat, p = T.size → octet_Reader_End.f T (p : Int) 0 = some (0, T, (p : Int), 0) := by
  intro p hp; unfold octet_Reader_End.f; rw [if_pos rfl, if_neg (by omega)]
 rw [en _ (by omega), Option.bind_some]
 dsimp only
 rw [if_pos rfl, check_eq _ _ _ _ _ _ _ _ _ hs k hk, if_pos hc, Option.bind_some, if_pos rfl]
theorem one_txt (k : Nat) (hk : 30 ≤ k) (c : Bool) (s : ByteArray) (a : Nat) (e most : Int) (hs : s.size ≤ 1073741824) (ha : a ≤ s.size) (hm : 0 ≤ most) :
  ∃ (t : ByteArray) (m : Nat) (e' : Int), cmd_Decode_txt k (!c) s (a : Int) e most = some (t, s, (m : Int), e') ∧ m ≤ s.size ∧ (t.size : Int) ≤ most ∧ (e' = 0 → e = 0 ∧ s.data.toList.drop a = (ot c t).data.toList ++ s.data.toList.drop m) := by
 unfold cmd_Decode_txt
 cases c with
 | false => exact ⟨⟨#[]⟩, a, e, rfl, ha, hm, fun h => ⟨h, rfl⟩⟩
 | true =>
  rw [Bool.not_true, if_neg (by decide), oct_RText s a hs ha e most k hk]
  obtain ⟨h1, m, h2, h3, h4⟩ := xt_at s a ha e most hm
  refine ⟨(xt s a e most).1, m, (xt s a e most).2.2, by rw [h2], h4, h1, fun h => ?_⟩
  obtain ⟨g1, m', g2, g3, g4⟩ := xt_e s a e most h
  obtain rfl : m' = m := by rw [h2] at g2; omega
  exact ⟨g1, g4⟩
theorem one_num (k : Nat) (hk : 30 ≤ k) (c : Bool) (s : ByteArray) (a : Nat) (e most : Int) (hs : s.size ≤ 1073741824) (ha : a ≤ s.size) (hm : 0 ≤ most) (hM : most ≤ 9223372036854775807) :
  ∃ (n : Int) (m : Nat) (e' : Int), cmd_Decode_num k (!c) s (a : Int) e most = some (n, s, (m : Int), e') ∧ m ≤ s.size ∧ 0 ≤ n ∧ n ≤ most ∧ (e' = 0 → e = 0 ∧ s.data.toList.drop a = (on c n).data.toList ++ s.data.toList.drop m) := by
 unfold cmd_Decode_num
 cases c with
 | false => exact ⟨0, a, e, rfl, ha, by omega, hm, fun h => ⟨h, rfl⟩⟩
 | true =>
  rw [Bool.not_true, if_neg (by decide), oct_RInt s a hs ha e most hm hM k hk]
  obtain ⟨h0, h1, m, h2, h3, h4⟩ := xn_at s a ha e most hm
  refine ⟨(xn s a e most).1, m, (xn s a e most).2.2, by rw [h2], h4, h0, h1, fun h => ?_⟩
  obtain ⟨g1, m', g2, g3, g4⟩ := xn_e s a e most h
  obtain rfl : m' = m := by rw [h2] at g2; omega
  exact ⟨g1, g4⟩
theorem one_l0 (k : Nat) (hk : 30 ≤ k) (s : ByteArray) (hs : s.size ≤ 1073741824) : ∀ (n a : Nat) (e : Int) (acc : List Piece), a ≤ s.size → acc.length + n ≤ 1048576 →
  ∃ (l : List Piece) (m : Nat) (e' : Int), cmd_Decode_l0 k n s (a : Int) e acc = some (s, (m : Int), e', acc ++ l) ∧ l.length = n ∧ m ≤ s.size ∧ (∀ y ∈ l, y.f0.size ≤ 64) ∧ (e' = 0 → e = 0 ∧ s.data.toList.drop a = (tpB l).data.toList ++ s.data.toList.drop m)
 | 0, a, e, acc, ha, _ => ⟨[], a, e, by rw [cmd_Decode_l0, List.append_nil], rfl, ha, fun y hy => (by cases hy), fun h => ⟨h, rfl⟩⟩
 | n + 1, a, e, acc, ha, hn => by
  obtain ⟨t, m1, e1, g1, g2, g3, g4⟩ := one_txt k hk true s a e 64 hs ha (by omega)
  obtain ⟨v, m2, e2, i1, i2, i3, i4, i5⟩ := one_num k hk true s m1 e1 4096 hs g2 (by omega) (by omega)
  obtain ⟨l, m, e', j1, j2, j3, j4, j5⟩ := one_l0 k hk s hs n m2 e2 (acc ++ [⟨t, v⟩]) i2 (by rw [List.length_append, List.length_cons, List.length_nil]; omega)
  refine ⟨⟨t, v⟩ :: l, m, e', ?_, by rw [List.length_cons, j2], j3, ?_, fun h => ?_⟩
  ·
   have g1' : octet_Reader_Text.f k s (a : Int) e 64 = some (t, s, (m1 : Int), e1) := g1
   have i1' : octet_Reader_Int.f k s (m1 : Int) e1 4096 = some (v, s, (m2 : Int), e2) := i1
   rw [cmd_Decode_l0, g1', Option.bind_some]
   dsimp only
   rw [i1', Option.bind_some, if_pos (by omega)]
   dsimp only
   rw [j1, List.append_assoc]
   rfl
  ·
   intro y hy
   rcases List.mem_cons.1 hy with rfl | hy
   ·
    show t.size ≤ 64; omega
   ·
    exact j4 y hy
  ·
   obtain ⟨r1, r2⟩ := j5 h
   obtain ⟨r3, r4⟩ := i5 r1
   obtain ⟨r5, r6⟩ := g4 r3
   refine ⟨r5, ?_⟩
   rw [r6, r4, r2, tpB, al, al, List.append_assoc, List.append_assoc]
   rfl
theorem one_l1 (k : Nat) (hk : 30 ≤ k) (s : ByteArray) (hs : s.size ≤ 1073741824) : ∀ (n a : Nat) (e : Int) (acc : List Pick), a ≤ s.size → acc.length + n ≤ 1048576 →
  ∃ (l : List Pick) (m : Nat) (e' : Int), cmd_Decode_l1 k n s (a : Int) e acc = some (s, (m : Int), e', acc ++ l) ∧ l.length = n ∧ m ≤ s.size ∧ (∀ y ∈ l, y.f1.size ≤ 64) ∧ (e' = 0 → e = 0 ∧ s.data.toList.drop a = (tkB l).data.toList ++ s.data.toList.drop m)
 | 0, a, e, acc, ha, _ => ⟨[], a, e, by rw [cmd_Decode_l1, List.append_nil], rfl, ha, fun y hy => (by cases hy), fun h => ⟨h, rfl⟩⟩
 | n + 1, a, e, acc, ha, hn => by
  obtain ⟨v, m1, e1, g1, g2, g3, g4, g5⟩ := one_num k hk true s a e 100 hs ha (by omega) (by omega)
  obtain ⟨t, m2, e2, i1, i2, i3, i4⟩ := one_txt k hk true s m1 e1 64 hs g2 (by omega)
  obtain ⟨l, m, e', j1, j2, j3, j4, j5⟩ := one_l1 k hk s hs n m2 e2 (acc ++ [⟨v, t⟩]) i2 (by rw [List.length_append, List.length_cons, List.length_nil]; omega)
  refine ⟨⟨v, t⟩ :: l, m, e', ?_, by rw [List.length_cons, j2], j3, ?_, fun h => ?_⟩
  ·
   have g1' : octet_Reader_Int.f k s (a : Int) e 100 = some (v, s, (m1 : Int), e1) := g1
   have i1' : octet_Reader_Text.f k s (m1 : Int) e1 64 = some (t, s, (m2 : Int), e2) := i1
   rw [cmd_Decode_l1, g1', Option.bind_some]
   dsimp only
   rw [i1', Option.bind_some, if_pos (by omega)]
   dsimp only
   rw [j1, List.append_assoc]
   rfl
  ·
   intro y hy
   rcases List.mem_cons.1 hy with rfl | hy
   ·
    show t.size ≤ 64; omega
   ·
    exact j4 y hy
  ·
   obtain ⟨r1, r2⟩ := j5 h
   obtain ⟨r3, r4⟩ := i4 r1
   obtain ⟨r5, r6⟩ := g5 r3
   refine ⟨r5, ?_⟩
   rw [r6, r4, r2, tkB, al, al, List.append_assoc, List.append_assoc]
   rfl
theorem dec_only (s : ByteArray) (hs : s.size ≤ 1073741824) (k : Nat) (hk : 1073741828 ≤ k) :
  cmd_Decode.f k s = some cmd_Decode_none ∨ ∃ (a0 : Int) (a1 a2 a3 : ByteArray) (a4 a5 : Int) (a6 : ByteArray) (ps : List Piece) (l : List Pick), cmd_Decode.f k s = some (a0, a1, a2, a3, a4, a5, a6, ps, l, 0) ∧ CK a0 a1 a2 a3 a4 a5 a6 ps l ∧ SmallCmd a1 a2 a3 a6 ps l ∧ toldB a0 a1 a2 a3 a4 a5 a6 ps l = s := by
 rw [Decode_eq k (by omega) s hs]
 obtain ⟨n0, n1, m0, w1, w2, w3⟩ := xn_at s 0 (Nat.zero_le _) 0 10 (by omega)
 obtain ⟨K, hK⟩ : ∃ K, K = (xn s 0 0 10).1 := ⟨_, rfl⟩
 obtain ⟨E, hE⟩ : ∃ E, E = (xn s 0 0 10).2.2 := ⟨_, rfl⟩
 rw [w1, ← hK, ← hE]
 obtain ⟨a1, m1, e1, g1, h1, t1, c1⟩ := one_txt k (by omega) (nb (fb K) 1) s m0 E 64 hs w3 (by omega)
 obtain ⟨a2, m2, e2, g2, h2, t2, c2⟩ := one_txt k (by omega) (nb (fb K) 2) s m1 e1 63 hs h1 (by omega)
 obtain ⟨a3, m3, e3, g3, h3, t3, c3⟩ := one_txt k (by omega) (nb (fb K) 4) s m2 e2 1024 hs h2 (by omega)
 obtain ⟨a4, m4, e4, g4, h4, t4, u4, c4⟩ := one_num k (by omega) (nb (fb K) 8) s m3 e3 1099511627776 hs h3 (by omega) (by omega)
 obtain ⟨a5, m5, e5, g5, h5, t5, u5, c5⟩ := one_num k (by omega) (nb (fb K) 16) s m4 e4 100 hs h4 (by omega) (by omega)
 obtain ⟨a6, m6, e6, g6, h6, t6, c6⟩ := one_txt k (by omega) (nb (fb K) 32) s m5 e5 64 hs h5 (by omega)
 obtain ⟨n7, m7, e7, g7, h7, t7, u7, c7⟩ := one_num k (by omega) (nb (fb K) 64) s m6 e6 512 hs h6 (by omega) (by omega)
 obtain ⟨ps, m8, e8, g8, l8, h8, t8, c8⟩ := one_l0 k (by omega) s hs n7.toNat m7 e7 [] h7 (by rw [List.length_nil]; omega)
 obtain ⟨n9, m9, e9, g9, h9, t9, u9, c9⟩ := one_num k (by omega) (nb (fb K) 128) s m8 e8 100 hs h8 (by omega) (by omega)
 obtain ⟨l, mA, eA, gA, lA, hA, tA, cA⟩ := one_l1 k (by omega) s hs n9.toNat m9 e9 [] h9 (by rw [List.length_nil]; omega)
 rw [g1, Option.bind_some]
 dsimp only
 rw [g2, Option.bind_some]
 dsimp only
 rw [g3, Option.bind_some]
 dsimp only
 rw [g4, Option.bind_some]
 dsimp only
 rw [g5, Option.bind_some]
 dsimp only
 rw [g6, Option.bind_some]
 dsimp only
 rw [g7, Option.bind_some]
 dsimp only
 rw [if_pos u7, g8, Option.bind_some]
 dsimp only
 rw [g9, Option.bind_some]
 dsimp only
 rw [if_pos u9, gA, Option.bind_some]
 dsimp only
 rw [List.nil_append, List.nil_append]
 unfold octet_Reader_End.f
 by_cases z : eA = 0
 ·
  rw [if_pos z]
  by_cases y : (mA : Int) < (s.size : Int)
  ·
   rw [if_pos y, Option.bind_some]
   dsimp only
   rw [if_neg (by decide)]
   exact .inl rfl
  ·
   rw [if_neg y, Option.bind_some]
   dsimp only
   have sm : SmallCmd a1 a2 a3 a6 ps l := ⟨by omega, by omega, by omega, by omega, by omega, fun y hy => by have := t8 y hy; omega, by omega, fun y hy => by have := tA y hy; omega⟩
   rw [if_pos rfl, check_eq _ _ _ _ _ _ _ _ _ sm k hk, Option.bind_some]
   by_cases hc : CK K a1 a2 a3 a4 a5 a6 ps l
   ·
    rw [if_pos hc, if_pos rfl]
    refine .inr ⟨K, a1, a2, a3, a4, a5, a6, ps, l, rfl, hc, sm, ?_⟩
    obtain ⟨x9, yA⟩ := cA z
    obtain ⟨x8, y9⟩ := c9 x9
    obtain ⟨x7, y8⟩ := c8 x8
    obtain ⟨x6, y7⟩ := c7 x7
    obtain ⟨x5, y6⟩ := c6 x6
    obtain ⟨x4, y5⟩ := c5 x5
    obtain ⟨x3, y4⟩ := c4 x4
    obtain ⟨x2, y3⟩ := c3 x3
    obtain ⟨x1, y2⟩ := c2 x2
    obtain ⟨x0, y1⟩ := c1 x1
    rw [hE] at x0
    obtain ⟨-, m', v1, v2, v3⟩ := xn_e s 0 0 10 x0
    obtain rfl : m' = m0 := by rw [w1] at v1; omega
    rw [← hK, List.drop_zero] at v3
    apply list_ext
    have hm : mA = s.size := by omega
    rw [hm, List.drop_of_length_le (Nat.le_of_eq (len_eq s)), List.append_nil] at yA
    have p7 : ((ps.length : Nat) : Int) = n7 := by omega
    have p9 : ((l.length : Nat) : Int) = n9 := by omega
    unfold toldB
    rw [p7, p9]
    simp only [al, List.append_assoc]
    rw [v3, y1, y2, y3, y4, y5, y6, y7, y8, y9, yA]
   ·
    rw [if_neg hc, if_neg (by decide)]
    exact .inl rfl
 ·
  rw [if_neg z, Option.bind_some]
  dsimp only
  rw [if_neg z]
  exact .inl rfl
abbrev RPiece := S95
abbrev RPick := S61
theorem Piece_go (ps : List Piece) (hl : ps.length ≤ 1048576) : ∀ (n i k : Nat) (acc : List RPiece), i + n = ps.length → acc.length = i → n < k → ∃ q, stowagelaw13_Piece.l0 k ps acc (i : Int) = some q ∧ q.length = ps.length := by
 intro n
 induction n with
 | zero =>
  intro i k acc hn ha hk
  obtain ⟨k, rfl⟩ : ∃ j, k = j + 1 := ⟨k - 1, by omega⟩
  rw [stowagelaw13_Piece.l0, if_neg (by omega)]
  exact ⟨acc, rfl, by omega⟩
 | succ n ih =>
  intro i k acc hn ha hk
  obtain ⟨k, rfl⟩ : ∃ j, k = j + 1 := ⟨k - 1, by omega⟩
  rw [stowagelaw13_Piece.l0, if_pos (by omega), if_pos (by omega), if_pos (by omega), w1 i (by omega)]
  exact ih (i + 1) k _ (by omega) (by rw [List.length_append, ha]; rfl) (by omega)
theorem Ref_go (a0 : Int) (a1 a2 a3 : ByteArray) (a4 a5 : Int) (a6 : ByteArray) (ps : List Piece) (l : List Pick) (hp : ps.length ≤ 1048576) (hl : l.length ≤ 1048576) : ∀ (n i k : Nat) (acc : List RPick), i + n = l.length → acc.length = i → n + 1048578 < k → ∃ q1 q2, stowagelaw16_Ref.l0 k acc (i : Int) a0 a1 a2 a3 a4 a5 a6 ps l = some (a0, a1, a2, a3, a4, a5, a6, q1, q2) ∧ q1.length = ps.length ∧ q2.length = l.length := by
 intro n
 induction n with
 | zero =>
  intro i k acc hn ha hk
  obtain ⟨k, rfl⟩ : ∃ j, k = j + 1 := ⟨k - 1, by omega⟩
  obtain ⟨q, h1, h2⟩ := Piece_go ps hp ps.length 0 k [] (by omega) rfl (by omega)
  have h1' : stowagelaw13_Piece.f k ps = some q := h1
  rw [stowagelaw16_Ref.l0, if_neg (by omega), h1', Option.bind_some]
  exact ⟨q, acc, rfl, h2, by omega⟩
 | succ n ih =>
  intro i k acc hn ha hk
  obtain ⟨k, rfl⟩ : ∃ j, k = j + 1 := ⟨k - 1, by omega⟩
  rw [stowagelaw16_Ref.l0, if_pos (by omega), if_pos (by omega), if_pos (by omega), w1 i (by omega)]
  exact ih (i + 1) k _ (by omega) (by rw [List.length_append, ha]; rfl) (by omega)
theorem Ref_eq (a0 : Int) (a1 a2 a3 : ByteArray) (a4 a5 : Int) (a6 : ByteArray) (ps : List Piece) (l : List Pick) (hp : ps.length ≤ 1048576) (hl : l.length ≤ 1048576) (k : Nat) (hk : 2097160 ≤ k) : ∃ q1 q2, stowagelaw16_Ref.f k a0 a1 a2 a3 a4 a5 a6 ps l = some (a0, a1, a2, a3, a4, a5, a6, q1, q2) ∧ q1.length = ps.length ∧ q2.length = l.length :=
 Ref_go a0 a1 a2 a3 a4 a5 a6 ps l hp hl l.length 0 k [] (by omega) rfl (by omega)
theorem Same_l1 (a0 : Int) (a1 a2 a3 : ByteArray) (a4 a5 : Int) (a6 : ByteArray) (ps : List RPiece) (l : List RPick) (hl : l.length ≤ 1048576) : ∀ (n i k : Nat), i + n = l.length → n < k → stowageref16_Same.l1 k (i : Int) a0 a1 a2 a3 a4 a5 a6 ps l a0 a1 a2 a3 a4 a5 a6 ps l = some true := by
 intro n
 induction n with
 | zero =>
  intro i k hn hk
  obtain ⟨k, rfl⟩ : ∃ j, k = j + 1 := ⟨k - 1, by omega⟩
  rw [stowageref16_Same.l1, if_neg (by omega)]
 | succ n ih =>
  intro i k hn hk
  obtain ⟨k, rfl⟩ : ∃ j, k = j + 1 := ⟨k - 1, by omega⟩
  rw [stowageref16_Same.l1, if_pos (by omega), if_pos (by omega), if_pos (by omega), if_neg (by simp), w1 i (by omega)]
  exact ih (i + 1) k (by omega) (by omega)
theorem Same_l0 (a0 : Int) (a1 a2 a3 : ByteArray) (a4 a5 : Int) (a6 : ByteArray) (ps : List RPiece) (l : List RPick) (hp : ps.length ≤ 1048576) (hl : l.length ≤ 1048576) : ∀ (n i k : Nat), i + n = ps.length → n + 1048578 < k → stowageref16_Same.l0 k (i : Int) a0 a1 a2 a3 a4 a5 a6 ps l a0 a1 a2 a3 a4 a5 a6 ps l = some true := by
 intro n
 induction n with
 | zero =>
  intro i k hn hk
  obtain ⟨k, rfl⟩ : ∃ j, k = j + 1 := ⟨k - 1, by omega⟩
  rw [stowageref16_Same.l0, if_neg (by omega)]
  exact Same_l1 a0 a1 a2 a3 a4 a5 a6 ps l hl l.length 0 k (by omega) (by omega)
 | succ n ih =>
  intro i k hn hk
  obtain ⟨k, rfl⟩ : ∃ j, k = j + 1 := ⟨k - 1, by omega⟩
  rw [stowageref16_Same.l0, if_pos (by omega), if_pos (by omega), if_pos (by omega), if_neg (by simp), w1 i (by omega)]
  exact ih (i + 1) k (by omega) (by omega)
theorem Same_self (a0 : Int) (a1 a2 a3 : ByteArray) (a4 a5 : Int) (a6 : ByteArray) (ps : List RPiece) (l : List RPick) (hp : ps.length ≤ 1048576) (hl : l.length ≤ 1048576) (k : Nat) (hk : 2097160 ≤ k) : stowageref16_Same.f k a0 a1 a2 a3 a4 a5 a6 ps l a0 a1 a2 a3 a4 a5 a6 ps l = some true := by
 unfold stowageref16_Same.f
 rw [if_pos rfl, if_pos rfl, if_pos rfl, if_pos rfl, if_pos rfl, if_pos rfl, if_pos rfl, if_pos rfl]
 obtain ⟨k, rfl⟩ : ∃ j, k = j + 1 := ⟨k - 1, by omega⟩
 rw [stowageref16_Same.j0, if_neg (by simp)]
 exact Same_l0 a0 a1 a2 a3 a4 a5 a6 ps l hp hl ps.length 0 k (by omega) (by omega)
theorem Encode_eq (a0 : Int) (a1 a2 a3 : ByteArray) (a4 a5 : Int) (a6 : ByteArray) (ps : List Piece) (l : List Pick) (h : SmallCmd a1 a2 a3 a6 ps l) (k : Nat) (hk : 1073741828 ≤ k) :
  cmd_Encode.f k a0 a1 a2 a3 a4 a5 a6 ps l = some (if CK a0 a1 a2 a3 a4 a5 a6 ps l then (toldB a0 a1 a2 a3 a4 a5 a6 ps l, 0) else ((⟨#[]⟩ : ByteArray), 1)) := by
 unfold cmd_Encode.f
 rw [check_eq _ _ _ _ _ _ _ _ _ h k hk]
 by_cases hc : CK a0 a1 a2 a3 a4 a5 a6 ps l
 ·
  rw [if_pos hc, if_pos hc, Option.bind_some, if_pos rfl, (told_eq (CK_bd hc) k (by omega)).1, Option.bind_some]
 ·
  rw [if_neg hc, if_neg hc, Option.bind_some, if_neg (by decide)]
theorem CmdBack_F2 (s : ByteArray) (hs : s.size ≤ 1073741824) (k : Nat) (hk : 1073741828 ≤ k) : stowagelaw16_CmdBack.F2 k s := by
 unfold stowagelaw16_CmdBack.F2
 rcases dec_only s hs k hk with h | ⟨a0, a1, a2, a3, a4, a5, a6, ps, l, h, hc, sm, ht⟩
 ·
  exact ⟨_, _, _, _, _, _, _, _, _, _, h, fun _ => awake_true k (by omega), fun h => absurd h (by decide)⟩
 ·
  refine ⟨_, _, _, _, _, _, _, _, _, _, h, fun h => absurd rfl h, fun _ => ⟨toldB a0 a1 a2 a3 a4 a5 a6 ps l, ?_, awake_true k (by omega), by rw [ht]⟩⟩
  rw [Encode_eq _ _ _ _ _ _ _ _ _ sm k hk, if_pos hc]
theorem CmdBack_F1 (a0 : Int) (a1 a2 a3 : ByteArray) (a4 a5 : Int) (a6 : ByteArray) (ps : List Piece) (l : List Pick) (h : SmallCmd a1 a2 a3 a6 ps l) (k : Nat) (hk : 1073741828 ≤ k) : stowagelaw16_CmdBack.F1 k a0 a1 a2 a3 a4 a5 a6 ps l := by
 unfold stowagelaw16_CmdBack.F1
 rw [Encode_eq _ _ _ _ _ _ _ _ _ h k hk]
 by_cases hc : CK a0 a1 a2 a3 a4 a5 a6 ps l
 ·
  rw [if_pos hc]
  refine ⟨_, _, rfl, fun _ => ⟨_, _, _, _, _, _, _, _, _, dec_back hc h k hk, ?_⟩⟩
  obtain ⟨q1, q2, g1, g2, g3⟩ := Ref_eq a0 a1 a2 a3 a4 a5 a6 ps l h.hp h.hl k (by omega)
  exact ⟨_, _, _, _, _, _, _, _, _, _, _, _, _, _, _, _, _, _, g1, g1, Same_self a0 a1 a2 a3 a4 a5 a6 q1 q2 (by have := h.hp; omega) (by have := h.hl; omega) k (by omega)⟩
 ·
  rw [if_neg hc]
  exact ⟨_, _, rfl, fun h => absurd h (by decide)⟩
theorem CmdBack_true (a0 : Int) (a1 a2 a3 : ByteArray) (a4 a5 : Int) (a6 : ByteArray) (ps : List Piece) (l : List Pick) (s : ByteArray) (h : SmallCmd a1 a2 a3 a6 ps l) (hs : s.size ≤ 1073741824) : ∃ k, stowagelaw16_CmdBack.f k a0 a1 a2 a3 a4 a5 a6 ps l s = some true := by
 refine ⟨1073741828, ?_⟩
 unfold stowagelaw16_CmdBack.f
 rw [if_pos ⟨CmdBack_F1 a0 a1 a2 a3 a4 a5 a6 ps l h _ (Nat.le_refl _), CmdBack_F2 s hs _ (Nat.le_refl _)⟩]
end Go.Proofs.YtdidopoalmkhlaaDoor.Pure
end
section
namespace Go.Proofs.YtdidopoalmkhlaaDoor.KO
open Go Go.RowKit Go.Proofs.YtdidopoalmkhlaaDoorW.PrintWords Go.Proofs.YtdidopoalmkhlaaDoor.Ob 
theorem opensPiece : Opens Tryd.prog 82 k82 (fun y => y.f0.size ≤ reachBytes ∧ (Lit.int .i64 y.f1).wf = true) (fun y => ((y.f0.size + 1) + 1) + 1) :=
 opens_struct (fun x : S82 => (x.f0, x.f1)) (fun p => ⟨p.1, p.2⟩) (fun _ => rfl) Tryd.underlying82
  (opens_cons (off' := 1) rfl (opens_string Tryd.underlying9) (by kernel_rfl) (opens_last rfl (opens_int Tryd.underlying3) (by kernel_rfl)))
theorem opensPieces : Opens Tryd.prog 22 (Kd.slice 82 k82) (fun ys => ys.length * 24 ≤ reachBytes ∧ ∀ y ∈ ys, y.f0.size ≤ reachBytes ∧ (Lit.int .i64 y.f1).wf = true) (fun ys => (ys.map fun y => ((y.f0.size + 1) + 1) + 1).sum + 1) :=
 opens_slice Tryd.underlying22 opensPiece (by kernel_rfl) (by kernel_rfl)
theorem opensPick : Opens Tryd.prog 62 k62 (fun y => (Lit.int .i64 y.f0).wf = true ∧ y.f1.size ≤ reachBytes) (fun y => (1 + (y.f1.size + 1)) + 1) :=
 opens_struct (fun x : S62 => (x.f0, x.f1)) (fun p => ⟨p.1, p.2⟩) (fun _ => rfl) Tryd.underlying62
  (opens_cons (off' := 1) rfl (opens_int Tryd.underlying3) (by kernel_rfl) (opens_last rfl (opens_string Tryd.underlying9) (by kernel_rfl)))
theorem opensPicks : Opens Tryd.prog 23 (Kd.slice 62 k62) (fun ys => ys.length * 24 ≤ reachBytes ∧ ∀ y ∈ ys, (Lit.int .i64 y.f0).wf = true ∧ y.f1.size ≤ reachBytes) (fun ys => (ys.map fun y => (1 + (y.f1.size + 1)) + 1).sum + 1) :=
 opens_slice Tryd.underlying23 opensPick (by kernel_rfl) (by kernel_rfl)
structure Cmd where
 f0 : Int
 f1 : ByteArray
 f2 : ByteArray
 f3 : ByteArray
 f4 : Int
 f5 : Int
 f6 : ByteArray
 f7 : List S82
 f8 : List S62
def kCmd : Kd Cmd := Kd.iso (Kd.pair (Kd.int .i64) (Kd.pair Kd.string (Kd.pair Kd.string (Kd.pair Kd.string (Kd.pair (Kd.int .i64) (Kd.pair (Kd.int .i64) (Kd.pair Kd.string (Kd.pair (Kd.slice 82 k82) (Kd.slice 62 k62))))))))) (fun x : Cmd => (x.f0, x.f1, x.f2, x.f3, x.f4, x.f5, x.f6, x.f7, x.f8))
theorem kCmd_open {w : World} {x : Cmd} {cs : List Value} (h : kCmd.K w x cs) : ∃ (A7 : Option Addr) (c7 : Nat) (A8 : Option Addr) (c8 : Nat), cs = [.int .i64 x.f0, .string x.f1, .string x.f2, .string x.f3, .int .i64 x.f4, .int .i64 x.f5, .string x.f6, .slice A7 x.f7.length c7, .slice A8 x.f8.length c8] ∧ x.f7.length ≤ c7 ∧ Kd.C k82 w A7 x.f7.length x.f7 ∧ x.f8.length ≤ c8 ∧ Kd.C k62 w A8 x.f8.length x.f8 := by
 obtain ⟨_, _, rfl, rfl, _, _, rfl, rfl, _, _, rfl, rfl, _, _, rfl, rfl, _, _, rfl, rfl, _, _, rfl, rfl, _, _, rfl, rfl, _, _, rfl, h7, h8⟩ := h
 obtain ⟨A7, c7, rfl, hl7, g7⟩ := h7
 obtain ⟨A8, c8, rfl, hl8, g8⟩ := h8
 exact ⟨A7, c7, A8, c8, rfl, hl7, g7, hl8, g8⟩
theorem opensCmd : Opens Tryd.prog 25 kCmd (fun y => (Lit.int .i64 y.f0).wf = true ∧ y.f1.size ≤ reachBytes ∧ y.f2.size ≤ reachBytes ∧ y.f3.size ≤ reachBytes ∧ (Lit.int .i64 y.f4).wf = true ∧ (Lit.int .i64 y.f5).wf = true ∧ y.f6.size ≤ reachBytes ∧ (y.f7.length * 24 ≤ reachBytes ∧ ∀ z ∈ y.f7, z.f0.size ≤ reachBytes ∧ (Lit.int .i64 z.f1).wf = true) ∧ (y.f8.length * 24 ≤ reachBytes ∧ ∀ z ∈ y.f8, (Lit.int .i64 z.f0).wf = true ∧ z.f1.size ≤ reachBytes))
  (fun y => (1 + ((y.f1.size + 1) + ((y.f2.size + 1) + ((y.f3.size + 1) + (1 + (1 + ((y.f6.size + 1) + (((y.f7.map fun z => ((z.f0.size + 1) + 1) + 1).sum + 1) + ((y.f8.map fun z => (1 + (z.f1.size + 1)) + 1).sum + 1))))))))) + 1) :=
 opens_struct (fun x : Cmd => (x.f0, x.f1, x.f2, x.f3, x.f4, x.f5, x.f6, x.f7, x.f8)) (fun p => ⟨p.1, p.2.1, p.2.2.1, p.2.2.2.1, p.2.2.2.2.1, p.2.2.2.2.2.1, p.2.2.2.2.2.2.1, p.2.2.2.2.2.2.2.1, p.2.2.2.2.2.2.2.2⟩) (fun _ => rfl) Tryd.underlying25
  (opens_cons (off' := 1) rfl (opens_int Tryd.underlying3) (by kernel_rfl) (opens_cons (off' := 2) rfl (opens_string Tryd.underlying9) (by kernel_rfl) (opens_cons (off' := 3) rfl (opens_string Tryd.underlying9) (by kernel_rfl) (opens_cons (off' := 4) rfl (opens_string Tryd.underlying9) (by kernel_rfl) (opens_cons (off' := 5) rfl (opens_int Tryd.underlying3) (by kernel_rfl) (opens_cons (off' := 6) rfl (opens_int Tryd.underlying3) (by kernel_rfl) (opens_cons (off' := 7) rfl (opens_string Tryd.underlying9) (by kernel_rfl) (opens_cons (off' := 8) rfl opensPieces (by kernel_rfl) (opens_last rfl opensPicks (by kernel_rfl)))))))))) 
theorem sum_ge {α : Type} (f : α → Nat) (hf : ∀ y, 1 ≤ f y) : ∀ l : List α, l.length ≤ (l.map f).sum ∧ ∀ y ∈ l, f y ≤ (l.map f).sum
 | [] => ⟨Nat.le_refl _, fun y hy => by cases hy⟩
 | z :: l => by
  obtain ⟨h1, h2⟩ := sum_ge f hf l
  have := hf z
  rw [List.map_cons, List.sum_cons]
  refine ⟨by rw [List.length_cons]; omega, fun y hy => ?_⟩
  rcases List.mem_cons.1 hy with rfl | hy
  ·
   omega
  ·
   have := h2 y hy; omega
theorem small_cmd (y : Cmd) {B : Nat} (h : (1 + ((y.f1.size + 1) + ((y.f2.size + 1) + ((y.f3.size + 1) + (1 + (1 + ((y.f6.size + 1) + (((y.f7.map fun z => ((z.f0.size + 1) + 1) + 1).sum + 1) + ((y.f8.map fun z => (1 + (z.f1.size + 1)) + 1).sum + 1))))))))) + 1 ≤ B) (hB : B ≤ 1048576) : Pure.SmallCmd y.f1 y.f2 y.f3 y.f6 y.f7 y.f8 := by
 obtain ⟨h1, h2⟩ := sum_ge (fun z : Pure.Piece => ((z.f0.size + 1) + 1) + 1) (fun z => by omega) y.f7
 obtain ⟨h3, h4⟩ := sum_ge (fun z : Pure.Pick => (1 + (z.f1.size + 1)) + 1) (fun z => by omega) y.f8
 generalize (y.f7.map fun z : Pure.Piece => ((z.f0.size + 1) + 1) + 1).sum = X at h h1 h2
 generalize (y.f8.map fun z : Pure.Pick => (1 + (z.f1.size + 1)) + 1).sum = Y at h h3 h4
 exact ⟨by omega, by omega, by omega, by omega, by omega, fun z hz => by have := h2 z hz; omega, by omega, fun z hz => by have := h4 z hz; omega⟩
end Go.Proofs.YtdidopoalmkhlaaDoor.KO
end
section
/- CmdBack, second form: what is told is read again: a command from its text, and a text in one form alone. Its conditions: those of the given card. -/
namespace Go.Proofs.YtdidopoalmkhlaaDoor.cmdBack
open Go.ChangeShapes Go.WideShapes Go.ChangeAt Go.RowKit Go.Proofs.YtdidopoalmkhlaaDoor.Ob Go.Proofs.YtdidopoalmkhlaaDoorW.PrintWords
open Go.ChangeMaps (open_string shut_string)
set_option linter.unusedVariables false
set_option linter.unusedSimpArgs false
theorem own : ownKnob Tryd.prog.godebug = none := by kernel_rfl
theorem laidOut : laidOutB Tryd.prog = true := by kernel_rfl
set_option maxRecDepth 100000 in
/-- What the walk gives, for every argument and every world: the same for both forms. -/
theorem contract (H : Type) (enc : TypeId × Value → H) (W : World) (base : Nat) (args : Array Value) (ds gs : List (DataW H)) (before : List MemPlace)
  (hval : ∀ (j : Nat) t v, Tryd.f5.params[j]? = some t → args[j]? = some v → Value.okWide Tryd.prog W .any base t v)
  (hW : DataW.Whole enc Tryd.prog Tryd.f5.params.toList Rows.cmdBackSpec.vars false W args.toList ds gs before)
  (hsz : (DataW.weightsEach Tryd.prog (Tryd.f5.params.toList ++ (OpenSpec.ofChange Rows.cmdBackSpec).bare.plain.varTypes Tryd.prog) (ds ++ gs)).all (· ≤ reachBytes) = true) (hcond : ∀ k, (Rows.OpenSpec.upto Rows.cmdBackSpec).cond = some k → k H (ds ++ gs) = true) (hG : GG W) :
  Calls Tryd.prog 5 args W fun e W' => ∃ v, e = .returned v ∧ Rows.cmdBackSpec.post enc Tryd.prog Tryd.f5 false true false false W args v W' := by
 have hW' := hW
 obtain ⟨p, q, hA0, hV, rfl, hfz, hnd⟩ := hW
 have hA : DataW.TrodAll enc Tryd.prog W 0 (fun _ => true) true Tryd.f5.params.toList args.toList ds p := hA0
 rw [Tryd.params5] at hA hval hsz
 obtain ⟨v0, vs0, d0, ds0, p0, q0, hargs, rfl, rfl, h0, r0⟩ := trodAll_cons hA
 obtain ⟨v1, vs1, d1, ds1, p1, q1, rfl, rfl, rfl, h1, r1⟩ := trodAll_cons r0
 obtain ⟨rfl, rfl, rfl⟩ := trodAll_nil r1
 obtain rfl : args = #[v0, v1] := by cases args; simp_all
 obtain ⟨rfl, rfl⟩ := trodVars_none hV
 have k0 := h0
 have lt0 : ∀ x ∈ p0, x.block < W.heap.size := by obtain ⟨m, hm⟩ := k0; exact DataW.trod_lt m _ _ _ hm
 obtain ⟨fuel0, hf0⟩ := h0
 obtain ⟨x0, hK0, wt0, bk0⟩ := (KO.opensCmd).out enc W _ _ _ fuel0 _ _ hf0
 have hc0 := KO.kCmd_open hK0
 obtain ⟨A0_7, c0_7, A0_8, c0_8, hc0, hcap0_7, hr0_7, hcap0_8, hr0_8⟩ := hc0
 obtain rfl : v0 = .agg #[.int .i64 x0.f0, .string x0.f1, .string x0.f2, .string x0.f3, .int .i64 x0.f4, .int .i64 x0.f5, .string x0.f6, .slice A0_7 x0.f7.length c0_7, .slice A0_8 x0.f8.length c0_8] := by cases v0 <;> simp [Value.cells] at hc0 ⊢ <;> first | exact Array.ext' hc0 | (rename_i xs; exact Array.ext' hc0) | (cases hc0)
 obtain ⟨a1, rfl, rfl, rfl, y1⟩ := open_string Tryd.underlying9 (hval 1 9 v1 rfl rfl) h1
 have hup := hcond _ rfl
 simp only [Rows.uptoSmall, decide_eq_true_eq, List.cons_append, List.nil_append, Rows.uptoBulkAll, Rows.uptoBulk] at hup
 have e1 := Array.length_toList (xs := a1.data)
 have g1 : a1.data.size = a1.size := rfl
 have hb0 : (1 + ((x0.f1.size + 1) + ((x0.f2.size + 1) + ((x0.f3.size + 1) + (1 + (1 + ((x0.f6.size + 1) + (((x0.f7.map fun z => ((z.f0.size + 1) + 1) + 1).sum + 1) + ((x0.f8.map fun z => (1 + (z.f1.size + 1)) + 1).sum + 1))))))))) + 1 ≤ Rows.uptoBulk d0 := bk0
 have hs0 := KO.small_cmd x0 hb0 (by omega)
 obtain ⟨k, hk⟩ := Pure.CmdBack_true x0.f0 x0.f1 x0.f2 x0.f3 x0.f4 x0.f5 x0.f6 x0.f7 x0.f8 a1 hs0 (by omega)
 refine (stowagelaw16_CmdBack.calls k x0.f0 x0.f1 x0.f2 x0.f3 x0.f4 x0.f5 x0.f6 _ _ x0.f7 _ _ x0.f8 a1 true W hr0_7 hcap0_7 hr0_8 hcap0_8 hk hG).mono fun e W' ⟨he, bel⟩ => ?_
 subst he
 exact ⟨_, rfl, _, _, _, [], _, [], hW', trodAll_mk1 (shut_bool Tryd.underlying4 _), (trodAll_cons_mk (Below.trod laidOut (by kernel_rfl) (of_decide_eq_true (by kernel_rfl)) k0 bel lt0) (trodAll_cons_mk (shut_string Tryd.underlying9 y1) trodAll_mk0)), rfl, bel.frame _, fun h => by cases h⟩
/-- The cells of a datum without pointers. -/
def flat : DataW Unit → List Value
 | .lit (.int k n) => [.int k n]
 | .agg xs => flats xs
 | _ => []
where flats : List (DataW Unit) → List Value
 | [] => []
 | x :: xs => flat x ++ flats xs
def put (cs : List Value) : Obj → Obj
 | .cells _ t z => .cells cs.toArray t z
 | ob => ob
/-- A world for the witness: the listed tables hold what their text lays. -/
noncomputable def laidWorld (os : Os) : World :=
 { World.holding Tryd.prog os ⟨#[], #[], []⟩ with heap := Rows.cmdBackUptoRow.laid.foldl (fun h x => match Tryd.prog.globalNamed x.1 with | some g => h.modify g (put (flat x.2)) | none => h) (World.holding Tryd.prog os ⟨#[], #[], []⟩).heap }
theorem laid_met (os : Os) : laidMet Tryd.prog Rows.cmdBackUptoRow.laid ((laidWorld os).forCall (fun _ _ => 0) ⟨#[], #[.agg #[.int .i64 0, .string ByteArray.empty, .string ByteArray.empty, .string ByteArray.empty, .int .i64 0, .int .i64 0, .string ByteArray.empty, .slice none 0 0, .slice none 0 0], .string ByteArray.empty], []⟩).memory :=
 laidMet_of_run3 8 (by kernel_rfl) (by kernel_rfl) (by kernel_rfl)
theorem reads (os : Os) {H : Type} (enc : TypeId × Value → H) : ∃ places, DataW.whole enc Tryd.prog ((laidWorld os).forCall (fun _ _ => 0) ⟨#[], #[.agg #[.int .i64 0, .string ByteArray.empty, .string ByteArray.empty, .string ByteArray.empty, .int .i64 0, .int .i64 0, .string ByteArray.empty, .slice none 0 0, .slice none 0 0], .string ByteArray.empty], []⟩).memory Tryd.f5.params.toList Rows.cmdBackSpec.vars false (#[.agg #[.int .i64 0, .string ByteArray.empty, .string ByteArray.empty, .string ByteArray.empty, .int .i64 0, .int .i64 0, .string ByteArray.empty, .slice none 0 0, .slice none 0 0], .string ByteArray.empty] : Array Value).toList 8 = some ([.agg [.lit (.int .i64 0), .lit (.string []), .lit (.string []), .lit (.string []), .lit (.int .i64 0), .lit (.int .i64 0), .lit (.string []), .nil, .nil], .lit (.string [])], [], places) :=
 ⟨[], by kernel_rfl⟩
set_option maxRecDepth 100000 in
theorem lifted (os : Os) (started : os.Started) (H : Type) (enc : TypeId × Value → H) (F : Stop.Interp) :
  ReturnsInHanded {} Tryd.checked os 5 .any ((Rows.OpenSpec.upto Rows.cmdBackSpec).preRow enc Tryd.prog Tryd.f5 Rows.cmdBackUptoRow.domain false Rows.cmdBackUptoRow.laid) (((Rows.OpenSpec.upto Rows.cmdBackSpec).at F).post enc Tryd.prog Tryd.f5 false true false false) := by
 obtain ⟨places, hx⟩ := reads os enc
 refine returnsInHanded_of_row (C := Tryd.checked) (s := (Rows.OpenSpec.upto Rows.cmdBackSpec)) own started (by kernel_rfl) Tryd.func5
  (witness_row_at (enc := enc) (C := Tryd.checked) false (laidWorld os) #[.agg #[.int .i64 0, .string ByteArray.empty, .string ByteArray.empty, .string ByteArray.empty, .int .i64 0, .int .i64 0, .string ByteArray.empty, .slice none 0 0, .slice none 0 0], .string ByteArray.empty] rfl (by kernel_rfl) (by kernel_rfl) (by kernel_rfl)
   (OpenSpec.preRow_of_cond 8 hx (by kernel_rfl) (fun k hk => by cases hk; kernel_rfl) (by kernel_rfl) (laid_met os))) ?_
 intro W base args ds gs before hval hW _ hcond hsz hlaid hsh _
 exact contract H enc W base args ds gs before hval hW hsz hcond ⟨KO.table_of_laid hlaid, (Go.Proofs.cell_of_shapedOpen_int (zero := #[.int .i64 0]) (t := 3) hsh (of_decide_eq_true (by kernel_rfl)) (by kernel_rfl) rfl (by kernel_rfl) (by kernel_rfl) Tryd.underlying3)⟩
theorem said : Rows.CmdBackUptoSaid :=
 OpenClaim.holds_of_cond 5 Tryd.f5 rfl rfl rfl rfl rfl rfl rfl ⟨rfl, rfl, rfl, rfl, rfl⟩ rfl rfl rfl rfl rfl (by kernel_rfl) Tryd.func5 (by kernel_rfl)
  (of_decide_eq_true (by kernel_rfl)) (by unfold Func.isWrapper; first | (rw [if_pos (by decide +kernel)]; kernel_rfl) | (rw [if_neg (by decide +kernel)]; exact ⟨rfl, rfl⟩))
  (fun os started H enc _ F => by rw [OpenClaim.pre_eq_preRow]; exact lifted os started H enc F)
/-- No parameter wants a stand-in; the program's own looks are off: what the card asks. -/
theorem plain (f : FuncId) (fn : Func) (hf : Tryd.pinned.checked.prog.funcNamed "stowage/stowagelaw16.CmdBack" = some f) (hfn : Tryd.pinned.checked.prog.funcs[f]? = some fn) :
  false = Tryd.pinned.checked.prog.looks [] ∧ ∀ (j : Nat) t, fn.params[j]? = some t → Tryd.pinned.checked.prog.wantsStandIn t = false := by
 obtain rfl : f = 5 := Option.some.inj ((show Tryd.prog.funcNamed "stowage/stowagelaw16.CmdBack" = some 5 by kernel_rfl).symm.trans hf) |>.symm
 obtain rfl : fn = Tryd.f5 := (Option.some.inj (Tryd.func5.symm.trans hfn)).symm
 refine ⟨by kernel_rfl, fun j t ht => ?_⟩
 rw [Tryd.params5] at ht
 have hm := Array.mem_of_getElem? ht
 simp only [List.mem_toArray, List.mem_cons, List.not_mem_nil, or_false] at hm
 rcases hm with rfl | rfl
 ·
  exact (show Tryd.prog.wantsStandIn 25 = false by kernel_rfl)
 ·
  exact (show Tryd.prog.wantsStandIn 9 = false by kernel_rfl)
/-- The card. -/
theorem card : Rows.CmdBackUptoCardSaid :=
 Claim7.holds_tied_plain_at .later [] _ _ _ _ said (fun _ h => by cases h) (by kernel_rfl) (fun _ h => by cases h) cmdBackUpto_row_tie rfl ⟨rfl, rfl⟩ (by kernel_rfl) rfl plain (by kernel_rfl)
end Go.Proofs.YtdidopoalmkhlaaDoor.cmdBack
namespace Go.Proofs.YtdidopoalmkhlaaDoor
theorem cmdBack_cardUpto : Rows.CmdBackUptoCardSaid := cmdBack.card
end Go.Proofs.YtdidopoalmkhlaaDoor
end
