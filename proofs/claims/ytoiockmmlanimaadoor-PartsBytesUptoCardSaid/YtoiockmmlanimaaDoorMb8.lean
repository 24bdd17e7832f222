/- Merged of several texts of this session's by merge.py. -/
import Derived.Test.YtoiockmmlanimaaDoorMb7
import Derived.KernelRfl
import Derived.ProofKit
import Derived.LaidMore
import Derived.OpenShut
import Derived.Test.YtoiockmmlanimaaDoorRows
import Derived.Test.YtoiockmmlanimaaDoorMb3
import Derived.Test.YtoiockmmlanimaaDoorCards
import Derived.Test.YtoiockmmlanimaaDoorTie
import Derived.WalkKit
import Derived.Below
import Derived.Carry
import Derived.Deep.DeepHandedRow
import Derived.Deep.DeepLaidRun
import Derived.Test.YtoiockmmlanimaaDoorMb2
import Derived.HandedShaped
section
namespace Go.Proofs.YtoiockmmlanimaaDoor.Pure
open Go.RowKit Go.Proofs.YtoiockmmlanimaaDoor.Ob Go.Proofs.YtoiockmmlanimaaDoorW.PrintWords Go.Proofs.YtoiockmmlanimaaDoorW.PrintLast Go.Proofs.YtoiockmmlanimaaDoorW.PrintMore
set_option linter.unusedVariables false
set_option linter.unusedSimpArgs false
theorem D_size {a : ByteArray} (h : D a = true) : a.size = 64 := by
 unfold D at h
 rw [Bool.and_eq_true, decide_eq_true_eq] at h
 exact h.2
theorem pcs_all : ∀ (l : List Piece) (s : Int), (pcs l s).2 = 0 → ∀ y ∈ l, y.f0.size = 64 ∧ 1 ≤ y.f1 ∧ y.f1 ≤ 4096
 | [], _, _ => fun y hy => by cases hy
 | z :: l, s, h => by
  rw [pcs] at h
  by_cases hc : D z.f0 = true ∧ 1 ≤ z.f1 ∧ z.f1 ≤ 4096
  ·
   rw [if_pos hc] at h
   intro y hy
   rcases List.mem_cons.1 hy with rfl | hy
   ·
    exact ⟨D_size hc.1, hc.2⟩
   ·
    exact pcs_all l _ h y hy
  ·
   rw [if_neg hc] at h
   exact absurd h (by decide)
structure Fine (p : Part) : Prop where
 n1 : 1 ≤ p.f0
 n2 : p.f0 ≤ 100
 len : p.f3.length ≤ 512
 pcs : ∀ y ∈ p.f3, y.f0.size = 64 ∧ 1 ≤ y.f1 ∧ y.f1 ≤ 4096
 sum : p.f2.size = 64
 size : (Pc p.f3).1 = p.f1
theorem fine_of {p : Part} (h : chk p = true) : Fine p := by
 obtain ⟨h1, h2, h3, h4, h5⟩ := chk_parts h
 have h6 : p.f3.length ≤ 512 := by
  unfold Pc at h3
  split at h3
  ·
   exact absurd h3 (by decide)
  ·
   omega
 refine ⟨h1, h2, h6, ?_, D_size h5, h4⟩
 unfold Pc at h3
 rw [if_neg (by omega)] at h3
 exact pcs_all _ _ h3
theorem good_len {l : List Part} (h : Good l) : l.length ≤ 100 := by
 have H : ∀ i, i < l.length → (i : Int) + 1 ≤ (rdP l i).f0 := by
  intro i
  induction i with
  | zero =>
   intro hi
   have := (chk_parts (h.chk _ (memP l 0 hi))).1
   omega
  | succ i ih =>
   intro hi
   have h1 := ih (by omega)
   have h2 := h.lt i (i + 1) (by omega) hi
   omega
 rcases Nat.lt_or_ge 100 l.length with hl | hl
 ·
  have h1 := H 100 hl
  have h2 := (chk_parts (h.chk _ (memP l 100 hl))).2.1
  omega
 ·
  exact hl
def pcB : List Piece → ByteArray
 | [] => ⟨#[]⟩
 | y :: r => (txt y.f0 ++ num y.f1) ++ pcB r
def entB (p : Part) : ByteArray := (num p.f0 ++ (num (p.f3.length : Int) ++ pcB p.f3)) ++ txt p.f2
def allB : List Part → ByteArray
 | [] => ⟨#[]⟩
 | p :: r => entB p ++ allB r
def encS (l : List Part) : ByteArray := num (l.length : Int) ++ allB l
theorem ba_nil (x : ByteArray) : x ++ (⟨#[]⟩ : ByteArray) = x := by
 apply ByteArray.ext
 rw [ByteArray.data_append]
 simp
theorem pcB_size : ∀ (r : List Piece), (∀ y ∈ r, y.f0.size = 64 ∧ 1 ≤ y.f1 ∧ y.f1 ≤ 4096) → (pcB r).size ≤ 84 * r.length
 | [], _ => Nat.le_refl _
 | y :: r, h => by
  have h1 := pcB_size r (fun z hz => h z (List.mem_cons_of_mem _ hz))
  have h2 := txt_size y.f0
  have h3 := num_size y.f1
  have h4 := (h y List.mem_cons_self).1
  rw [pcB, ByteArray.size_append, ByteArray.size_append, List.length_cons]
  omega
theorem entB_size {p : Part} (h : Fine p) : (entB p).size ≤ 60000 := by
 have h1 := pcB_size p.f3 h.pcs
 have h2 := txt_size p.f2
 have h3 := num_size p.f0
 have h4 := num_size (p.f3.length : Int)
 have h5 := h.len
 have h6 := h.sum
 unfold entB
 rw [ByteArray.size_append, ByteArray.size_append, ByteArray.size_append]
 omega
theorem penc_pc (l : List Part) (i : Nat) (p : Part) (hF : Fine p) (k : Nat) (hk : 20 ≤ k) (hi : i ≤ 1048576) : ∀ n j x, j + n = p.f3.length → x.size ≤ 30 + 60000 * i + 84 * j →
  parts_Encode.l1 (n + 1 + k) x l (l.length : Int) (i : Int) p.f3 (p.f3.length : Int) (j : Int) p.f0 p.f1 p.f2 p.f3 = parts_Encode.l0 k ((x ++ pcB (p.f3.drop j)) ++ txt p.f2) l (l.length : Int) ((i + 1 : Nat) : Int) := by
 have hlen := hF.len
 have hsum := hF.sum
 intro n
 induction n with
 | zero =>
  intro j x hj hx
  have ht := txt_size p.f2
  rw [show 0 + 1 + k = k + 1 by omega, parts_Encode.l1, if_neg (by omega), oct_Text p.f2 (by omega) k (by omega), Option.bind_some, if_pos (by omega), w1 i (by omega), List.drop_of_length_le (by omega), pcB, ba_nil]
 | succ n ih =>
  intro j x hj hx
  have hy := hF.pcs _ (memC p.f3 j (by omega))
  have ht := txt_size (rdC p.f3 j).f0
  have hn := num_size (rdC p.f3 j).f1
  rw [show n + 1 + 1 + k = (n + 1 + k) + 1 by omega, parts_Encode.l1, if_pos (by omega), if_pos (by omega), if_pos (by omega)]
  have t0 : octet_Text.f (n + 1 + k) (rdC p.f3 j).f0 = some (txt (rdC p.f3 j).f0) := oct_Text _ (by omega) _ (by omega)
  have t1 : octet_Number.f (n + 1 + k) (IntKind.u64.wrap (rdC p.f3 j).f1) = some (num (rdC p.f3 j).f1) := by
   rw [IntWalk.u64_in _ (by omega)]
   exact oct_Number _ (by omega) (by omega) _ (by omega)
  show (octet_Text.f (n + 1 + k) (rdC p.f3 j).f0).bind (fun t232 => (octet_Number.f (n + 1 + k) (IntKind.u64.wrap (rdC p.f3 j).f1)).bind fun t233 => _) = _
  rw [t0, Option.bind_some, t1, Option.bind_some, if_pos (by omega), if_pos (by rw [ByteArray.size_append]; omega), w1 j (by omega), ih (j + 1) _ (by omega) (by rw [ByteArray.size_append, ByteArray.size_append]; omega), dropC p.f3 j (by omega), pcB]
  simp only [ba_assoc]
theorem penc_go (l : List Part) (hl : l.length ≤ 1048576) (hF : ∀ p ∈ l, Fine p) : ∀ n i k x, i + n = l.length → 600 * n + 100 ≤ k → x.size ≤ 10 + 60000 * i → parts_Encode.l0 k x l (l.length : Int) (i : Int) = some (x ++ allB (l.drop i), 0) := by
 intro n
 induction n with
 | zero =>
  intro i k x hi hk hx
  obtain ⟨k, rfl⟩ : ∃ j, k = j + 1 := ⟨k - 1, by omega⟩
  rw [parts_Encode.l0, if_neg (by omega), List.drop_of_length_le (by omega), allB, ba_nil]
 | succ n ih =>
  intro i k x hi hk hx
  obtain ⟨k, rfl⟩ : ∃ j, k = j + 1 := ⟨k - 1, by omega⟩
  have hf := hF _ (memP l i (by omega))
  have hfl := hf.len
  have hf1 := hf.n1
  have hf2 := hf.n2
  have s0 := num_size (rdP l i).f0
  have s1 := num_size ((rdP l i).f3.length : Int)
  have t0 : octet_Number.f k (IntKind.u64.wrap (rdP l i).f0) = some (num (rdP l i).f0) := by
   rw [IntWalk.u64_in _ (by omega)]
   exact oct_Number _ (by omega) (by omega) _ (by omega)
  have t1 : octet_Number.f k (IntKind.u64.wrap ((rdP l i).f3.length : Int)) = some (num ((rdP l i).f3.length : Int)) := by
   rw [IntWalk.u64_in _ (by omega)]
   exact oct_Number _ (by omega) (by omega) _ (by omega)
  rw [parts_Encode.l0, if_pos (by omega), if_pos (by omega), if_pos (by omega)]
  show (octet_Number.f k (IntKind.u64.wrap (rdP l i).f0)).bind (fun t228 => (octet_Number.f k (IntKind.u64.wrap ((rdP l i).f3.length : Int))).bind fun t229 => if t228.size + t229.size ≤ 9223372036854775807 then if x.size + (t228 ++ t229).size ≤ 9223372036854775807 then parts_Encode.l1 k (x ++ (t228 ++ t229)) l (l.length : Int) (i : Int) (rdP l i).f3 ((rdP l i).f3.length : Int) 0 (rdP l i).f0 (rdP l i).f1 (rdP l i).f2 (rdP l i).f3 else none else none) = _
  obtain ⟨k', hk'⟩ : ∃ k', k = (rdP l i).f3.length + 1 + k' := ⟨k - (rdP l i).f3.length - 1, by omega⟩
  have hpc := penc_pc l i (rdP l i) hf k' (by omega) (by omega) (rdP l i).f3.length 0 (x ++ (num (rdP l i).f0 ++ num ((rdP l i).f3.length : Int))) (by omega) (by rw [ByteArray.size_append, ByteArray.size_append]; omega)
  rw [t0, Option.bind_some, t1, Option.bind_some, if_pos (by omega), if_pos (by rw [ByteArray.size_append]; omega)]
  subst hk'
  rw [show ((0 : Nat) : Int) = 0 from rfl, List.drop_zero] at hpc
  rw [hpc]
  have e : (x ++ (num (rdP l i).f0 ++ num ((rdP l i).f3.length : Int)) ++ pcB (rdP l i).f3) ++ txt (rdP l i).f2 = x ++ entB (rdP l i) := by
   unfold entB
   simp only [ba_assoc]
  have hz := entB_size hf
  rw [e, ih (i + 1) k' _ (by omega) (by omega) (by rw [ByteArray.size_append]; omega), dropP l i (by omega), allB, ba_assoc]
theorem penc_eq (l : List Part) (hl : Small l) (k : Nat) (hk : 700000000 ≤ k) : parts_Encode.f k l = some (if rB none l = true then (encS l, 0) else ((⟨#[]⟩ : ByteArray), 1)) := by
 have hll := hl.len
 unfold parts_Encode.f
 rw [right_eq l hl k (by omega), Option.bind_some]
 by_cases h : rB none l = true
 ·
  have hn := num_size (l.length : Int)
  rw [if_pos h, if_pos h, IntWalk.u64_in _ (by omega), oct_Number _ (by omega) (by omega) k (by omega), Option.bind_some, show parts_Encode.l0 k (num (l.length : Int)) l (l.length : Int) 0 = _ from penc_go l hll (fun p hp => fine_of ((rB_lt l none h).1 p hp)) l.length 0 k _ (by omega) (by omega) (by omega), List.drop_zero]
  rfl
 ·
  rw [if_neg h, if_neg h]
theorem told_go (l : List Piece) (hl : l.length ≤ 512) (hy : ∀ y ∈ l, y.f0.size = 64 ∧ 1 ≤ y.f1 ∧ y.f1 ≤ 4096) : ∀ n i k x, i + n = l.length → n + 20 ≤ k → x.size ≤ 10 + 84 * i → stowageref13_Told.l0 k (l.map refC) x (i : Int) = some (x ++ pcB (l.drop i)) := by
 have hm : (l.map refC).length = l.length := List.length_map _
 intro n
 induction n with
 | zero =>
  intro i k x hi hk hx
  obtain ⟨k, rfl⟩ : ∃ j, k = j + 1 := ⟨k - 1, by omega⟩
  rw [stowageref13_Told.l0, hm, if_neg (by omega), List.drop_of_length_le (by omega), pcB, ba_nil]
 | succ n ih =>
  intro i k x hi hk hx
  obtain ⟨k, rfl⟩ : ∃ j, k = j + 1 := ⟨k - 1, by omega⟩
  have h1 := hy _ (memC l i (by omega))
  have ht := txt_size (rdC l i).f0
  have hn := num_size (rdC l i).f1
  have t0 : stowageref01_Text.f k (refC (rdC l i)).f0 = some (txt (rdC l i).f0) := ref_Text (rdC l i).f0 (by omega) _ (by omega)
  have t1 : stowageref01_Number.f k (IntKind.u64.wrap (refC (rdC l i)).f1) = some (num (rdC l i).f1) := by
   show stowageref01_Number.f k (IntKind.u64.wrap (rdC l i).f1) = _
   rw [IntWalk.u64_in _ (by omega)]
   exact ref_Number _ (by omega) (by omega) _ (by omega)
  rw [stowageref13_Told.l0, hm, if_pos (by omega), if_pos (by omega), rd13 l i (by omega), t0, Option.bind_some, if_pos (by omega), t1, Option.bind_some, if_pos (by rw [ByteArray.size_append]; omega), w1 i (by omega),
   ih (i + 1) k _ (by omega) (by omega) (by rw [ByteArray.size_append, ByteArray.size_append]; omega), dropC l i (by omega), pcB, ba_assoc x, ba_assoc x]
theorem told_eq (l : List Piece) (hl : l.length ≤ 512) (hy : ∀ y ∈ l, y.f0.size = 64 ∧ 1 ≤ y.f1 ∧ y.f1 ≤ 4096) (k : Nat) (hk : 600 ≤ k) : stowageref13_Told.f k (l.map refC) = some (num (l.length : Int) ++ pcB l) := by
 have hn := num_size (l.length : Int)
 unfold stowageref13_Told.f
 rw [List.length_map, IntWalk.u64_in _ (by omega), ref_Number _ (by omega) (by omega) k (by omega), Option.bind_some, show stowageref13_Told.l0 k (l.map refC) (num (l.length : Int)) 0 = _ from told_go l hl hy l.length 0 k _ (by omega) (by omega) (by omega), List.drop_zero]
theorem renc_go (l : List Part) (hl : l.length ≤ 1048576) (hF : ∀ p ∈ l, Fine p) : ∀ n i k x, i + n = l.length → n + 1000 ≤ k → x.size ≤ 10 + 60000 * i → stowageref14_Encode.l0 k (l.map refP) x (i : Int) = some (x ++ allB (l.drop i), 0) := by
 have hm : (l.map refP).length = l.length := List.length_map _
 intro n
 induction n with
 | zero =>
  intro i k x hi hk hx
  obtain ⟨k, rfl⟩ : ∃ j, k = j + 1 := ⟨k - 1, by omega⟩
  rw [stowageref14_Encode.l0, hm, if_neg (by omega), List.drop_of_length_le (by omega), allB, ba_nil]
 | succ n ih =>
  intro i k x hi hk hx
  obtain ⟨k, rfl⟩ : ∃ j, k = j + 1 := ⟨k - 1, by omega⟩
  have hf := hF _ (memP l i (by omega))
  have hfl := hf.len
  have hf1 := hf.n1
  have hf2 := hf.n2
  have hfs := hf.sum
  have s0 := num_size (rdP l i).f0
  have s1 := num_size ((rdP l i).f3.length : Int)
  have s2 := pcB_size (rdP l i).f3 hf.pcs
  have s3 := txt_size (rdP l i).f2
  have t0 : stowageref01_Number.f k (IntKind.u64.wrap (refP (rdP l i)).f0) = some (num (rdP l i).f0) := by
   show stowageref01_Number.f k (IntKind.u64.wrap (rdP l i).f0) = _
   rw [IntWalk.u64_in _ (by omega)]
   exact ref_Number _ (by omega) (by omega) _ (by omega)
  have t1 : stowageref13_Told.f k (refP (rdP l i)).f3 = some (num ((rdP l i).f3.length : Int) ++ pcB (rdP l i).f3) := told_eq _ hfl hf.pcs k (by omega)
  have t2 : stowageref01_Text.f k (refP (rdP l i)).f2 = some (txt (rdP l i).f2) := ref_Text _ (by show (rdP l i).f2.size ≤ _; omega) _ (by omega)
  have hz := entB_size hf
  rw [stowageref14_Encode.l0, hm, if_pos (by omega), if_pos (by omega), rd14 l i (by omega), t0, Option.bind_some, if_pos (by omega), t1, Option.bind_some, if_pos (by rw [ByteArray.size_append, ByteArray.size_append]; omega), t2, Option.bind_some,
   if_pos (by rw [ByteArray.size_append, ByteArray.size_append, ByteArray.size_append]; omega), w1 i (by omega)]
  have e : ((x ++ num (rdP l i).f0) ++ (num ((rdP l i).f3.length : Int) ++ pcB (rdP l i).f3)) ++ txt (rdP l i).f2 = x ++ entB (rdP l i) := by
   unfold entB
   simp only [ba_assoc]
  rw [e, ih (i + 1) k _ (by omega) (by omega) (by rw [ByteArray.size_append]; omega), dropP l i (by omega), allB, ba_assoc]
theorem renc_eq (l : List Part) (hl : Small l) (k : Nat) (hk : 700000000 ≤ k) : stowageref14_Encode.f k (l.map refP) = some (if rB none l = true then (encS l, 0) else ((⟨#[]⟩ : ByteArray), 1)) := by
 have hll := hl.len
 unfold stowageref14_Encode.f
 rw [may14_eq l hl k (by omega), Option.bind_some]
 by_cases h : rB none l = true
 ·
  have hn := num_size (l.length : Int)
  rw [if_pos h, if_pos h, List.length_map, IntWalk.u64_in _ (by omega), ref_Number _ (by omega) (by omega) k (by omega), Option.bind_some, show stowageref14_Encode.l0 k (l.map refP) (num (l.length : Int)) 0 = _ from renc_go l hll (fun p hp => fine_of ((rB_lt l none h).1 p hp)) l.length 0 k _ (by omega) (by omega) (by omega), List.drop_zero]
  rfl
 ·
  rw [if_neg h, if_neg h]
abbrev RB := 1073741824
def rdPc (s : ByteArray) : Nat → Nat → Int → List Piece → List Piece × Nat × Int
 | 0, a, e, acc => (acc, a, e)
 | n + 1, a, e, acc => rdPc s n (xn s (xt s a e 64).2.1.toNat (xt s a e 64).2.2 4096).2.1.toNat (xn s (xt s a e 64).2.1.toNat (xt s a e 64).2.2 4096).2.2 (acc ++ [⟨(xt s a e 64).1, (xn s (xt s a e 64).2.1.toNat (xt s a e 64).2.2 4096).1⟩])
def pt1 (s : ByteArray) (a : Nat) (e : Int) : Int × Int × Int := xn s a e 100
def pt2 (s : ByteArray) (a : Nat) (e : Int) : Int × Int × Int := xn s (pt1 s a e).2.1.toNat (pt1 s a e).2.2 512
def pt3 (s : ByteArray) (a : Nat) (e : Int) : List Piece × Nat × Int := rdPc s (pt2 s a e).1.toNat (pt2 s a e).2.1.toNat (pt2 s a e).2.2 []
def pt4 (s : ByteArray) (a : Nat) (e : Int) : ByteArray × Int × Int := xt s (pt3 s a e).2.1 (pt3 s a e).2.2 64
def ptP (s : ByteArray) (a : Nat) (e : Int) : Part := ⟨(pt1 s a e).1, (Pc (pt3 s a e).1).1, (pt4 s a e).1, (pt3 s a e).1⟩
def rdPts (s : ByteArray) : Nat → Nat → Int → List Part → List Part × Nat × Int
 | 0, a, e, acc => (acc, a, e)
 | n + 1, a, e, acc => rdPts s n (pt4 s a e).2.1.toNat (pt4 s a e).2.2 (acc ++ [ptP s a e])
def rdAll (s : ByteArray) : List Part × Nat × Int := rdPts s (xn s 0 0 100).1.toNat (xn s 0 0 100).2.1.toNat (xn s 0 0 100).2.2 []
def decS (s : ByteArray) : List Part × Int := if (rdAll s).2.2 = 0 ∧ ¬ (rdAll s).2.1 < s.size ∧ rB none (rdAll s).1 = true then ((rdAll s).1, 0) else ([], 3)
theorem xn_nat (s : ByteArray) (a : Nat) (ha : a ≤ s.size) (e most : Int) (hm : 0 ≤ most) : (xn s a e most).2.1 = (((xn s a e most).2.1.toNat : Nat) : Int) ∧ (xn s a e most).2.1.toNat ≤ s.size ∧ (xn s a e most).1 = (((xn s a e most).1.toNat : Nat) : Int) ∧ ((xn s a e most).1.toNat : Int) ≤ most := by
 obtain ⟨h1, h2, m, h3, h4, h5⟩ := xn_at s a ha e most hm
 refine ⟨by omega, by omega, by omega, by omega⟩
theorem xt_nat (s : ByteArray) (a : Nat) (ha : a ≤ s.size) (e most : Int) (hm : 0 ≤ most) : (xt s a e most).2.1 = (((xt s a e most).2.1.toNat : Nat) : Int) ∧ (xt s a e most).2.1.toNat ≤ s.size ∧ ((xt s a e most).1.size : Int) ≤ most := by
 obtain ⟨h2, m, h3, h4, h5⟩ := xt_at s a ha e most hm
 refine ⟨by omega, by omega, h2⟩
theorem rdPc_spec (s : ByteArray) : ∀ (n a : Nat) (e : Int) (acc : List Piece), a ≤ s.size → (∀ y ∈ acc, y.f0.size ≤ 64) → (rdPc s n a e acc).2.1 ≤ s.size ∧ (rdPc s n a e acc).1.length = acc.length + n ∧ ∀ y ∈ (rdPc s n a e acc).1, y.f0.size ≤ 64
 | 0, a, e, acc, ha, h => ⟨ha, rfl, h⟩
 | n + 1, a, e, acc, ha, h => by
  obtain ⟨g1, g2, g3⟩ := xt_nat s a ha e 64 (by decide)
  obtain ⟨g4, g5, g6, g7⟩ := xn_nat s (xt s a e 64).2.1.toNat g2 (xt s a e 64).2.2 4096 (by decide)
  rw [rdPc]
  obtain ⟨i1, i2, i3⟩ := rdPc_spec s n _ (xn s (xt s a e 64).2.1.toNat (xt s a e 64).2.2 4096).2.2 (acc ++ [⟨(xt s a e 64).1, (xn s (xt s a e 64).2.1.toNat (xt s a e 64).2.2 4096).1⟩]) g5 (fun y hy => by
   rcases List.mem_append.1 hy with hy | hy
   ·
    exact h y hy
   ·
    rw [List.mem_singleton] at hy
    subst hy
    show (xt s a e 64).1.size ≤ 64
    omega)
  refine ⟨i1, ?_, i3⟩
  rw [i2, List.length_append, List.length_singleton]
  omega
structure PtOk (s : ByteArray) (a : Nat) (e : Int) : Prop where
 a1 : (pt1 s a e).2.1 = (((pt1 s a e).2.1.toNat : Nat) : Int)
 l1 : (pt1 s a e).2.1.toNat ≤ s.size
 a2 : (pt2 s a e).2.1 = (((pt2 s a e).2.1.toNat : Nat) : Int)
 l2 : (pt2 s a e).2.1.toNat ≤ s.size
 n2 : (pt2 s a e).1 = (((pt2 s a e).1.toNat : Nat) : Int)
 m2 : (pt2 s a e).1.toNat ≤ 512
 l3 : (pt3 s a e).2.1 ≤ s.size
 n3 : (pt3 s a e).1.length = (pt2 s a e).1.toNat
 y3 : ∀ y ∈ (pt3 s a e).1, y.f0.size ≤ 64
 a4 : (pt4 s a e).2.1 = (((pt4 s a e).2.1.toNat : Nat) : Int)
 l4 : (pt4 s a e).2.1.toNat ≤ s.size
 z4 : (pt4 s a e).1.size ≤ 64
theorem pt_ok (s : ByteArray) (a : Nat) (e : Int) (ha : a ≤ s.size) : PtOk s a e := by
 obtain ⟨b1, b2, _, _⟩ := xn_nat s a ha e 100 (by decide)
 obtain ⟨c1, c2, c3, c4⟩ := xn_nat s (pt1 s a e).2.1.toNat b2 (pt1 s a e).2.2 512 (by decide)
 obtain ⟨d1, d2, d3⟩ := rdPc_spec s (pt2 s a e).1.toNat (pt2 s a e).2.1.toNat (pt2 s a e).2.2 [] c2 (fun y hy => by cases hy)
 obtain ⟨e1, e2, e3⟩ := xt_nat s (pt3 s a e).2.1 d1 (pt3 s a e).2.2 64 (by decide)
 refine ⟨b1, b2, c1, c2, c3, by have : ((pt2 s a e).1.toNat : Int) ≤ 512 := c4; omega, d1, by rw [show (pt3 s a e).1.length = _ from d2]; simp, d3, e1, e2, by have : ((pt4 s a e).1.size : Int) ≤ 64 := e3; omega⟩
theorem ptP_small (s : ByteArray) (a : Nat) (e : Int) (ha : a ≤ s.size) : SmallPart (ptP s a e) := by
 have h := pt_ok s a e ha
 have h1 := h.z4
 have h2 := h.n3
 have h3 := h.m2
 refine ⟨by show (pt4 s a e).1.size ≤ _; omega, fun y hy => by have := h.y3 y hy; omega, by show (pt3 s a e).1.length ≤ _; omega⟩
theorem rdPts_spec (s : ByteArray) : ∀ (n a : Nat) (e : Int) (acc : List Part), a ≤ s.size → (∀ y ∈ acc, SmallPart y) → (rdPts s n a e acc).2.1 ≤ s.size ∧ (rdPts s n a e acc).1.length = acc.length + n ∧ ∀ y ∈ (rdPts s n a e acc).1, SmallPart y
 | 0, a, e, acc, ha, h => ⟨ha, rfl, h⟩
 | n + 1, a, e, acc, ha, h => by
  rw [rdPts]
  obtain ⟨i1, i2, i3⟩ := rdPts_spec s n _ (pt4 s a e).2.2 (acc ++ [ptP s a e]) (pt_ok s a e ha).l4 (fun y hy => by
   rcases List.mem_append.1 hy with hy | hy
   ·
    exact h y hy
   ·
    rw [List.mem_singleton] at hy
    subst hy
    exact ptP_small s a e ha)
  refine ⟨i1, ?_, i3⟩
  rw [i2, List.length_append, List.length_singleton]
  omega
theorem pdec_pc (s : ByteArray) (hs : s.size ≤ 1073741824) (X : List Part) (hX : X.length ≤ 1048576) (cnt N : Int) (i : Nat) (hi : i ≤ 1048576) (k : Nat) (hk : 1049100 ≤ k) : ∀ n j (a : Nat) (e : Int) (acc : List Piece), j + n ≤ 512 → a ≤ s.size → acc.length ≤ j → (∀ y ∈ acc, y.f0.size ≤ 64) →
  parts_Decode.l1 (n + 1 + k) X cnt (i : Int) ((j + n : Nat) : Int) (j : Int) s (a : Int) e N 0 (⟨#[]⟩ : ByteArray) acc =
   parts_Decode.l0 k (X ++ [⟨N, (Pc (rdPc s n a e acc).1).1, (xt s (rdPc s n a e acc).2.1 (rdPc s n a e acc).2.2 64).1, (rdPc s n a e acc).1⟩]) cnt ((i + 1 : Nat) : Int) s (xt s (rdPc s n a e acc).2.1 (rdPc s n a e acc).2.2 64).2.1 (xt s (rdPc s n a e acc).2.1 (rdPc s n a e acc).2.2 64).2.2 := by
 intro n
 induction n with
 | zero =>
  intro j a e acc hj ha hacc hy
  rw [show 0 + 1 + k = k + 1 by omega, parts_Decode.l1, if_neg (by omega), oct_RText s a hs ha e 64 k (by omega), Option.bind_some, pieces_eq acc (fun y hy' => by have := hy y hy'; omega) k (by omega), Option.bind_some, if_pos (by omega), w1 i (by omega), rdPc]
 | succ n ih =>
  intro j a e acc hj ha hacc hy
  obtain ⟨g1, g2, g3⟩ := xt_nat s a ha e 64 (by decide)
  obtain ⟨g4, g5, g6, g7⟩ := xn_nat s (xt s a e 64).2.1.toNat g2 (xt s a e 64).2.2 4096 (by decide)
  have q1 := oct_RInt s (xt s a e 64).2.1.toNat hs g2 (xt s a e 64).2.2 4096 (by decide) (by decide) (n + 1 + k) (by omega)
  rw [← g1] at q1
  rw [show n + 1 + 1 + k = (n + 1 + k) + 1 by omega, parts_Decode.l1, if_pos (by omega), oct_RText s a hs ha e 64 _ (by omega), Option.bind_some]
  show (octet_Reader_Int.f (n + 1 + k) s (xt s a e 64).2.1 (xt s a e 64).2.2 4096).bind _ = _
  rw [q1, Option.bind_some, if_pos (by omega), w1 j (by omega), rdPc, g4, show j + (n + 1) = (j + 1) + n by omega]
  exact ih (j + 1) _ _ _ (by omega) g5 (by rw [List.length_append, List.length_singleton]; omega) (fun y hy' => by
   rcases List.mem_append.1 hy' with hy' | hy'
   ·
    exact hy y hy'
   ·
    rw [List.mem_singleton] at hy'
    subst hy'
    show (xt s a e 64).1.size ≤ 64
    omega)
theorem small_of (X : List Part) (h : ∀ y ∈ X, SmallPart y) (hl : X.length ≤ 1048576) : Small X := ⟨hl, h⟩
theorem pdec_go (s : ByteArray) (hs : s.size ≤ 1073741824) : ∀ n i k (a : Nat) (e : Int) (X : List Part), i + n ≤ 100 → 600 * n + 3000000 ≤ k → a ≤ s.size → X.length = i → (∀ y ∈ X, SmallPart y) →
  parts_Decode.l0 k X ((i + n : Nat) : Int) (i : Int) s (a : Int) e = some (if (rdPts s n a e X).2.2 = 0 ∧ ¬ (rdPts s n a e X).2.1 < s.size ∧ rB none (rdPts s n a e X).1 = true then ((rdPts s n a e X).1, 0) else ([], 3)) := by
 intro n
 induction n with
 | zero =>
  intro i k a e X hi hk ha hX hy
  obtain ⟨k, rfl⟩ : ∃ j, k = j + 1 := ⟨k - 1, by omega⟩
  rw [parts_Decode.l0, if_neg (by omega), rdPts]
  unfold octet_Reader_End.f
  by_cases he : e = 0
  ·
   rw [if_pos he]
   by_cases h2 : (a : Int) < (s.size : Int)
   ·
    rw [if_pos h2, Option.bind_some, if_neg (show ¬ (2 : Int) = 0 by decide), if_neg (fun hh => hh.2.1 (show a < s.size by omega))]
   ·
    rw [if_neg h2, Option.bind_some, if_pos rfl, right_eq X ⟨by omega, hy⟩ k (by omega), Option.bind_some]
    by_cases h3 : rB none X = true
    ·
     rw [if_pos h3, if_pos ⟨he, (show ¬ a < s.size by omega), h3⟩]
    ·
     rw [if_neg h3, if_neg (fun hh => h3 hh.2.2)]
  ·
   rw [if_neg he, Option.bind_some, if_neg he, if_neg (fun hh => he hh.1)]
 | succ n ih =>
  intro i k a e X hi hk ha hX hy
  obtain ⟨k, rfl⟩ : ∃ j, k = j + 1 := ⟨k - 1, by omega⟩
  have H := pt_ok s a e ha
  have hm2 := H.m2
  have q0 := oct_RInt s a hs ha e 100 (by decide) (by decide) k (by omega)
  have q1 := oct_RInt s (pt1 s a e).2.1.toNat hs H.l1 (pt1 s a e).2.2 512 (by decide) (by decide) k (by omega)
  rw [← H.a1] at q1
  rw [parts_Decode.l0, if_pos (by omega), q0, Option.bind_some]
  show (octet_Reader_Int.f k s (pt1 s a e).2.1 (pt1 s a e).2.2 512).bind _ = _
  rw [q1, Option.bind_some]
  show parts_Decode.l1 k X ((i + (n + 1) : Nat) : Int) (i : Int) (pt2 s a e).1 0 s (pt2 s a e).2.1 (pt2 s a e).2.2 (pt1 s a e).1 0 (⟨#[]⟩ : ByteArray) [] = _
  obtain ⟨k', hk'⟩ : ∃ k', k = (pt2 s a e).1.toNat + 1 + k' := ⟨k - (pt2 s a e).1.toNat - 1, by omega⟩
  have hpc := pdec_pc s hs X (by omega) ((i + (n + 1) : Nat) : Int) (pt1 s a e).1 i (by omega) k' (by omega) (pt2 s a e).1.toNat 0 (pt2 s a e).2.1.toNat (pt2 s a e).2.2 [] (by omega) H.l2 (Nat.le_refl _) (fun y hy => by cases hy)
  rw [Nat.zero_add, ← H.n2, ← H.a2, ← hk', show ((0 : Nat) : Int) = 0 from rfl] at hpc
  rw [hpc]
  show parts_Decode.l0 k' (X ++ [ptP s a e]) ((i + (n + 1) : Nat) : Int) ((i + 1 : Nat) : Int) s (pt4 s a e).2.1 (pt4 s a e).2.2 = _
  rw [H.a4, show i + (n + 1) = (i + 1) + n by omega]
  exact ih (i + 1) k' _ _ _ (by omega) (by omega) H.l4 (by rw [List.length_append, List.length_singleton]; omega) (fun y hy' => by
   rcases List.mem_append.1 hy' with hy' | hy'
   ·
    exact hy y hy'
   ·
    rw [List.mem_singleton] at hy'
    subst hy'
    exact ptP_small s a e ha)
theorem pdec_eq (s : ByteArray) (hs : s.size ≤ 1073741824) (k : Nat) (hk : 4000000 ≤ k) : parts_Decode.f k s = some (decS s) := by
 unfold parts_Decode.f octet_NewReader.f
 obtain ⟨g4, g5, g6, g7⟩ := xn_nat s 0 (Nat.zero_le _) 0 100 (by decide)
 have q0 : octet_Reader_Int.f k s 0 0 100 = _ := oct_RInt s 0 hs (Nat.zero_le _) 0 100 (by decide) (by decide) k (by omega)
 rw [Option.bind_some, q0, Option.bind_some]
 have h := pdec_go s hs (xn s 0 0 100).1.toNat 0 k (xn s 0 0 100).2.1.toNat (xn s 0 0 100).2.2 [] (by omega) (by omega) g5 rfl (fun y hy => by cases hy)
 rw [Nat.zero_add, ← g6, ← g4] at h
 exact h
theorem rread_go (s : ByteArray) (hs : s.size ≤ 1073741824) : ∀ n j k (a : Nat) (e : Int) (acc : List Piece), j + n ≤ 512 → a ≤ s.size → acc.length ≤ j → n + 50 ≤ k →
  stowageref13_Read.l0 k (acc.map refC) ((j + n : Nat) : Int) (j : Int) s (a : Int) e = some (s, (((rdPc s n a e acc).2.1 : Nat) : Int), (rdPc s n a e acc).2.2, (rdPc s n a e acc).1.map refC) := by
 intro n
 induction n with
 | zero =>
  intro j k a e acc hj ha hacc hk
  obtain ⟨k, rfl⟩ : ∃ j, k = j + 1 := ⟨k - 1, by omega⟩
  rw [stowageref13_Read.l0, if_neg (by omega), rdPc]
 | succ n ih =>
  intro j k a e acc hj ha hacc hk
  obtain ⟨k, rfl⟩ : ∃ j, k = j + 1 := ⟨k - 1, by omega⟩
  obtain ⟨g1, g2, g3⟩ := xt_nat s a ha e 64 (by decide)
  obtain ⟨g4, g5, g6, g7⟩ := xn_nat s (xt s a e 64).2.1.toNat g2 (xt s a e 64).2.2 4096 (by decide)
  have q1 := ref_RInt s (xt s a e 64).2.1.toNat hs g2 (xt s a e 64).2.2 4096 (by decide) (by decide) k (by omega)
  rw [← g1] at q1
  rw [stowageref13_Read.l0, if_pos (by omega), ref_RText s a hs ha e 64 k (by omega), Option.bind_some]
  show (stowageref01_Reader_Int.f k s (xt s a e 64).2.1 (xt s a e 64).2.2 4096).bind _ = _
  rw [q1, Option.bind_some, if_pos (by rw [List.length_map]; omega), w1 j (by omega), rdPc]
  show stowageref13_Read.l0 k (acc.map refC ++ [⟨(xt s a e 64).1, (xn s (xt s a e 64).2.1.toNat (xt s a e 64).2.2 4096).1⟩]) ((j + (n + 1) : Nat) : Int) ((j + 1 : Nat) : Int) s (xn s (xt s a e 64).2.1.toNat (xt s a e 64).2.2 4096).2.1 (xn s (xt s a e 64).2.1.toNat (xt s a e 64).2.2 4096).2.2 = _
  have h := ih (j + 1) k (xn s (xt s a e 64).2.1.toNat (xt s a e 64).2.2 4096).2.1.toNat (xn s (xt s a e 64).2.1.toNat (xt s a e 64).2.2 4096).2.2 (acc ++ [⟨(xt s a e 64).1, (xn s (xt s a e 64).2.1.toNat (xt s a e 64).2.2 4096).1⟩]) (by omega) g5 (by rw [List.length_append, List.length_singleton]; omega) (by omega)
  rw [← g4, show (j + 1) + n = j + (n + 1) by omega, List.map_append] at h
  exact h
theorem rread_eq (s : ByteArray) (hs : s.size ≤ 1073741824) (a : Nat) (ha : a ≤ s.size) (e : Int) (k : Nat) (hk : 1000 ≤ k) :
  stowageref13_Read.f k s (a : Int) e = some (s, (((rdPc s (xn s a e 512).1.toNat (xn s a e 512).2.1.toNat (xn s a e 512).2.2 []).2.1 : Nat) : Int), (rdPc s (xn s a e 512).1.toNat (xn s a e 512).2.1.toNat (xn s a e 512).2.2 []).2.2, (rdPc s (xn s a e 512).1.toNat (xn s a e 512).2.1.toNat (xn s a e 512).2.2 []).1.map refC) := by
 obtain ⟨g4, g5, g6, g7⟩ := xn_nat s a ha e 512 (by decide)
 unfold stowageref13_Read.f
 rw [ref_RInt s a hs ha e 512 (by decide) (by decide) k (by omega), Option.bind_some]
 have h := rread_go s hs (xn s a e 512).1.toNat 0 k (xn s a e 512).2.1.toNat (xn s a e 512).2.2 [] (by omega) g5 (Nat.le_refl _) (by omega)
 rw [Nat.zero_add, ← g6, ← g4] at h
 exact h
theorem rdec_go (s : ByteArray) (hs : s.size ≤ 1073741824) : ∀ n i k (a : Nat) (e : Int) (X : List Part), i + n ≤ 100 → n + 8000000 ≤ k → a ≤ s.size → X.length = i → (∀ y ∈ X, SmallPart y) →
  stowageref14_Decode.l0 k ((i + n : Nat) : Int) (X.map refP) (i : Int) s (a : Int) e = some (if (rdPts s n a e X).2.2 = 0 ∧ ¬ (rdPts s n a e X).2.1 < s.size ∧ rB none (rdPts s n a e X).1 = true then ((rdPts s n a e X).1.map refP, 0) else ([], 3)) := by
 intro n
 induction n with
 | zero =>
  intro i k a e X hi hk ha hX hy
  obtain ⟨k, rfl⟩ : ∃ j, k = j + 1 := ⟨k - 1, by omega⟩
  rw [stowageref14_Decode.l0, if_neg (by omega), rdPts]
  unfold stowageref01_Reader_End.f
  by_cases he : e = 0
  ·
   rw [if_pos he]
   by_cases h2 : (a : Int) < (s.size : Int)
   ·
    rw [if_pos h2, Option.bind_some, if_neg (show ¬ (2 : Int) = 0 by decide), if_neg (fun hh => hh.2.1 (show a < s.size by omega))]
   ·
    rw [if_neg h2, Option.bind_some, if_pos he, may14_eq X ⟨by omega, hy⟩ k (by omega), Option.bind_some]
    by_cases h3 : rB none X = true
    ·
     rw [if_pos h3, if_pos ⟨he, (show ¬ a < s.size by omega), h3⟩]
    ·
     rw [if_neg h3, if_neg (fun hh => h3 hh.2.2)]
  ·
   rw [if_neg he, Option.bind_some, if_neg he, if_neg (fun hh => he hh.1)]
 | succ n ih =>
  intro i k a e X hi hk ha hX hy
  obtain ⟨k, rfl⟩ : ∃ j, k = j + 1 := ⟨k - 1, by omega⟩
  have H := pt_ok s a e ha
  have hm2 := H.m2
  have hn3 := H.n3
  have q0 := ref_RInt s a hs ha e 100 (by decide) (by decide) k (by omega)
  have q1 := rread_eq s hs (pt1 s a e).2.1.toNat H.l1 (pt1 s a e).2.2 k (by omega)
  rw [← H.a1] at q1
  have q2 := ref_RText s (pt3 s a e).2.1 hs H.l3 (pt3 s a e).2.2 64 k (by omega)
  have q3 := pieces13_eq (pt3 s a e).1 (by omega) (fun y hy => by have := H.y3 y hy; omega) k (by omega)
  rw [stowageref14_Decode.l0, if_pos (by omega), q0, Option.bind_some]
  show (stowageref13_Read.f k s (pt1 s a e).2.1 (pt1 s a e).2.2).bind _ = _
  rw [q1, Option.bind_some]
  show (stowageref01_Reader_Text.f k s (((pt3 s a e).2.1 : Nat) : Int) (pt3 s a e).2.2 64).bind _ = _
  rw [q2, Option.bind_some]
  show (stowageref13_Pieces.f k ((pt3 s a e).1.map refC)).bind _ = _
  rw [q3, Option.bind_some, if_pos (by rw [List.length_map]; omega), w1 i (by omega)]
  show stowageref14_Decode.l0 k ((i + (n + 1) : Nat) : Int) (X.map refP ++ [refP (ptP s a e)]) ((i + 1 : Nat) : Int) s (pt4 s a e).2.1 (pt4 s a e).2.2 = _
  have h := ih (i + 1) k (pt4 s a e).2.1.toNat (pt4 s a e).2.2 (X ++ [ptP s a e]) (by omega) (by omega) H.l4 (by rw [List.length_append, List.length_singleton]; omega) (fun y hy' => by
   rcases List.mem_append.1 hy' with hy' | hy'
   ·
    exact hy y hy'
   ·
    rw [List.mem_singleton] at hy'
    subst hy'
    exact ptP_small s a e ha)
  rw [← H.a4, show (i + 1) + n = i + (n + 1) by omega, List.map_append] at h
  rw [rdPts]
  exact h
theorem rdec_eq (s : ByteArray) (hs : s.size ≤ 1073741824) (k : Nat) (hk : 9000000 ≤ k) : stowageref14_Decode.f k s = some ((decS s).1.map refP, (decS s).2) := by
 unfold stowageref14_Decode.f
 obtain ⟨g4, g5, g6, g7⟩ := xn_nat s 0 (Nat.zero_le _) 0 100 (by decide)
 have q0 : stowageref01_Reader_Int.f k s 0 0 100 = _ := ref_RInt s 0 hs (Nat.zero_le _) 0 100 (by decide) (by decide) k (by omega)
 rw [q0, Option.bind_some]
 have h := rdec_go s hs (xn s 0 0 100).1.toNat 0 k (xn s 0 0 100).2.1.toNat (xn s 0 0 100).2.2 [] (by omega) (by omega) g5 rfl (fun y hy => by cases hy)
 rw [Nat.zero_add, ← g6, ← g4] at h
 refine h.trans ?_
 show some (if (rdAll s).2.2 = 0 ∧ ¬ (rdAll s).2.1 < s.size ∧ rB none (rdAll s).1 = true then ((rdAll s).1.map refP, 0) else ([], 3)) = _
 unfold decS
 split <;> rfl
theorem decS_small (s : ByteArray) (hs : s.size ≤ 1073741824) : Small (decS s).1 ∧ (decS s).1.length ≤ 100 := by
 obtain ⟨g4, g5, g6, g7⟩ := xn_nat s 0 (Nat.zero_le _) 0 100 (by decide)
 obtain ⟨h1, h2, h3⟩ := rdPts_spec s (xn s 0 0 100).1.toNat (xn s 0 0 100).2.1.toNat (xn s 0 0 100).2.2 [] g5 (fun y hy => by cases hy)
 have h4 : (rdAll s).1.length ≤ 100 := by
  show (rdPts s _ _ _ []).1.length ≤ 100
  rw [h2, List.length_nil]
  omega
 unfold decS
 split
 ·
  exact ⟨⟨by show (rdAll s).1.length ≤ _; omega, h3⟩, h4⟩
 ·
  exact ⟨⟨by decide, fun y hy => by cases hy⟩, by decide⟩
theorem PartsBytes_true (l : List Part) (s : ByteArray) (hl : Small l) (hs : s.size ≤ 1048576) : ∃ k, stowagelaw14_PartsBytes.f k l s = some true := by
 refine ⟨800000000, ?_⟩
 generalize hk : (800000000 : Nat) = k
 have hll := hl.len
 obtain ⟨d1, d2⟩ := decS_small s (by omega)
 unfold stowagelaw14_PartsBytes.f
 rw [penc_eq l hl k (by omega), Option.bind_some, refs_eq l hll (fun p hp => (hl.each p hp).len) k (by omega), Option.bind_some, renc_eq l hl k (by omega), Option.bind_some, pdec_eq s (by omega) k (by omega), Option.bind_some,
  rdec_eq s (by omega) k (by omega), Option.bind_some, awake_true k (by omega), Option.bind_some, if_pos rfl, if_pos rfl, if_pos rfl]
 show (stowagelaw14_Refs.f k (decS s).1).bind (fun t => (stowageref14_Same.f k t ((decS s).1.map refP)).bind fun u => if u = true then some ((decS s).2 == (decS s).2) else some false) = _
 rw [refs_eq (decS s).1 d1.len (fun p hp => (d1.each p hp).len) k (by omega), Option.bind_some, same_eq _ (by rw [List.length_map]; exact d1.len) (fun p hp => by
  obtain ⟨q, hq, rfl⟩ := List.mem_map.1 hp
  show (q.f3.map refC).length ≤ _
  rw [List.length_map]
  exact (d1.each q hq).len) k (by omega), Option.bind_some, if_pos rfl]
 simp
end Go.Proofs.YtoiockmmlanimaaDoor.Pure
end
section
namespace Go.Proofs.YtoiockmmlanimaaDoor.KO
open Go Go.RowKit Go.Proofs.YtoiockmmlanimaaDoorW.PrintWords Go.Proofs.YtoiockmmlanimaaDoor.Ob
theorem opensPiece : Opens Tryd.prog 63 k63 (fun y => y.f0.size ≤ reachBytes ∧ (Lit.int .i64 y.f1).wf = true) (fun y => ((y.f0.size + 1) + 1) + 1) :=
 opens_struct (fun x : S63 => (x.f0, x.f1)) (fun p => ⟨p.1, p.2⟩) (fun _ => rfl) Tryd.underlying63
  (opens_cons (off' := 1) rfl (opens_string Tryd.underlying9) (by kernel_rfl) (opens_last rfl (opens_int Tryd.underlying3) (by kernel_rfl)))
theorem opensPieces : Opens Tryd.prog 24 (Kd.slice 63 k63) (fun ys => ys.length * 24 ≤ reachBytes ∧ ∀ y ∈ ys, y.f0.size ≤ reachBytes ∧ (Lit.int .i64 y.f1).wf = true) (fun ys => (ys.map fun y => ((y.f0.size + 1) + 1) + 1).sum + 1) :=
 opens_slice Tryd.underlying24 opensPiece (by kernel_rfl) (by kernel_rfl)
theorem opensPart : Opens Tryd.prog 46 k46 (fun y => (Lit.int .i64 y.f0).wf = true ∧ (Lit.int .i64 y.f1).wf = true ∧ y.f2.size ≤ reachBytes ∧ (y.f3.length * 24 ≤ reachBytes ∧ ∀ z ∈ y.f3, z.f0.size ≤ reachBytes ∧ (Lit.int .i64 z.f1).wf = true)) (fun y => (1 + (1 + ((y.f2.size + 1) + ((y.f3.map fun z => ((z.f0.size + 1) + 1) + 1).sum + 1)))) + 1) :=
 opens_struct (fun x : S46 => (x.f0, x.f1, x.f2, x.f3)) (fun p => ⟨p.1, p.2.1, p.2.2.1, p.2.2.2⟩) (fun _ => rfl) Tryd.underlying46
  (opens_cons (off' := 1) rfl (opens_int Tryd.underlying3) (by kernel_rfl) (opens_cons (off' := 2) rfl (opens_int Tryd.underlying3) (by kernel_rfl) (opens_cons (off' := 3) rfl (opens_string Tryd.underlying9) (by kernel_rfl) (opens_last rfl opensPieces (by kernel_rfl)))))
theorem opensParts : Opens Tryd.prog 22 (Kd.slice 46 k46) (fun ys => ys.length * 56 ≤ reachBytes ∧ ∀ y ∈ ys, (Lit.int .i64 y.f0).wf = true ∧ (Lit.int .i64 y.f1).wf = true ∧ y.f2.size ≤ reachBytes ∧ (y.f3.length * 24 ≤ reachBytes ∧ ∀ z ∈ y.f3, z.f0.size ≤ reachBytes ∧ (Lit.int .i64 z.f1).wf = true)) (fun ys => (ys.map fun y => (1 + (1 + ((y.f2.size + 1) + ((y.f3.map fun z => ((z.f0.size + 1) + 1) + 1).sum + 1)))) + 1).sum + 1) :=
 opens_slice Tryd.underlying22 opensPart (by kernel_rfl) (by kernel_rfl)
theorem opensPick : Opens Tryd.prog 61 k61 (fun y => (Lit.int .i64 y.f0).wf = true ∧ y.f1.size ≤ reachBytes) (fun y => (1 + (y.f1.size + 1)) + 1) :=
 opens_struct (fun x : S61 => (x.f0, x.f1)) (fun p => ⟨p.1, p.2⟩) (fun _ => rfl) Tryd.underlying61
  (opens_cons (off' := 1) rfl (opens_int Tryd.underlying3) (by kernel_rfl) (opens_last rfl (opens_string Tryd.underlying9) (by kernel_rfl)))
theorem opensPicks : Opens Tryd.prog 23 (Kd.slice 61 k61) (fun ys => ys.length * 24 ≤ reachBytes ∧ ∀ y ∈ ys, (Lit.int .i64 y.f0).wf = true ∧ y.f1.size ≤ reachBytes) (fun ys => (ys.map fun y => (1 + (y.f1.size + 1)) + 1).sum + 1) :=
 opens_slice Tryd.underlying23 opensPick (by kernel_rfl) (by kernel_rfl)
theorem sum_ge {α : Type} (f : α → Nat) (hf : ∀ y, 1 ≤ f y) : ∀ l : List α, l.length ≤ (l.map f).sum ∧ ∀ y ∈ l, f y ≤ (l.map f).sum
 | [] => ⟨Nat.le_refl _, fun y hy => by cases hy⟩
 | z :: l => by
  obtain ⟨h1, h2⟩ := sum_ge f hf l
  have := hf z
  rw [List.map_cons, List.sum_cons]
  refine ⟨by rw [List.length_cons]; omega, fun y hy => ?_⟩
  rcases List.mem_cons.1 hy with rfl | hy
  ·
   omega
  ·
   have := h2 y hy; omega
theorem small_parts (l : List Pure.Part) {B : Nat} (h : (l.map fun y => (1 + (1 + ((y.f2.size + 1) + ((y.f3.map fun z => ((z.f0.size + 1) + 1) + 1).sum + 1)))) + 1).sum + 1 ≤ B) (hB : B ≤ 1048576) : Pure.Small l := by
 obtain ⟨h1, h2⟩ := sum_ge (fun y : Pure.Part => (1 + (1 + ((y.f2.size + 1) + ((y.f3.map fun z => ((z.f0.size + 1) + 1) + 1).sum + 1)))) + 1) (fun y => by omega) l
 refine ⟨by omega, fun p hp => ?_⟩
 have h3 : (1 + (1 + ((p.f2.size + 1) + ((p.f3.map fun z : Pure.Piece => ((z.f0.size + 1) + 1) + 1).sum + 1)))) + 1 ≤ _ := h2 p hp
 clear h1 h2
 obtain ⟨h4, h5⟩ := sum_ge (fun z : Pure.Piece => ((z.f0.size + 1) + 1) + 1) (fun y => by omega) p.f3
 generalize (p.f3.map fun z : Pure.Piece => ((z.f0.size + 1) + 1) + 1).sum = X at h3 h4 h5
 generalize ((l.map fun y : Pure.Part => (1 + (1 + ((y.f2.size + 1) + ((y.f3.map fun z => ((z.f0.size + 1) + 1) + 1).sum + 1)))) + 1)).sum = Z at h h3
 refine ⟨by omega, fun y hy => ?_, by omega⟩
 have := h5 y hy
 omega
theorem picks_len (l : List Pure.Pick) {B : Nat} (h : (l.map fun y => (1 + (y.f1.size + 1)) + 1).sum + 1 ≤ B) (hB : B ≤ 1048576) : l.length ≤ 1048576 := by
 obtain ⟨h1, _⟩ := sum_ge (fun y : Pure.Pick => (1 + (y.f1.size + 1)) + 1) (fun y => by omega) l
 omega
theorem wf_of {n : Int} (h : (Lit.int .i64 n).wf = true) : Pure.wf n := by
 simp only [Lit.wf, Bool.and_eq_true, decide_eq_true_eq] at h
 exact h
theorem agree_C {α : Type} {d : Kd α} (hK : ∀ (W W' : World) (x : α) (cs : List Value), (∀ k, k < W.heap.size → W'.heap[k]? = W.heap[k]?) → d.K W x cs → d.K W' x cs) {W W' : World} (ha : ∀ k, k < W.heap.size → W'.heap[k]? = W.heap[k]?) {A : Option Addr} {n : Nat} {xs : List α} (h : d.C W A n xs) : d.C W' A n xs := by
 obtain ⟨h1, h2, h3⟩ := h
 refine ⟨h1, h2, fun hp => ?_⟩
 obtain ⟨ad, hA, hr⟩ := h3 hp
 refine ⟨ad, hA, fun j x hx => ?_⟩
 obtain ⟨cs, hl, hk, hc⟩ := hr j x hx
 exact ⟨cs, hl, hK W W' x cs ha hk, fun i u hu => (World.cell?_of_block (ha _ (World.block_lt_of_cell? W _ (hc i u hu)))).trans (hc i u hu)⟩
theorem V_top {W : World} {e base c : Nat} {A : Option Addr} {l : List Pure.Part} (hr : Kd.C k46 W A l.length l) (hc : l.length ≤ c) : Kd.V k46 e W base (fun _ => True) (.slice A l.length c) l :=
 Kd.V_mk hc (fun W' hW => agree_C (fun W W' x cs ha hk => by
  obtain ⟨A3, c3, rfl, hl3, g3⟩ := k46_open hk
  exact k46_mk W' x hl3 (agree_C (fun W W' y cs _ hk => by rw [k63_open hk]; exact k63_mk W' y) ha g3)) (fun k hk => hW k trivial hk) hr)
theorem gg_of_laid {W : World} (h : laidMetH Tryd.prog Rows.partsWholeRow.laid W) : GG W := by
 rw [MakeChecks.laidMetH_plain _ _ _ (by kernel_rfl)] at h
 obtain ⟨ps, ⟨g, t, cs, fuel, p, q, hg, ht, hv, hd, _, _⟩, _, _⟩ := h
 obtain rfl := Option.some.inj ((show Tryd.prog.globalNamed "stowage/digest.rounds" = some 0 by kernel_rfl).symm.trans hg)
 obtain rfl := Option.some.inj ((show (Tryd.prog.globals[0]?).map (·.type) = some 143 by kernel_rfl).symm.trans ht)
 obtain ⟨xs, m, _, ex, _, hl, hel⟩ := DataW.trod_array Tryd.underlying143 hd
 have c5 : Tryd.prog.cellsOf 137 = 1 := by kernel_rfl
 have hdat : (Rows.laid_stowage_digest_rounds : DataW Unit) = .agg (Sha.Ks.map fun x => .lit (.int .u32 (x.toNat : Int))) := by kernel_rfl
 have hlen : Sha.Ks.length = 64 := by kernel_rfl
 have e3 : xs.map (·.1) = Sha.Ks.map fun x => (.lit (.int .u32 (x.toNat : Int)) : DataW Unit) := (DataW.agg.inj (hdat.symm.trans (Prod.mk.inj ex).1)).symm
 have key : ∀ r, r < 64 → W.cell? ⟨0, r, none⟩ = some (Sha.U (Sha.Ks.getD r 0)) := by
  intro r hr
  have hE := hel r hr
  rw [c5, Nat.mul_one, List.getElem?_eq_getElem (by omega)] at hE
  obtain ⟨z, e1, e2, _⟩ := DataW.trod_int Tryd.underlying137 hE
  have e4 : (xs.map (·.1))[r]? = (Sha.Ks.map fun x => (.lit (.int .u32 (x.toNat : Int)) : DataW Unit))[r]? := by rw [e3]
  rw [List.getElem?_map, List.getElem?_map, List.getElem?_eq_getElem (by omega : r < xs.length), List.getElem?_eq_getElem (by omega : r < Sha.Ks.length), e2] at e4
  have hz : z = ((Sha.Ks.getD r 0).toNat : Int) := by
   simp only [Option.map_some, Option.some.injEq, DataW.lit.injEq, Lit.int.injEq, true_and] at e4
   rw [e4, List.getD, List.getElem?_eq_getElem (by omega : r < Sha.Ks.length)]
   rfl
  rw [World.var?_cell hg hv r, Sha.U_def, ← hz]
  have : cs.toList[r]? = some (.int .u32 z) := by
   have h0 : ((cs.toList.drop r).take 1)[0]? = some (.int .u32 z) := by rw [e1]; rfl
   simpa using h0
  simpa using this
 have h0 := key 0 (by omega)
 cases hh : W.heap[0]? with
 | none => simp [World.cell?, hh] at h0
 | some ob =>
  cases ob with
  | cells c t fr =>
   refine ⟨c, t, fr, hh, fun i hi => ?_⟩
   rw [← key i hi, cell_of_row W 0 i c t fr hh]
  | _ => simp [World.cell?, hh] at h0
end Go.Proofs.YtoiockmmlanimaaDoor.KO
end
section
/- PartsBytes, second form: parts' text, and which parts any text says. Its conditions: those of the given card. -/
namespace Go.Proofs.YtoiockmmlanimaaDoor.partsBytes
open Go.ChangeShapes Go.WideShapes Go.ChangeAt Go.RowKit Go.Proofs.YtoiockmmlanimaaDoor.Ob Go.Proofs.YtoiockmmlanimaaDoorW.PrintWords
open Go.ChangeMaps (open_string shut_string)
set_option linter.unusedVariables false
set_option linter.unusedSimpArgs false
theorem own : ownKnob Tryd.prog.godebug = none := by kernel_rfl
theorem laidOut : laidOutB Tryd.prog = true := by kernel_rfl
set_option maxRecDepth 100000 in
/-- What the walk gives, for every argument and every world: the same for both forms. -/
theorem contract (H : Type) (enc : TypeId × Value → H) (W : World) (base : Nat) (args : Array Value) (ds gs : List (DataW H)) (before : List MemPlace)
  (hval : ∀ (j : Nat) t v, Tryd.f7.params[j]? = some t → args[j]? = some v → Value.okWide Tryd.prog W .any base t v)
  (hW : DataW.Whole enc Tryd.prog Tryd.f7.params.toList Rows.partsBytesSpec.vars false W args.toList ds gs before)
  (hsz : (DataW.weightsEach Tryd.prog (Tryd.f7.params.toList ++ (OpenSpec.ofChange Rows.partsBytesSpec).bare.plain.varTypes Tryd.prog) (ds ++ gs)).all (· ≤ reachBytes) = true) (hcond : ∀ k, (Rows.OpenSpec.upto Rows.partsBytesSpec).cond = some k → k H (ds ++ gs) = true) (hG : GG W) :
  Calls Tryd.prog 7 args W fun e W' => ∃ v, e = .returned v ∧ Rows.partsBytesSpec.post enc Tryd.prog Tryd.f7 false true false false W args v W' := by
 have hW' := hW
 obtain ⟨p, q, hA0, hV, rfl, hfz, hnd⟩ := hW
 have hA : DataW.TrodAll enc Tryd.prog W 0 (fun _ => true) true Tryd.f7.params.toList args.toList ds p := hA0
 rw [Tryd.params7] at hA hval hsz
 obtain ⟨v0, vs0, d0, ds0, p0, q0, hargs, rfl, rfl, h0, r0⟩ := trodAll_cons hA
 obtain ⟨v1, vs1, d1, ds1, p1, q1, rfl, rfl, rfl, h1, r1⟩ := trodAll_cons r0
 obtain ⟨rfl, rfl, rfl⟩ := trodAll_nil r1
 obtain rfl : args = #[v0, v1] := by cases args; simp_all
 obtain ⟨rfl, rfl⟩ := trodVars_none hV
 obtain ⟨A0, len0, cap0, rfl⟩ := okWide_slice Tryd.underlying22 (hval 0 22 v0 rfl rfl)
 have k0 := h0
 have lt0 : ∀ x ∈ p0, x.block < W.heap.size := by obtain ⟨m, hm⟩ := k0; exact DataW.trod_lt m _ _ _ hm
 obtain ⟨fuel0, hf0⟩ := h0
 obtain ⟨l0, hK0, wt0, bk0⟩ := (KO.opensParts).out enc W _ _ _ fuel0 _ _ hf0
 obtain ⟨B0, c0, he0, hcap0, hr0⟩ := hK0
 simp only [Value.cells, List.cons.injEq, and_true] at he0
 injection he0 with e1 e2 e3
 subst e1 e2 e3
 obtain ⟨a1, rfl, rfl, rfl, y1⟩ := open_string Tryd.underlying9 (hval 1 9 v1 rfl rfl) h1
 have hup := hcond _ rfl
 simp only [Rows.uptoSmall, decide_eq_true_eq, List.cons_append, List.nil_append, Rows.uptoBulkAll, Rows.uptoBulk] at hup
 have e1 := Array.length_toList (xs := a1.data)
 have g1 : a1.data.size = a1.size := rfl
 have hb0 : (l0.map fun y : Pure.Part => (1 + (1 + ((y.f2.size + 1) + ((y.f3.map fun z => ((z.f0.size + 1) + 1) + 1).sum + 1)))) + 1).sum + 1 ≤ Rows.uptoBulk d0 := bk0
 have hs0 := KO.small_parts l0 hb0 (by omega)
 obtain ⟨k, hk⟩ := Pure.PartsBytes_true l0 a1 hs0 (by omega)
 refine (stowagelaw14_PartsBytes.calls k _ _ l0 a1 true W hr0 hcap0 hk hG).mono fun e W' ⟨he, bel⟩ => ?_
 subst he
 exact ⟨_, rfl, _, _, _, [], _, [], hW', trodAll_mk1 (shut_bool Tryd.underlying4 _), (trodAll_cons_mk (Below.trod laidOut (by kernel_rfl) (of_decide_eq_true (by kernel_rfl)) k0 bel lt0) (trodAll_cons_mk (shut_string Tryd.underlying9 y1) trodAll_mk0)), rfl, bel.frame _, fun h => by cases h⟩
/-- The cells of a datum without pointers. -/
def flat : DataW Unit → List Value
 | .lit (.int k n) => [.int k n]
 | .agg xs => flats xs
 | _ => []
where flats : List (DataW Unit) → List Value
 | [] => []
 | x :: xs => flat x ++ flats xs
def put (cs : List Value) : Obj → Obj
 | .cells _ t z => .cells cs.toArray t z
 | ob => ob
/-- A world for the witness: the listed tables hold what their text lays. -/
noncomputable def laidWorld (os : Os) : World :=
 { World.holding Tryd.prog os ⟨#[], #[], []⟩ with heap := Rows.partsBytesUptoRow.laid.foldl (fun h x => match Tryd.prog.globalNamed x.1 with | some g => h.modify g (put (flat x.2)) | none => h) (World.holding Tryd.prog os ⟨#[], #[], []⟩).heap }
theorem laid_met (os : Os) : laidMet Tryd.prog Rows.partsBytesUptoRow.laid ((laidWorld os).forCall (fun _ _ => 0) ⟨#[], #[.slice none 0 0, .string ByteArray.empty], []⟩).memory :=
 laidMet_of_run3 8 (by kernel_rfl) (by kernel_rfl) (by kernel_rfl)
theorem reads (os : Os) {H : Type} (enc : TypeId × Value → H) : ∃ places, DataW.whole enc Tryd.prog ((laidWorld os).forCall (fun _ _ => 0) ⟨#[], #[.slice none 0 0, .string ByteArray.empty], []⟩).memory Tryd.f7.params.toList Rows.partsBytesSpec.vars false (#[.slice none 0 0, .string ByteArray.empty] : Array Value).toList 8 = some ([.nil, .lit (.string [])], [], places) :=
 ⟨[], by kernel_rfl⟩
set_option maxRecDepth 100000 in
theorem lifted (os : Os) (started : os.Started) (H : Type) (enc : TypeId × Value → H) (F : Stop.Interp) :
  ReturnsInHanded {} Tryd.checked os 7 .any ((Rows.OpenSpec.upto Rows.partsBytesSpec).preRow enc Tryd.prog Tryd.f7 Rows.partsBytesUptoRow.domain false Rows.partsBytesUptoRow.laid) (((Rows.OpenSpec.upto Rows.partsBytesSpec).at F).post enc Tryd.prog Tryd.f7 false true false false) := by
 obtain ⟨places, hx⟩ := reads os enc
 refine returnsInHanded_of_row (C := Tryd.checked) (s := (Rows.OpenSpec.upto Rows.partsBytesSpec)) own started (by kernel_rfl) Tryd.func7
  (witness_row_at (enc := enc) (C := Tryd.checked) false (laidWorld os) #[.slice none 0 0, .string ByteArray.empty] rfl (by kernel_rfl) (by kernel_rfl) (by kernel_rfl)
   (OpenSpec.preRow_of_cond 8 hx (by kernel_rfl) (fun k hk => by cases hk; kernel_rfl) (by kernel_rfl) (laid_met os))) ?_
 intro W base args ds gs before hval hW _ hcond hsz hlaid hsh _
 exact contract H enc W base args ds gs before hval hW hsz hcond (KO.gg_of_laid hlaid)
theorem said : Rows.PartsBytesUptoSaid :=
 OpenClaim.holds_of_cond 7 Tryd.f7 rfl rfl rfl rfl rfl rfl rfl ⟨rfl, rfl, rfl, rfl, rfl⟩ rfl rfl rfl rfl rfl (by kernel_rfl) Tryd.func7 (by kernel_rfl)
  (of_decide_eq_true (by kernel_rfl)) (by unfold Func.isWrapper; first | (rw [if_pos (by decide +kernel)]; kernel_rfl) | (rw [if_neg (by decide +kernel)]; exact ⟨rfl, rfl⟩))
  (fun os started H enc _ F => by rw [OpenClaim.pre_eq_preRow]; exact lifted os started H enc F)
/-- No parameter wants a stand-in; the program's own looks are off: what the card asks. -/
theorem plain (f : FuncId) (fn : Func) (hf : Tryd.pinned.checked.prog.funcNamed "stowage/stowagelaw14.PartsBytes" = some f) (hfn : Tryd.pinned.checked.prog.funcs[f]? = some fn) :
  false = Tryd.pinned.checked.prog.looks [] ∧ ∀ (j : Nat) t, fn.params[j]? = some t → Tryd.pinned.checked.prog.wantsStandIn t = false := by
 obtain rfl : f = 7 := Option.some.inj ((show Tryd.prog.funcNamed "stowage/stowagelaw14.PartsBytes" = some 7 by kernel_rfl).symm.trans hf) |>.symm
 obtain rfl : fn = Tryd.f7 := (Option.some.inj (Tryd.func7.symm.trans hfn)).symm
 refine ⟨by kernel_rfl, fun j t ht => ?_⟩
 rw [Tryd.params7] at ht
 have hm := Array.mem_of_getElem? ht
 simp only [List.mem_toArray, List.mem_cons, List.not_mem_nil, or_false] at hm
 rcases hm with rfl | rfl
 ·
  exact (show Tryd.prog.wantsStandIn 22 = false by kernel_rfl)
 ·
  exact (show Tryd.prog.wantsStandIn 9 = false by kernel_rfl)
/-- The card. -/
theorem card : Rows.PartsBytesUptoCardSaid :=
 Claim7.holds_tied_plain_at .later [] _ _ _ _ said (fun _ h => by cases h) (by kernel_rfl) (fun _ h => by cases h) partsBytesUpto_row_tie rfl ⟨rfl, rfl⟩ (by kernel_rfl) rfl plain (by kernel_rfl)
end Go.Proofs.YtoiockmmlanimaaDoor.partsBytes
namespace Go.Proofs.YtoiockmmlanimaaDoor
theorem partsBytes_cardUpto : Rows.PartsBytesUptoCardSaid := partsBytes.card
end Go.Proofs.YtoiockmmlanimaaDoor
end
