/- Merged of several texts of this session's by merge.py. -/
import Derived.Test.YtoiockmmlanimaaDoorMj7
import Derived.Test.YtoiockmmlanimaaDoorMj3
import Derived.Test.YtoiockmmlanimaaDoorMj4
import Derived.Test.YtoiockmmlanimaaDoorMj6
import Derived.KernelRfl
import Derived.ProofKit
import Derived.LaidMore
import Derived.OpenShut
import Derived.Test.YtoiockmmlanimaaDoorRows
import Derived.Test.YtoiockmmlanimaaDoorCards
import Derived.Test.YtoiockmmlanimaaDoorTie
import Derived.WalkKit
import Derived.Below
import Derived.Carry
import Derived.Deep.DeepHandedRow
import Derived.Deep.DeepLaidRun
import Derived.Test.YtoiockmmlanimaaDoorMj2
import Derived.HandedShaped
section
/- Layer 14, the plain side: what is put together. No program in sight. -/
namespace Go.Proofs.YtoiockmmlanimaaDoor.Pure
open Go.RowKit Go.Proofs.YtoiockmmlanimaaDoor.Oj Go.Proofs.YtoiockmmlanimaaDoorW.PrintWords Go.Proofs.YtoiockmmlanimaaDoorW.PrintLast Go.Proofs.YtoiockmmlanimaaDoorW.PrintMore
set_option linter.unusedVariables false
set_option linter.unusedSimpArgs false
def look (l : List Part) (n : Int) : Option Part := l.find? (fun p => decide (p.f0 = n))
theorem look_some {l : List Part} {n : Int} {p : Part} (h : look l n = some p) : p ∈ l ∧ p.f0 = n := ⟨List.mem_of_find?_eq_some h, by simpa using List.find?_some h⟩
theorem look_none {l : List Part} {n : Int} (h : look l n = none) : ∀ p ∈ l, p.f0 ≠ n := fun p hp => by simpa using List.find?_eq_none.1 h p hp
/-- The picked parts: size, pieces, digests, and whether one that is not the last is too small. -/
def jn (l : List Part) : List Pick → Int → List Piece → List ByteArray → Bool → Option (Int × List Piece × List ByteArray × Bool)
  | [], s, ps, ss, b => some (s, ps, ss, b)
  | x :: r, s, ps, ss, b => match look l x.f0 with
    | none => none
    | some p => if p.f2.toList = x.f1.toList then jn l r (s + p.f1) (ps ++ p.f3) (ss ++ [p.f2]) (b || (!r.isEmpty && decide (p.f1 < 64))) else none
abbrev JR := Int × Bool × Int × ByteArray × (List Piece) × Int
def bad (e : Int) : JR := (0, false, 0, (⟨#[]⟩ : ByteArray), ([] : List Piece), e)
def sum64 (ss : List ByteArray) : ByteArray := Sha.ofB (Sha.hexL (Sha.ofB (Sha.sha (Sha.tagB (BitVec.ofInt 8 77) ss))).data.toList)
def jfin : Option (Int × List Piece × List ByteArray × Bool) → JR
  | none => bad 140
  | some (s, ps, ss, b) => if b = true then bad 141 else if s > 1048576 ∨ ps.length > 512 then bad 2 else (0, false, s, sum64 ss, ps, 0)
theorem sum_size (ss : List ByteArray) : (Sha.ofB (Sha.sha (Sha.tagB (BitVec.ofInt 8 77) ss))).size = 32 := by
  rw [Sha.ofB_size, Sha.sha, Sha.out_length]
theorem tag_len (p : BitVec 8) : ∀ ss : List ByteArray, (∀ s ∈ ss, s.size = 64) → (Sha.tagB p ss).length = 1 + 72 * ss.length := by
  intro ss h
  unfold Sha.tagB
  rw [List.length_append]
  have H : (ss.flatMap Sha.partB).length = 72 * ss.length := by
    induction ss with
    | nil => rfl
    | cons s ss ih =>
      rw [List.flatMap_cons, List.length_append, ih (fun t ht => h t (List.mem_cons_of_mem _ ht)), Sha.partB_length, h s List.mem_cons_self, List.length_cons]
      omega
  rw [H]
  rfl
theorem tag_eq (ss : List ByteArray) (h : ∀ s ∈ ss, s.size = 64) (hl : ss.length ≤ 1048576) : ((digest_Tagged.f 77 ss).bind fun t => (digest_Hex.f t).bind fun u => some u) = some (sum64 ss) := by
  have h1 : digest_Tagged.f 77 ss = some (Sha.ofB (Sha.sha (Sha.tagB (BitVec.ofInt 8 77) ss))) := by
    show Sha.tagF 77 ss = _
    unfold Sha.tagF
    rw [if_pos ⟨by decide, by decide, by rw [tag_len _ ss h]; omega⟩]
  rw [h1, Option.bind_some]
  have h2 : digest_Hex.f (Sha.ofB (Sha.sha (Sha.tagB (BitVec.ofInt 8 77) ss))) = some (sum64 ss) := by
    show Sha.hexF _ = _
    unfold Sha.hexF
    rw [if_pos (by rw [sum_size]; decide)]
    rfl
  rw [h2, Option.bind_some]
theorem pcs_bound : ∀ (l : List Piece) (s : Int), 0 ≤ s → 0 ≤ (pcs l s).1 ∧ (pcs l s).1 ≤ s + 4096 * l.length
  | [], s, h => ⟨h, by simp [pcs]⟩
  | y :: r, s, h => by
    rw [pcs]
    split
    · rename_i hy
      have := pcs_bound r (s + y.f1) (by omega)
      simp only [List.length_cons]
      omega
    · simp only [List.length_cons]
      omega
theorem part_size {p : Part} (h : chk p = true) : 0 ≤ p.f1 ∧ p.f1 ≤ 2097152 ∧ p.f3.length ≤ 512 ∧ p.f2.size = 64 := by
  obtain ⟨_, _, h3, h4, h5⟩ := chk_parts h
  unfold Pc at h3 h4
  split at h3
  · cases h3
  · rename_i hl
    rw [if_neg hl] at h4
    have := pcs_bound p.f3 0 (by omega)
    unfold D at h5
    rw [Bool.and_eq_true, decide_eq_true_eq] at h5
    refine ⟨by omega, by omega, by omega, h5.2⟩
theorem look_at (l : List Part) (h : Good l) (n : Int) (hn : wf n) : (∃ i, parts_find.f l n = some (i, false) ∧ look l n = none) ∨ (∃ m, m < l.length ∧ parts_find.f l n = some ((m : Int), true) ∧ look l n = some (rdP l m)) := by
  cases hk : look l n with
  | none =>
    obtain ⟨i, hi⟩ := find_no l h n hn (look_none hk)
    exact .inl ⟨i, hi, rfl⟩
  | some p =>
    obtain ⟨hp, rfl⟩ := look_some hk
    obtain ⟨m, hm⟩ := List.mem_iff_getElem?.1 hp
    obtain ⟨hm1, hm2⟩ := List.getElem?_eq_some_iff.1 hm
    have e : rdP l m = p := by
      show l.getD (m : Int).toNat _ = _
      rw [Int.toNat_natCast, List.getD_eq_getElem?_getD, hm]
      rfl
    refine .inr ⟨m, hm1, ?_, by rw [e]⟩
    rw [← e]
    exact find_yes l h m hm1
theorem join_go (l : List Part) (h : Good l) (pk : List Pick) (hpk : pk.length ≤ 1048576) (hw : ∀ x ∈ pk, wf x.f0) : ∀ n i k (s : Int) ps ss b, i + n = pk.length → n + 3 < k → 0 ≤ s → s ≤ 2097152 * i → ps.length ≤ 512 * i → ss.length = i → (∀ t ∈ ss, t.size = 64) →
    parts_Join.l1 k l pk ss b pk (pk.length : Int) (i : Int) 0 false s (⟨#[]⟩ : ByteArray) ps = some (jfin (jn l (pk.drop i) s ps ss b)) := by
  intro n
  induction n with
  | zero =>
    intro i k s ps ss b hi hk h0 h1 h2 h3 h4
    obtain ⟨k, rfl⟩ : ∃ j, k = j + 2 := ⟨k - 2, by omega⟩
    rw [parts_Join.l1, if_neg (by omega), List.drop_of_length_le (by omega), jn]
    cases b
    · simp only [Bool.false_eq_true, if_false, jfin]
      have ht := tag_eq ss h4 (by omega)
      by_cases hs : s > 1048576
      · rw [if_pos hs, if_pos (.inl hs), parts_Join.j3, if_pos rfl]
        rfl
      · rw [if_neg hs]
        by_cases hp : ps.length > 512
        · rw [if_pos (.inr hp), decide_eq_true (by omega), parts_Join.j3, if_pos rfl]
          rfl
        · rw [if_neg (by omega), decide_eq_false (by omega), parts_Join.j3, if_neg (by decide)]
          obtain ⟨t, ht1, ht2⟩ := Option.bind_eq_some_iff.1 ht
          obtain ⟨u, hu1, hu2⟩ := Option.bind_eq_some_iff.1 ht2
          cases hu2
          rw [ht1, Option.bind_some, hu1, Option.bind_some]
    · rfl
  | succ n ih =>
    intro i k s ps ss b hi hk h0 h1 h2 h3 h4
    obtain ⟨k, rfl⟩ : ∃ j, k = j + 1 := ⟨k - 1, by omega⟩
    rw [parts_Join.l1, if_pos (by omega), if_pos (by omega), if_pos (by omega), dropK pk i (by omega), jn]
    rcases look_at l h (rdK pk i).f0 (hw _ (memK pk i (by omega))) with ⟨q, hf, hl⟩ | ⟨m, hm, hf, hl⟩
    · rw [hf, Option.bind_some, hl]
      rfl
    · rw [hf, Option.bind_some, hl]
      have hc := part_size (h.chk _ (memP l m hm))
      show (if true = true then (if (0 : Int) ≤ m then (if (m : Int) < (l.length : Int) then (if (rdP l m).f2.toList = (rdK pk i).f1.toList then _ else _) else _) else _) else _) = _
      rw [if_pos rfl, if_pos (by omega), if_pos (by omega)]
      by_cases he : (rdP l m).f2.toList = (rdK pk i).f1.toList
      · rw [if_pos he]
        show (if ps.length + (rdP l m).f3.length < 5864062014805 then _ else _) = some (jfin (if (rdP l m).f2.toList = (rdK pk i).f1.toList then _ else _))
        rw [if_pos he, if_pos (by omega), Option.bind_some, if_pos (by omega), Option.bind_some, w1 i (by omega)]
        have hw2 : wrap64 (s + (rdP l m).f1) = s + (rdP l m).f1 := IntWalk.wrap64_in _ (by omega)
        have hw3 : wrap64 ((pk.length : Int) - 1) = (pk.length : Int) - 1 := IntWalk.wrap64_in _ (by omega)
        have hrec := fun b => ih (i + 1) k (s + (rdP l m).f1) (ps ++ (rdP l m).f3) (ss ++ [(rdP l m).f2]) b (by omega) (by omega) (by omega) (by omega) (by rw [List.length_append]; omega) (by rw [List.length_append, h3]; rfl) (fun t ht => by
          rcases List.mem_append.1 ht with ht | ht
          · exact h4 t ht
          · simp at ht; subst ht; exact hc.2.2.2)
        have hemp : (pk.drop (i + 1)).isEmpty = !decide (n ≠ 0) := by
          by_cases hn : n = 0
          · rw [List.drop_of_length_le (by omega)]; simp [hn]
          · have : (pk.drop (i + 1)).length ≠ 0 := by rw [List.length_drop]; omega
            rw [decide_eq_true hn]
            cases hd : pk.drop (i + 1) with
            | nil => rw [hd] at this; simp at this
            | cons _ _ => rfl
        rw [hemp, Bool.not_not]
        cases b
        · rw [if_neg (by decide)]
          show (if (i : Int) < wrap64 ((pk.length : Int) - 1) then parts_Join.l1 k l pk _ (decide ((rdP l m).f1 < 64)) pk _ _ _ _ (wrap64 (s + (rdP l m).f1)) _ _ else parts_Join.l1 k l pk _ false pk _ _ _ _ (wrap64 (s + (rdP l m).f1)) _ _) = _
          rw [hw2, hw3]
          by_cases hn : n = 0
          · rw [if_neg (by omega), hrec]
            simp [hn]
          · rw [if_pos (by omega), hrec]
            simp [hn]
        · rw [if_pos rfl]
          show parts_Join.l1 k l pk _ true pk _ _ _ _ (wrap64 (s + (rdP l m).f1)) _ _ = _
          rw [hw2, hrec]
          simp
      · rw [if_neg he]
        show _ = some (jfin (if (rdP l m).f2.toList = (rdK pk i).f1.toList then _ else none))
        rw [if_neg he]
        rfl
/-- Picks in order. -/
def incr : List Pick → Bool
  | [] => true
  | [_] => true
  | x :: y :: r => decide (x.f0 < y.f0) && incr (y :: r)
def jspec (l : List Part) (pk : List Pick) : JR := if rB none l = true ∧ pk ≠ [] then (if incr pk = true then jfin (jn l pk 0 [] [] false) else bad 1) else bad 1
theorem incr_go (l : List Part) (h : Good l) (pk : List Pick) (hpk : pk.length ≤ 1048576) (hw : ∀ x ∈ pk, wf x.f0) : ∀ n i k, i + 1 + n = pk.length → n + pk.length + 5 < k → parts_Join.l0 k l pk ((i + 1 : Nat) : Int) = some (if incr (pk.drop i) = true then jfin (jn l pk 0 [] [] false) else bad 1) := by
  intro n
  induction n with
  | zero =>
    intro i k hi hk
    obtain ⟨k, rfl⟩ : ∃ j, k = j + 1 := ⟨k - 1, by omega⟩
    rw [parts_Join.l0, if_neg (by omega), dropK pk i (by omega), List.drop_of_length_le (by omega), incr, if_pos rfl]
    exact join_go l h pk hpk hw pk.length 0 k 0 [] [] false (by omega) (by omega) (by omega) (by omega) (by simp) rfl (by simp)
  | succ n ih =>
    intro i k hi hk
    obtain ⟨k, rfl⟩ : ∃ j, k = j + 1 := ⟨k - 1, by omega⟩
    have e : wrap64 (((i + 1 : Nat) : Int) - 1) = (i : Int) := by rw [IntWalk.wrap64_in _ (by omega)]; omega
    rw [parts_Join.l0, if_pos (by omega), if_pos (by omega), e, if_pos (by omega), if_pos (by omega), dropK pk i (by omega), dropK pk (i + 1) (by omega), incr, w1 (i + 1) (by omega), ih (i + 1) k (by omega) (by omega), dropK pk (i + 1) (by omega)]
    show (if (rdK pk (i + 1)).f0 ≤ (rdK pk i).f0 then some (bad 1) else _) = _
    by_cases h1 : (rdK pk (i + 1)).f0 ≤ (rdK pk i).f0
    · rw [if_pos h1, decide_eq_false (by omega), Bool.false_and, if_neg (by decide)]
    · rw [if_neg h1, decide_eq_true (by omega), Bool.true_and]
theorem join_eq (l : List Part) (hl : Small l) (pk : List Pick) (hpk : pk.length ≤ 1048576) (hw : ∀ x ∈ pk, wf x.f0) (k : Nat) (hk : 5000000 ≤ k) : parts_Join.f k l pk = some (jspec l pk) := by
  obtain ⟨k, rfl⟩ : ∃ j, k = j + 1 := ⟨k - 1, by omega⟩
  unfold parts_Join.f jspec
  rw [right_eq l hl (k + 1) (by omega), Option.bind_some]
  cases hr : rB none l
  · rw [if_neg (by decide), if_neg (by simp), parts_Join.j0, if_pos rfl]
    rfl
  · rw [if_pos rfl]
    cases pk with
    | nil =>
      rw [if_neg (by simp)]
      show parts_Join.j0 (k + 1) l [] true = _
      rw [parts_Join.j0, if_pos rfl]
      rfl
    | cons x r =>
      have e : (((x :: r).length : Int) == 0) = false := by simp; omega
      rw [if_pos ⟨rfl, by simp⟩, e, parts_Join.j0, if_neg (by decide)]
      exact incr_go l (Good.of hl hr) (x :: r) hpk hw r.length 0 k (by simp; omega) (by simp only [List.length_cons] at hpk ⊢; omega)
end Go.Proofs.YtoiockmmlanimaaDoor.Pure
end
section
/- Layer 14, the plain side: the law's worked example. No program in sight. -/
namespace Go.Proofs.YtoiockmmlanimaaDoor.Pure
open Go.RowKit Go.Proofs.YtoiockmmlanimaaDoor.Oj Go.Proofs.YtoiockmmlanimaaDoorW.PrintWords Go.Proofs.YtoiockmmlanimaaDoorW.PrintLast Go.Proofs.YtoiockmmlanimaaDoorW.PrintMore
set_option linter.unusedVariables false
set_option linter.unusedSimpArgs false
set_option maxRecDepth 100000
theorem up {α : Type} {f : Nat → Option α} (h : ∀ k, LeO (f k) (f (k + 1))) {r : α} {k : Nat} (h0 : f k = some r) : ∀ n, f (k + n) = some r
  | 0 => h0
  | n + 1 => h (k + n) r (up h h0 n)
theorem up_to {α : Type} {f : Nat → Option α} (h : ∀ k, LeO (f k) (f (k + 1))) {r : α} {k m : Nat} (h0 : f k = some r) (hm : k ≤ m) : f m = some r := by
  have := up h h0 (m - k)
  rwa [Nat.add_sub_cancel' hm] at this
def Z : ByteArray := strOfNums (List.replicate 64 48)
theorem zeros0 : stowagelaw14_zeros.f 100 = some Z := by kernel_rfl
theorem put1 : parts_Put.f 100 ([] : List Part) 2 1 Z [⟨Z, 1⟩] = some ([⟨2, 1, Z, [⟨Z, 1⟩]⟩], 0) := by kernel_rfl
theorem put2 : parts_Put.f 100 ([⟨2, 1, Z, [⟨Z, 1⟩]⟩] : List Part) 1 64 Z [⟨Z, 64⟩] = some ([⟨1, 64, Z, [⟨Z, 64⟩]⟩, ⟨2, 1, Z, [⟨Z, 1⟩]⟩], 0) := by kernel_rfl
abbrev AW : List Part := [⟨1, 64, Z, [⟨Z, 64⟩]⟩, ⟨2, 1, Z, [⟨Z, 1⟩]⟩]
theorem Z_small : Z.size ≤ 1048576 := by decide +kernel
theorem aw_small : Small AW := ⟨by decide, fun p hp => by
  rcases List.mem_cons.1 hp with rfl | hp
  · exact ⟨Z_small, fun y hy => by simp at hy; subst hy; exact Z_small, by decide⟩
  · simp at hp
    subst hp
    exact ⟨Z_small, fun y hy => by simp at hy; subst hy; exact Z_small, by decide⟩⟩
theorem aw_right : rB none AW = true := by kernel_rfl
theorem aw_join (k : Nat) (hk : 5000000 ≤ k) : parts_Join.f k AW [⟨1, Z⟩, ⟨2, Z⟩] = some (0, false, 65, sum64 [Z, Z], [⟨Z, 64⟩, ⟨Z, 1⟩], 0) := by
  rw [join_eq AW aw_small _ (by decide) (fun x hx => by
    rcases List.mem_cons.1 hx with rfl | hx
    · exact ⟨by decide, by decide⟩
    · simp at hx
      subst hx
      exact ⟨by decide, by decide⟩) k hk]
  unfold jspec
  rw [if_pos ⟨aw_right, by simp⟩, if_pos (show incr [⟨1, Z⟩, ⟨2, Z⟩] = true from rfl)]
  have hl1 : look AW 1 = some ⟨1, 64, Z, [⟨Z, 64⟩]⟩ := by rfl
  have hl2 : look AW 2 = some ⟨2, 1, Z, [⟨Z, 1⟩]⟩ := by rfl
  rw [jn]
  show some (jfin (match look AW 1 with | none => none | some p => _)) = _
  rw [hl1]
  show some (jfin (if Z.toList = Z.toList then _ else _)) = _
  rw [if_pos rfl, jn]
  show some (jfin (match look AW 2 with | none => none | some p => _)) = _
  rw [hl2]
  show some (jfin (if Z.toList = Z.toList then _ else _)) = _
  rw [if_pos rfl, jn]
  rfl
theorem awake_true (k : Nat) (hk : 5000000 ≤ k) : stowagelaw14_awake.f k = some true := by
  have hz : stowagelaw14_zeros.f k = some Z := up_to (f := fun k => stowagelaw14_zeros.f k) stowagelaw14_zeros.mono zeros0 (by omega)
  have h1 := up_to (f := fun k => parts_Put.f k ([] : List Part) 2 1 Z [⟨Z, 1⟩]) (fun k => parts_Put.mono _ _ _ _ _ k) put1 (show 100 ≤ k by omega)
  have h2 := up_to (f := fun k => parts_Put.f k ([⟨2, 1, Z, [⟨Z, 1⟩]⟩] : List Part) 1 64 Z [⟨Z, 64⟩]) (fun k => parts_Put.mono _ _ _ _ _ k) put2 (show 100 ≤ k by omega)
  have h3 := aw_join k hk
  unfold stowagelaw14_awake.f stowagelaw14_one.f
  simp only [hz, Option.bind_some]
  simp only [h1, Option.bind_some]
  simp only [h2, Option.bind_some]
  simp only [h3, Option.bind_some]
  rfl
end Go.Proofs.YtoiockmmlanimaaDoor.Pure
end
section
-- Written for this claim by hyb.py, a driver of this session's over the kit's printer.
namespace Go.Proofs.YtoiockmmlanimaaDoor.Oj
open Go.RowKit Go.Proofs.YtoiockmmlanimaaDoorW.PrintWords Go.Proofs.YtoiockmmlanimaaDoorW.PrintLast Go.Proofs.YtoiockmmlanimaaDoorW.PrintMore
attribute [local go_sem] max2_int min2_int max_two min_two max_three min_three max_four min_four   -- for this text's walks alone
set_option linter.unusedVariables false
set_option linter.unusedSimpArgs false

attribute [local go_sem high] eqA85
/-! ### stowageref13_Same: function 14 -/
mutual
def stowageref13_Same.j0 : Nat → Bool → Int → Bool → Int → ByteArray → List (S85) → Int → Bool → Int → ByteArray → List (S85) → Option (Bool)
 | 0, _, _, _, _, _, _, _, _, _, _, _ => none
 | k + 1, x40, x263000, x263001, x263002, x263003, x263004, x264000, x264001, x264002, x264003, x264004 => if x40 = true then (some false) else (stowageref13_Same.l0 k 0 x263000 x263001 x263002 x263003 x263004 x264000 x264001 x264002 x264003 x264004)
def stowageref13_Same.l0 : Nat → Int → Int → Bool → Int → ByteArray → List (S85) → Int → Bool → Int → ByteArray → List (S85) → Option (Bool)
 | 0, _, _, _, _, _, _, _, _, _, _, _ => none
 | k + 1, x5, x263000, x263001, x263002, x263003, x263004, x264000, x264001, x264002, x264003, x264004 => if x5 < (x263004.length : Int) then (if 0 ≤ x5 then (if x5 < (x264004.length : Int) then (if (!((((rd_T85 x263004 x5).f0).toList) == (((rd_T85 x264004 x5).f0).toList)) || (!(((rd_T85 x263004 x5).f1) == ((rd_T85 x264004 x5).f1)))) = true then (some false) else (stowageref13_Same.l0 k (wrap64 (x5 + 1)) x263000 x263001 x263002 x263003 x263004 x264000 x264001 x264002 x264003 x264004)) else (none)) else (none)) else (some true)
end
def stowageref13_Same.f (k : Nat) (a0_0 : Int) (a0_1 : Bool) (a0_2 : Int) (a0_3 : ByteArray) (l0_4 : List (S85)) (a1_0 : Int) (a1_1 : Bool) (a1_2 : Int) (a1_3 : ByteArray) (l1_4 : List (S85)) : Option (Bool) := if a0_0 = a1_0 then (if (a0_1 != a1_1) = true then (stowageref13_Same.j0 k true a0_0 a0_1 a0_2 a0_3 l0_4 a1_0 a1_1 a1_2 a1_3 l1_4) else (if a0_2 = a1_2 then (if a0_3.toList = a1_3.toList then (stowageref13_Same.j0 k ((l0_4.length : Int) != (l1_4.length : Int)) a0_0 a0_1 a0_2 a0_3 l0_4 a1_0 a1_1 a1_2 a1_3 l1_4) else (stowageref13_Same.j0 k true a0_0 a0_1 a0_2 a0_3 l0_4 a1_0 a1_1 a1_2 a1_3 l1_4)) else (stowageref13_Same.j0 k true a0_0 a0_1 a0_2 a0_3 l0_4 a1_0 a1_1 a1_2 a1_3 l1_4))) else (stowageref13_Same.j0 k true a0_0 a0_1 a0_2 a0_3 l0_4 a1_0 a1_1 a1_2 a1_3 l1_4)
theorem stowageref13_Same.mono_l : ∀ k, (∀ y0 y1 y2 y3 y4 y5 y6 y7 y8 y9 y10, LeO (stowageref13_Same.j0 k y0 y1 y2 y3 y4 y5 y6 y7 y8 y9 y10) (stowageref13_Same.j0 (k + 1) y0 y1 y2 y3 y4 y5 y6 y7 y8 y9 y10)) ∧ (∀ y0 y1 y2 y3 y4 y5 y6 y7 y8 y9 y10, LeO (stowageref13_Same.l0 k y0 y1 y2 y3 y4 y5 y6 y7 y8 y9 y10) (stowageref13_Same.l0 (k + 1) y0 y1 y2 y3 y4 y5 y6 y7 y8 y9 y10))
 | 0 => ⟨fun _ _ _ _ _ _ _ _ _ _ _ r h => by simp [stowageref13_Same.j0] at h, fun _ _ _ _ _ _ _ _ _ _ _ r h => by simp [stowageref13_Same.l0] at h⟩
 | k + 1 => by
  obtain ⟨ih0, ih1⟩ := stowageref13_Same.mono_l k
  refine ⟨?_, ?_⟩
  all_goals intros
  all_goals first | unfold stowageref13_Same.j0 | unfold stowageref13_Same.l0
  all_goals repeat' first
  | (with_reducible exact ih0 _ _ _ _ _ _ _ _ _ _ _)
  | (with_reducible exact ih1 _ _ _ _ _ _ _ _ _ _ _)
  | (with_reducible exact LeO.refl _)
  | (with_reducible exact LeO.none _)
  | (with_reducible refine LeO.ite ?_ ?_)
  | (with_reducible refine LeO.bind ?_ (fun _ => ?_))
  | exact ih0 _ _ _ _ _ _ _ _ _ _ _
  | exact ih1 _ _ _ _ _ _ _ _ _ _ _
  | exact LeO.none _
  | refine LeO.ite ?_ ?_
  | refine LeO.bind ?_ (fun _ => ?_)
theorem stowageref13_Same.mono : ∀ a0 a1 a2 a3 a4 a5 a6 a7 a8 a9 k, LeO (stowageref13_Same.f k a0 a1 a2 a3 a4 a5 a6 a7 a8 a9) (stowageref13_Same.f (k + 1) a0 a1 a2 a3 a4 a5 a6 a7 a8 a9) := by
 intro a0 a1 a2 a3 a4 a5 a6 a7 a8 a9 k
 obtain ⟨ih0, ih1⟩ := stowageref13_Same.mono_l k
 unfold stowageref13_Same.f
 repeat' first
   | (with_reducible exact ih0 _ _ _ _ _ _ _ _ _ _ _)
   | (with_reducible exact ih1 _ _ _ _ _ _ _ _ _ _ _)
   | (with_reducible exact LeO.refl _)
   | (with_reducible exact LeO.none _)
   | (with_reducible refine LeO.ite ?_ ?_)
   | (with_reducible refine LeO.bind ?_ (fun _ => ?_))
   | exact ih0 _ _ _ _ _ _ _ _ _ _ _
   | exact ih1 _ _ _ _ _ _ _ _ _ _ _
   | exact LeO.none _
   | refine LeO.ite ?_ ?_
   | refine LeO.bind ?_ (fun _ => ?_)
set_option maxHeartbeats 8000000 in
set_option maxRecDepth 100000 in
theorem stowageref13_Same.calls (k : Nat) (a0_0 : Int) (a0_1 : Bool) (a0_2 : Int) (a0_3 : ByteArray) (A0_4 : Option Addr) (c0_4 : Nat) (l0_4 : List (S85)) (a1_0 : Int) (a1_1 : Bool) (a1_2 : Int) (a1_3 : ByteArray) (A1_4 : Option Addr) (c1_4 : Nat) (l1_4 : List (S85)) (r : Bool) (w : World) (hr0_4 : Kd.C k85 w A0_4 l0_4.length l0_4) (hc0_4 : l0_4.length ≤ c0_4) (hr1_4 : Kd.C k85 w A1_4 l1_4.length l1_4) (hc1_4 : l1_4.length ≤ c1_4) (h : stowageref13_Same.f k a0_0 a0_1 a0_2 a0_3 l0_4 a1_0 a1_1 a1_2 a1_3 l1_4 = some r) :
  Calls Tryd.prog 14 #[.agg #[.int .i64 a0_0, .bool a0_1, .int .i64 a0_2, .string a0_3, .slice A0_4 l0_4.length c0_4], .agg #[.int .i64 a1_0, .bool a1_1, .int .i64 a1_2, .string a1_3, .slice A1_4 l1_4.length c1_4]] w fun e w' => e = .returned (.bool r) ∧ Below w.heap.size w w' := by
 have hu32 := Tryd.underlying32
 have hu85 := Tryd.underlying85
 have HR0_4 := Aside0.mk hr0_4
 have HC0_4 := Aside0.mk hc0_4
 clear hr0_4 hc0_4
 have HR1_4 := Aside0.mk hr1_4
 have HC1_4 := Aside0.mk hc1_4
 clear hr1_4 hc1_4
 have HB := Aside0.mk (Below.refl w.heap.size w)
 have H : (if a0_0 = a1_0 then (if (a0_1 != a1_1) = true then (stowageref13_Same.j0 k true a0_0 a0_1 a0_2 a0_3 l0_4 a1_0 a1_1 a1_2 a1_3 l1_4) else (if a0_2 = a1_2 then (if a0_3.toList = a1_3.toList then (stowageref13_Same.j0 k ((l0_4.length : Int) != (l1_4.length : Int)) a0_0 a0_1 a0_2 a0_3 l0_4 a1_0 a1_1 a1_2 a1_3 l1_4) else (stowageref13_Same.j0 k true a0_0 a0_1 a0_2 a0_3 l0_4 a1_0 a1_1 a1_2 a1_3 l1_4)) else (stowageref13_Same.j0 k true a0_0 a0_1 a0_2 a0_3 l0_4 a1_0 a1_1 a1_2 a1_3 l1_4))) else (stowageref13_Same.j0 k true a0_0 a0_1 a0_2 a0_3 l0_4 a1_0 a1_1 a1_2 a1_3 l1_4)) = some r := h
 clear h
 have HC3 := Aside0.mk H
 clear H
 go_enter Tryd.func14, Tryd.ntmps14
 go_upto_region 1 with (first | ((with_reducible refine gate_dst (N := 2) rfl ?_); (try (refine gate_guard (by rfl) ?_; dsimp only)); refine box_event ?hg (N := 2) ?hd (cs := #[.int .i64 a0_0, .bool a0_1, .int .i64 a0_2, .string a0_3, .slice A0_4 l0_4.length c0_4]) (t := 32) ?hr ?_; (case hd => rfl); (case hg => rfl); (case hr => first | (go_simp; done) | (go_simp; rfl)); intro gb262 hg w4 hbox hb; have n0_ := Aside0.mk (below_step (bw HB.out) hb); have n1_ := Aside0.mk (hbox); have n2_ := Aside0.mk ((by rw [hg]; exact (below_size (bw HB.out)) : w.heap.size ≤ gb262)); have n3_ := Aside0.mk ((by rw [hg]; exact (below_size (bw HB.out)) : w.heap.size ≤ gb262)); clear HB; have HB := n0_; have BK262 := n1_; have GW262 := n2_; have GE262 := n3_; clear n0_ n1_ n2_ n3_; clear hb hbox hg) | ((with_reducible refine gate_dst (N := 3) rfl ?_); (try (refine gate_guard (by rfl) ?_; dsimp only)); refine box_event ?hg (N := 3) ?hd (cs := #[.int .i64 a1_0, .bool a1_1, .int .i64 a1_2, .string a1_3, .slice A1_4 l1_4.length c1_4]) (t := 32) ?hr ?_; (case hd => rfl); (case hg => rfl); (case hr => first | (go_simp; done) | (go_simp; rfl)); intro gb263 hg w5 hbox hb; have n0_ := Aside0.mk (blk_below (g := gb262) (o := .cells #[.int .i64 a0_0, .bool a0_1, .int .i64 a0_2, .string a0_3, .slice A0_4 l0_4.length c0_4] 32 (0, 0)) (bk BK262.out) hb); have n1_ := Aside0.mk (below_step (bws HB.out) hb); have n2_ := Aside0.mk (hbox); have n3_ := Aside0.mk ((by rw [hg]; exact (below_size (bws HB.out)) : w.heap.size ≤ gb263)); have n4_ := Aside0.mk ((by rw [hg]; exact (below_size (bws HB.out)) : w.heap.size ≤ gb263)); have n5_ := Aside0.mk ((by rw [hg]; exact Nat.ne_of_lt (blk_lt (g := gb262) (o := .cells #[.int .i64 a0_0, .bool a0_1, .int .i64 a0_2, .string a0_3, .slice A0_4 l0_4.length c0_4] 32 (0, 0)) (bk BK262.out)) : gb262 ≠ gb263)); have n6_ := Aside0.mk ((by rw [hg]; exact Nat.ne_of_gt (blk_lt (g := gb262) (o := .cells #[.int .i64 a0_0, .bool a0_1, .int .i64 a0_2, .string a0_3, .slice A0_4 l0_4.length c0_4] 32 (0, 0)) (bk BK262.out)) : gb263 ≠ gb262)); clear BK262; clear HB; have BK262 := n0_; have HB := n1_; have BK263 := n2_; have GW263 := n3_; have GE263 := n4_; have NB262_263 := n5_; have NB263_262 := n6_; clear n0_ n1_ n2_ n3_ n4_ n5_ n6_; clear hb hbox hg))
 repeat (go_quiet (first | ((with_reducible refine gate_dst (N := 2) rfl ?_); (try (refine gate_guard (by rfl) ?_; dsimp only)); refine box_event ?hg (N := 2) ?hd (cs := #[.int .i64 a0_0, .bool a0_1, .int .i64 a0_2, .string a0_3, .slice A0_4 l0_4.length c0_4]) (t := 32) ?hr ?_; (case hd => rfl); (case hg => rfl); (case hr => first | (go_simp; done) | (go_simp; rfl)); intro gb262 hg w4 hbox hb; have n0_ := Aside0.mk (below_step (bw HB.out) hb); have n1_ := Aside0.mk (hbox); have n2_ := Aside0.mk ((by rw [hg]; exact (below_size (bw HB.out)) : w.heap.size ≤ gb262)); have n3_ := Aside0.mk ((by rw [hg]; exact (below_size (bw HB.out)) : w.heap.size ≤ gb262)); clear HB; have HB := n0_; have BK262 := n1_; have GW262 := n2_; have GE262 := n3_; clear n0_ n1_ n2_ n3_; clear hb hbox hg) | ((with_reducible refine gate_dst (N := 3) rfl ?_); (try (refine gate_guard (by rfl) ?_; dsimp only)); refine box_event ?hg (N := 3) ?hd (cs := #[.int .i64 a1_0, .bool a1_1, .int .i64 a1_2, .string a1_3, .slice A1_4 l1_4.length c1_4]) (t := 32) ?hr ?_; (case hd => rfl); (case hg => rfl); (case hr => first | (go_simp; done) | (go_simp; rfl)); intro gb263 hg w5 hbox hb; have n0_ := Aside0.mk (blk_below (g := gb262) (o := .cells #[.int .i64 a0_0, .bool a0_1, .int .i64 a0_2, .string a0_3, .slice A0_4 l0_4.length c0_4] 32 (0, 0)) (bk BK262.out) hb); have n1_ := Aside0.mk (below_step (bws HB.out) hb); have n2_ := Aside0.mk (hbox); have n3_ := Aside0.mk ((by rw [hg]; exact (below_size (bws HB.out)) : w.heap.size ≤ gb263)); have n4_ := Aside0.mk ((by rw [hg]; exact (below_size (bws HB.out)) : w.heap.size ≤ gb263)); have n5_ := Aside0.mk ((by rw [hg]; exact Nat.ne_of_lt (blk_lt (g := gb262) (o := .cells #[.int .i64 a0_0, .bool a0_1, .int .i64 a0_2, .string a0_3, .slice A0_4 l0_4.length c0_4] 32 (0, 0)) (bk BK262.out)) : gb262 ≠ gb263)); have n6_ := Aside0.mk ((by rw [hg]; exact Nat.ne_of_gt (blk_lt (g := gb262) (o := .cells #[.int .i64 a0_0, .bool a0_1, .int .i64 a0_2, .string a0_3, .slice A0_4 l0_4.length c0_4] 32 (0, 0)) (bk BK262.out)) : gb263 ≠ gb262)); clear BK262; clear HB; have BK262 := n0_; have HB := n1_; have BK263 := n2_; have GW263 := n3_; have GE263 := n4_; have NB262_263 := n5_; have NB263_262 := n6_; clear n0_ n1_ n2_ n3_ n4_ n5_ n6_; clear hb hbox hg)); go_upto_region 1 with (first | ((with_reducible refine gate_dst (N := 2) rfl ?_); (try (refine gate_guard (by rfl) ?_; dsimp only)); refine box_event ?hg (N := 2) ?hd (cs := #[.int .i64 a0_0, .bool a0_1, .int .i64 a0_2, .string a0_3, .slice A0_4 l0_4.length c0_4]) (t := 32) ?hr ?_; (case hd => rfl); (case hg => rfl); (case hr => first | (go_simp; done) | (go_simp; rfl)); intro gb262 hg w4 hbox hb; have n0_ := Aside0.mk (below_step (bw HB.out) hb); have n1_ := Aside0.mk (hbox); have n2_ := Aside0.mk ((by rw [hg]; exact (below_size (bw HB.out)) : w.heap.size ≤ gb262)); have n3_ := Aside0.mk ((by rw [hg]; exact (below_size (bw HB.out)) : w.heap.size ≤ gb262)); clear HB; have HB := n0_; have BK262 := n1_; have GW262 := n2_; have GE262 := n3_; clear n0_ n1_ n2_ n3_; clear hb hbox hg) | ((with_reducible refine gate_dst (N := 3) rfl ?_); (try (refine gate_guard (by rfl) ?_; dsimp only)); refine box_event ?hg (N := 3) ?hd (cs := #[.int .i64 a1_0, .bool a1_1, .int .i64 a1_2, .string a1_3, .slice A1_4 l1_4.length c1_4]) (t := 32) ?hr ?_; (case hd => rfl); (case hg => rfl); (case hr => first | (go_simp; done) | (go_simp; rfl)); intro gb263 hg w5 hbox hb; have n0_ := Aside0.mk (blk_below (g := gb262) (o := .cells #[.int .i64 a0_0, .bool a0_1, .int .i64 a0_2, .string a0_3, .slice A0_4 l0_4.length c0_4] 32 (0, 0)) (bk BK262.out) hb); have n1_ := Aside0.mk (below_step (bws HB.out) hb); have n2_ := Aside0.mk (hbox); have n3_ := Aside0.mk ((by rw [hg]; exact (below_size (bws HB.out)) : w.heap.size ≤ gb263)); have n4_ := Aside0.mk ((by rw [hg]; exact (below_size (bws HB.out)) : w.heap.size ≤ gb263)); have n5_ := Aside0.mk ((by rw [hg]; exact Nat.ne_of_lt (blk_lt (g := gb262) (o := .cells #[.int .i64 a0_0, .bool a0_1, .int .i64 a0_2, .string a0_3, .slice A0_4 l0_4.length c0_4] 32 (0, 0)) (bk BK262.out)) : gb262 ≠ gb263)); have n6_ := Aside0.mk ((by rw [hg]; exact Nat.ne_of_gt (blk_lt (g := gb262) (o := .cells #[.int .i64 a0_0, .bool a0_1, .int .i64 a0_2, .string a0_3, .slice A0_4 l0_4.length c0_4] 32 (0, 0)) (bk BK262.out)) : gb263 ≠ gb262)); clear BK262; clear HB; have BK262 := n0_; have HB := n1_; have BK263 := n2_; have GW263 := n3_; have GE263 := n4_; have NB262_263 := n5_; have NB263_262 := n6_; clear n0_ n1_ n2_ n3_ n4_ n5_ n6_; clear hb hbox hg)))
 (try simp only [Act.put, List.setIfInBounds_toArray, List.set_cons_zero, List.set_cons_succ])
 go_cut [40] (fun v40 wc => ∃ (kq : Nat) (x40_2 : Bool), v40 = .bool x40_2 ∧ Aside0 (stowageref13_Same.j0 kq x40_2 a0_0 a0_1 a0_2 a0_3 l0_4 a1_0 a1_1 a1_2 a1_3 l1_4 = some r) ∧ Aside0 (kq ≤ k) ∧ Aside0 (wc.heap[gb262]? = some (.cells #[.int .i64 a0_0, .bool a0_1, .int .i64 a0_2, .string a0_3, (.slice A0_4 l0_4.length c0_4)] 32 (0, 0))) ∧ Aside0 (wc.heap[gb263]? = some (.cells #[.int .i64 a1_0, .bool a1_1, .int .i64 a1_2, .string a1_3, (.slice A1_4 l1_4.length c1_4)] 32 (0, 0))) ∧ Aside0 (Below w.heap.size w wc))
 case first =>
  have H := HC3.out
  clear HC3
  by_cases c6 : a0_0 = a1_0
  ·
   rw [if_pos c6] at H
   have c6b0 : (a0_0 == a1_0) = true := beq_iff_eq.mpr c6
   have c6b1 : (a0_0 != a1_0) = false := bne_eq_false_iff_eq.mpr c6
   clear c6
   (first | rw [c6b0] | (simp only [i64_w, i32_w]; rw [c6b0]) | skip)
   by_cases c7 : (a0_1 != a1_1) = true
   ·
    rw [if_pos c7] at H
    have c7b0 : (a0_1 != a1_1) = true := c7
    (try (have c7b1 : decide (a0_1 = a1_1) = false := by simpa using c7))
    (try (have c7b2 : (a0_1 == a1_1) = false := by simpa using c7))
    (try (have c7b3 : ¬ (a0_1 = a1_1) := by simpa using c7))
    clear c7
    have H' := Aside0.mk H
    clear H
    have hnb8 := NB262_263.out
    have hnc8 := NB263_262.out
    obtain ⟨hcz9_0, hcz9_1, hcz9_2, hcz9_3, hcz9_4, hfz9_0, hfz9_1, hfz9_2, hfz9_3, hfz9_4⟩ := cz5 BK262.out
    obtain ⟨hcz10_0, hcz10_1, hcz10_2, hcz10_3, hcz10_4, hfz10_0, hfz10_1, hfz10_2, hfz10_3, hfz10_4⟩ := cz5 BK263.out
    go_wp2
    repeat (go_quiet (fail); try go_wp2)
    go_meet
    case rel => exact ⟨_, (true), (by first | rfl | (simp; done) | (simp [*]; done)), H', ⟨by first | omega | exact Nat.le_refl _⟩, ⟨bk BK262.out⟩, ⟨bk BK263.out⟩, ⟨bws HB.out⟩⟩
   ·
    rw [if_neg c7] at H
    have c7b0 : (a0_1 != a1_1) = false := by simpa using c7
    (try (have c7b1 : decide (a0_1 = a1_1) = true := by simpa using c7))
    (try (have c7b2 : (a0_1 == a1_1) = true := by simpa using c7))
    clear c7
    by_cases c11 : a0_2 = a1_2
    ·
     rw [if_pos c11] at H
     have c11b0 : (a0_2 == a1_2) = true := beq_iff_eq.mpr c11
     have c11b1 : (a0_2 != a1_2) = false := bne_eq_false_iff_eq.mpr c11
     clear c11
     by_cases c12 : a0_3.toList = a1_3.toList
     ·
      rw [if_pos c12] at H
      have c12b0 : (a0_3.toList == a1_3.toList) = true := beq_iff_eq.mpr c12
      have c12b1 : (a0_3.toList != a1_3.toList) = false := bne_eq_false_iff_eq.mpr c12
      clear c12
      have H' := Aside0.mk H
      clear H
      have hnb13 := NB262_263.out
      have hnc13 := NB263_262.out
      obtain ⟨hcz14_0, hcz14_1, hcz14_2, hcz14_3, hcz14_4, hfz14_0, hfz14_1, hfz14_2, hfz14_3, hfz14_4⟩ := cz5 BK262.out
      obtain ⟨hcz15_0, hcz15_1, hcz15_2, hcz15_3, hcz15_4, hfz15_0, hfz15_1, hfz15_2, hfz15_3, hfz15_4⟩ := cz5 BK263.out
      go_wp2
      repeat (go_quiet (fail); try go_wp2)
      go_meet
      case rel => exact ⟨_, (((l0_4.length : Int) != (l1_4.length : Int))), (by first | rfl | (simp; done) | (simp [*]; done)), H', ⟨by first | omega | exact Nat.le_refl _⟩, ⟨bk BK262.out⟩, ⟨bk BK263.out⟩, ⟨bws HB.out⟩⟩
     ·
      rw [if_neg c12] at H
      have c12b0 : (a0_3.toList == a1_3.toList) = false := beq_eq_false_iff_ne.mpr c12
      have c12b1 : (a0_3.toList != a1_3.toList) = true := bne_iff_ne.mpr c12
      have H' := Aside0.mk H
      clear H
      have hnb16 := NB262_263.out
      have hnc16 := NB263_262.out
      obtain ⟨hcz17_0, hcz17_1, hcz17_2, hcz17_3, hcz17_4, hfz17_0, hfz17_1, hfz17_2, hfz17_3, hfz17_4⟩ := cz5 BK262.out
      obtain ⟨hcz18_0, hcz18_1, hcz18_2, hcz18_3, hcz18_4, hfz18_0, hfz18_1, hfz18_2, hfz18_3, hfz18_4⟩ := cz5 BK263.out
      go_wp2
      repeat (go_quiet (fail); try go_wp2)
      go_meet
      case rel => exact ⟨_, (true), (by first | rfl | (simp; done) | (simp [*]; done)), H', ⟨by first | omega | exact Nat.le_refl _⟩, ⟨bk BK262.out⟩, ⟨bk BK263.out⟩, ⟨bws HB.out⟩⟩
    ·
     rw [if_neg c11] at H
     have c11b0 : (a0_2 == a1_2) = false := beq_eq_false_iff_ne.mpr c11
     have c11b1 : (a0_2 != a1_2) = true := bne_iff_ne.mpr c11
     have H' := Aside0.mk H
     clear H
     have hnb19 := NB262_263.out
     have hnc19 := NB263_262.out
     obtain ⟨hcz20_0, hcz20_1, hcz20_2, hcz20_3, hcz20_4, hfz20_0, hfz20_1, hfz20_2, hfz20_3, hfz20_4⟩ := cz5 BK262.out
     obtain ⟨hcz21_0, hcz21_1, hcz21_2, hcz21_3, hcz21_4, hfz21_0, hfz21_1, hfz21_2, hfz21_3, hfz21_4⟩ := cz5 BK263.out
     go_wp2
     repeat (go_quiet (fail); try go_wp2)
     go_meet
     case rel => exact ⟨_, (true), (by first | rfl | (simp; done) | (simp [*]; done)), H', ⟨by first | omega | exact Nat.le_refl _⟩, ⟨bk BK262.out⟩, ⟨bk BK263.out⟩, ⟨bws HB.out⟩⟩
  ·
   rw [if_neg c6] at H
   have c6b0 : (a0_0 == a1_0) = false := beq_eq_false_iff_ne.mpr c6
   have c6b1 : (a0_0 != a1_0) = true := bne_iff_ne.mpr c6
   (first | rw [c6b0] | (simp only [i64_w, i32_w]; rw [c6b0]) | skip)
   have H' := Aside0.mk H
   clear H
   have hnb22 := NB262_263.out
   have hnc22 := NB263_262.out
   obtain ⟨hcz23_0, hcz23_1, hcz23_2, hcz23_3, hcz23_4, hfz23_0, hfz23_1, hfz23_2, hfz23_3, hfz23_4⟩ := cz5 BK262.out
   obtain ⟨hcz24_0, hcz24_1, hcz24_2, hcz24_3, hcz24_4, hfz24_0, hfz24_1, hfz24_2, hfz24_3, hfz24_4⟩ := cz5 BK263.out
   go_wp2
   repeat (go_quiet (fail); try go_wp2)
   go_meet
   case rel => exact ⟨_, (true), (by first | rfl | (simp; done) | (simp [*]; done)), H', ⟨by first | omega | exact Nat.le_refl _⟩, ⟨bk BK262.out⟩, ⟨bk BK263.out⟩, ⟨bws HB.out⟩⟩
 case rest =>
  clear HC3
  try clear c1
  try clear c2
  try clear p2
  try clear c6
  try clear c6b0
  try clear c6b1
  try clear c7
  try clear c7b0
  try clear c7b1
  try clear c7b2
  try clear c8
  try clear c11
  try clear c11b0
  try clear c11b1
  try clear c12
  try clear c12b0
  try clear c12b1
  try clear c13
  try clear c14
  try clear c16
  try clear c19
  try clear c22
  try clear hcz10_0
  try clear hcz10_1
  try clear hcz10_2
  try clear hcz10_3
  try clear hcz10_4
  try clear hcz14_0
  try clear hcz14_1
  try clear hcz14_2
  try clear hcz14_3
  try clear hcz14_4
  try clear hcz15_0
  try clear hcz15_1
  try clear hcz15_2
  try clear hcz15_3
  try clear hcz15_4
  try clear hcz17_0
  try clear hcz17_1
  try clear hcz17_2
  try clear hcz17_3
  try clear hcz17_4
  try clear hcz18_0
  try clear hcz18_1
  try clear hcz18_2
  try clear hcz18_3
  try clear hcz18_4
  try clear hcz20_0
  try clear hcz20_1
  try clear hcz20_2
  try clear hcz20_3
  try clear hcz20_4
  try clear hcz21_0
  try clear hcz21_1
  try clear hcz21_2
  try clear hcz21_3
  try clear hcz21_4
  try clear hcz23_0
  try clear hcz23_1
  try clear hcz23_2
  try clear hcz23_3
  try clear hcz23_4
  try clear hcz24_0
  try clear hcz24_1
  try clear hcz24_2
  try clear hcz24_3
  try clear hcz24_4
  try clear hcz9_0
  try clear hcz9_1
  try clear hcz9_2
  try clear hcz9_3
  try clear hcz9_4
  try clear hfz10_0
  try clear hfz10_1
  try clear hfz10_2
  try clear hfz10_3
  try clear hfz10_4
  try clear hfz14_0
  try clear hfz14_1
  try clear hfz14_2
  try clear hfz14_3
  try clear hfz14_4
  try clear hfz15_0
  try clear hfz15_1
  try clear hfz15_2
  try clear hfz15_3
  try clear hfz15_4
  try clear hfz17_0
  try clear hfz17_1
  try clear hfz17_2
  try clear hfz17_3
  try clear hfz17_4
  try clear hfz18_0
  try clear hfz18_1
  try clear hfz18_2
  try clear hfz18_3
  try clear hfz18_4
  try clear hfz20_0
  try clear hfz20_1
  try clear hfz20_2
  try clear hfz20_3
  try clear hfz20_4
  try clear hfz21_0
  try clear hfz21_1
  try clear hfz21_2
  try clear hfz21_3
  try clear hfz21_4
  try clear hfz23_0
  try clear hfz23_1
  try clear hfz23_2
  try clear hfz23_3
  try clear hfz23_4
  try clear hfz24_0
  try clear hfz24_1
  try clear hfz24_2
  try clear hfz24_3
  try clear hfz24_4
  try clear hfz9_0
  try clear hfz9_1
  try clear hfz9_2
  try clear hfz9_3
  try clear hfz9_4
  obtain ⟨kq, x40_2, rfl, HA, HJ2, BK262, BK263, HB⟩ := hcut
  cases kq with
  | zero => exact absurd HA.out (by simp [stowageref13_Same.j0])
  | succ kj2 =>
   have H := HA.out
   clear HA
   simp only [stowageref13_Same.j0] at H
   by_cases c25 : x40_2 = true
   ·
    subst c25
    have H1 : (some false) = some r := by rw [if_pos rfl] at H; exact H
    clear H
    have H := H1
    clear H1
    obtain rfl := Option.some.inj H
    go_wp2
    repeat (go_quiet (fail); try go_wp2)
    go_ret
    exact ⟨by first | rfl | (simp [errW_none, errW_some] <;> rfl) | (simp [*, errW_none, errW_some] <;> rfl), by repeat (first | (with_reducible first | exact HB.out | apply below_alloc | apply pw_below_drewN | apply below_drew1 | refine below_set ?_ GE262.out | refine below_set ?_ GE263.out) | exact HB.out)⟩
   ·
    replace c25 := Bool.eq_false_iff.mpr c25
    subst c25
    have H1 : (stowageref13_Same.l0 kj2 0 a0_0 a0_1 a0_2 a0_3 l0_4 a1_0 a1_1 a1_2 a1_3 l1_4) = some r := by rw [if_neg (show ¬ (false = true) by decide)] at H; exact H
    clear H
    have H := H1
    clear H1
    have H' := Aside0.mk H
    clear H
    go_wp2
    repeat (go_quiet (fail); try go_wp2)
    go_loopg [5] kj2 (fun kq v5 w' => ∃ (x5_2 : Int), v5 = .int .i64 x5_2 ∧ Aside0 (stowageref13_Same.l0 kq x5_2 a0_0 a0_1 a0_2 a0_3 l0_4 a1_0 a1_1 a1_2 a1_3 l1_4 = some r) ∧ Aside0 (kq ≤ kj2) ∧ Aside0 (w'.heap[gb262]? = some (.cells #[.int .i64 a0_0, .bool a0_1, .int .i64 a0_2, .string a0_3, (.slice A0_4 l0_4.length c0_4)] 32 (0, 0))) ∧ Aside0 (w'.heap[gb263]? = some (.cells #[.int .i64 a1_0, .bool a1_1, .int .i64 a1_2, .string a1_3, (.slice A1_4 l1_4.length c1_4)] 32 (0, 0))) ∧ Aside0 (Below w.heap.size w w'))
    case atStart => exact ⟨(0), (by first | rfl | (simp; done) | (simp [*]; done)), H', ⟨Nat.le_refl _⟩, ⟨bk BK262.out⟩, ⟨bk BK263.out⟩, ⟨bws HB.out⟩⟩
    case round =>
     clear H'
     try clear c1
     try clear c2
     try clear p2
     try clear c6
     try clear c6b0
     try clear c6b1
     try clear c7
     try clear c7b0
     try clear c7b1
     try clear c7b2
     try clear c8
     try clear c11
     try clear c11b0
     try clear c11b1
     try clear c12
     try clear c12b0
     try clear c12b1
     try clear c13
     try clear c14
     try clear c16
     try clear c19
     try clear c22
     try clear c25
     try clear hcz10_0
     try clear hcz10_1
     try clear hcz10_2
     try clear hcz10_3
     try clear hcz10_4
     try clear hcz14_0
     try clear hcz14_1
     try clear hcz14_2
     try clear hcz14_3
     try clear hcz14_4
     try clear hcz15_0
     try clear hcz15_1
     try clear hcz15_2
     try clear hcz15_3
     try clear hcz15_4
     try clear hcz17_0
     try clear hcz17_1
     try clear hcz17_2
     try clear hcz17_3
     try clear hcz17_4
     try clear hcz18_0
     try clear hcz18_1
     try clear hcz18_2
     try clear hcz18_3
     try clear hcz18_4
     try clear hcz20_0
     try clear hcz20_1
     try clear hcz20_2
     try clear hcz20_3
     try clear hcz20_4
     try clear hcz21_0
     try clear hcz21_1
     try clear hcz21_2
     try clear hcz21_3
     try clear hcz21_4
     try clear hcz23_0
     try clear hcz23_1
     try clear hcz23_2
     try clear hcz23_3
     try clear hcz23_4
     try clear hcz24_0
     try clear hcz24_1
     try clear hcz24_2
     try clear hcz24_3
     try clear hcz24_4
     try clear hcz9_0
     try clear hcz9_1
     try clear hcz9_2
     try clear hcz9_3
     try clear hcz9_4
     try clear hfz10_0
     try clear hfz10_1
     try clear hfz10_2
     try clear hfz10_3
     try clear hfz10_4
     try clear hfz14_0
     try clear hfz14_1
     try clear hfz14_2
     try clear hfz14_3
     try clear hfz14_4
     try clear hfz15_0
     try clear hfz15_1
     try clear hfz15_2
     try clear hfz15_3
     try clear hfz15_4
     try clear hfz17_0
     try clear hfz17_1
     try clear hfz17_2
     try clear hfz17_3
     try clear hfz17_4
     try clear hfz18_0
     try clear hfz18_1
     try clear hfz18_2
     try clear hfz18_3
     try clear hfz18_4
     try clear hfz20_0
     try clear hfz20_1
     try clear hfz20_2
     try clear hfz20_3
     try clear hfz20_4
     try clear hfz21_0
     try clear hfz21_1
     try clear hfz21_2
     try clear hfz21_3
     try clear hfz21_4
     try clear hfz23_0
     try clear hfz23_1
     try clear hfz23_2
     try clear hfz23_3
     try clear hfz23_4
     try clear hfz24_0
     try clear hfz24_1
     try clear hfz24_2
     try clear hfz24_3
     try clear hfz24_4
     try clear hfz9_0
     try clear hfz9_1
     try clear hfz9_2
     try clear hfz9_3
     try clear hfz9_4
     try clear p2
     obtain ⟨x5_2, rfl, HA, HK2, BK262, BK263, HB⟩ := hrel
     cases gk with
     | zero => exact absurd HA.out (by simp [stowageref13_Same.l0])
     | succ k2 =>
      have H := HA.out
      clear HA
      simp only [stowageref13_Same.l0] at H
      by_cases c26 : x5_2 < (l0_4.length : Int)
      ·
       rw [if_pos c26] at H
       have c26b0 : decide (x5_2 < (l0_4.length : Int)) = true := decide_eq_true c26
       clear c26
       by_cases c27 : 0 ≤ x5_2
       ·
        rw [if_pos c27] at H
        have c27b0 : decide (0 ≤ x5_2) = true := decide_eq_true c27
        clear c27
        by_cases c28 : x5_2 < (l1_4.length : Int)
        ·
         rw [if_pos c28] at H
         have c28b0 : decide (x5_2 < (l1_4.length : Int)) = true := decide_eq_true c28
         clear c28
         by_cases c29 : (!((((rd_T85 l0_4 x5_2).f0).toList) == (((rd_T85 l1_4 x5_2).f0).toList)) || (!(((rd_T85 l0_4 x5_2).f1) == ((rd_T85 l1_4 x5_2).f1)))) = true
         ·
          rw [if_pos c29] at H
          have c29b0 : (!((((rd_T85 l0_4 x5_2).f0).toList) == (((rd_T85 l1_4 x5_2).f0).toList)) || (!(((rd_T85 l0_4 x5_2).f1) == ((rd_T85 l1_4 x5_2).f1)))) = true := c29
          clear c29
          obtain rfl := Option.some.inj H
          have hnb30 := NB262_263.out
          have hnc30 := NB263_262.out
          obtain ⟨hcz31_0, hcz31_1, hcz31_2, hcz31_3, hcz31_4, hfz31_0, hfz31_1, hfz31_2, hfz31_3, hfz31_4⟩ := cz5 BK262.out
          have p264 : 0 ≤ (x5_2 : Int) := of_decide_eq_true asm
          have q264 : x5_2 < (l0_4.length : Int) := of_decide_eq_true asm
          obtain ⟨ad264, e264, hx264_0, hx264_1⟩ := at_T85 HR0_4.out x5_2 p264 q264
          cases e264
          replace hx264_0 := bc HB.out hx264_0
          replace hx264_1 := bc HB.out hx264_1
          replace p264 := eq_true p264
          replace q264 := eq_true q264
          obtain ⟨hcz32_0, hcz32_1, hcz32_2, hcz32_3, hcz32_4, hfz32_0, hfz32_1, hfz32_2, hfz32_3, hfz32_4⟩ := cz5 BK263.out
          have p265 : 0 ≤ (x5_2 : Int) := of_decide_eq_true asm
          have q265 : x5_2 < (l1_4.length : Int) := of_decide_eq_true asm
          obtain ⟨ad265, e265, hx265_0, hx265_1⟩ := at_T85 HR1_4.out x5_2 p265 q265
          cases e265
          replace hx265_0 := bc HB.out hx265_0
          replace hx265_1 := bc HB.out hx265_1
          replace p265 := eq_true p265
          replace q265 := eq_true q265
          go_wp2
          repeat (go_quiet (fail); try go_wp2)
          go_ret
          exact ⟨by first | rfl | (simp [errW_none, errW_some] <;> rfl) | (simp [*, errW_none, errW_some] <;> rfl), by repeat (first | (with_reducible first | exact HB.out | apply below_alloc | apply pw_below_drewN | apply below_drew1 | refine below_set ?_ GE262.out | refine below_set ?_ GE263.out) | exact HB.out)⟩
         ·
          rw [if_neg c29] at H
          have c29b0 : (!((((rd_T85 l0_4 x5_2).f0).toList) == (((rd_T85 l1_4 x5_2).f0).toList)) || (!(((rd_T85 l0_4 x5_2).f1) == ((rd_T85 l1_4 x5_2).f1)))) = false := by simpa using c29
          clear c29
          have H' := Aside0.mk H
          clear H
          have hnb33 := NB262_263.out
          have hnc33 := NB263_262.out
          obtain ⟨hcz34_0, hcz34_1, hcz34_2, hcz34_3, hcz34_4, hfz34_0, hfz34_1, hfz34_2, hfz34_3, hfz34_4⟩ := cz5 BK262.out
          have p264 : 0 ≤ (x5_2 : Int) := of_decide_eq_true asm
          have q264 : x5_2 < (l0_4.length : Int) := of_decide_eq_true asm
          obtain ⟨ad264, e264, hx264_0, hx264_1⟩ := at_T85 HR0_4.out x5_2 p264 q264
          cases e264
          replace hx264_0 := bc HB.out hx264_0
          replace hx264_1 := bc HB.out hx264_1
          replace p264 := eq_true p264
          replace q264 := eq_true q264
          obtain ⟨hcz35_0, hcz35_1, hcz35_2, hcz35_3, hcz35_4, hfz35_0, hfz35_1, hfz35_2, hfz35_3, hfz35_4⟩ := cz5 BK263.out
          have p265 : 0 ≤ (x5_2 : Int) := of_decide_eq_true asm
          have q265 : x5_2 < (l1_4.length : Int) := of_decide_eq_true asm
          obtain ⟨ad265, e265, hx265_0, hx265_1⟩ := at_T85 HR1_4.out x5_2 p265 q265
          cases e265
          replace hx265_0 := bc HB.out hx265_0
          replace hx265_1 := bc HB.out hx265_1
          replace p265 := eq_true p265
          replace q265 := eq_true q265
          go_wp2
          repeat (go_quiet (fail); try go_wp2)
          go_roundg k2
          case measure => have := HJ2.out; have := HK2.out; omega
          case rel => exact ⟨(wrap64 (x5_2 + 1)), (by first | rfl | (simp; done) | (simp [*]; done)), H', ⟨by have := HJ2.out; have := HK2.out; omega⟩, ⟨bk BK262.out⟩, ⟨bk BK263.out⟩, ⟨bws HB.out⟩⟩
        ·
         rw [if_neg c28] at H
         exact absurd H (by simp)
       ·
        rw [if_neg c27] at H
        exact absurd H (by simp)
      ·
       rw [if_neg c26] at H
       have c26b0 : decide (x5_2 < (l0_4.length : Int)) = false := decide_eq_false c26
       clear c26
       obtain rfl := Option.some.inj H
       have hnb36 := NB262_263.out
       have hnc36 := NB263_262.out
       obtain ⟨hcz37_0, hcz37_1, hcz37_2, hcz37_3, hcz37_4, hfz37_0, hfz37_1, hfz37_2, hfz37_3, hfz37_4⟩ := cz5 BK262.out
       go_wp2
       repeat (go_quiet (fail); try go_wp2)
       go_ret
       exact ⟨by first | rfl | (simp [errW_none, errW_some] <;> rfl) | (simp [*, errW_none, errW_some] <;> rfl), by repeat (first | (with_reducible first | exact HB.out | apply below_alloc | apply pw_below_drewN | apply below_drew1 | refine below_set ?_ GE262.out | refine below_set ?_ GE263.out) | exact HB.out)⟩

/-! ### stowagelaw13_Ref: function 15 -/
def stowagelaw13_Ref.f (k : Nat) (a0_0 : Int) (a0_1 : Bool) (a0_2 : Int) (a0_3 : ByteArray) (l0_4 : List (S63)) : Option (Int × Bool × Int × ByteArray × (List (S85))) := (stowagelaw13_Piece.f k l0_4).bind fun t268 => (some (a0_0, a0_1, a0_2, a0_3, t268))
theorem stowagelaw13_Ref.mono : ∀ a0 a1 a2 a3 a4 k, LeO (stowagelaw13_Ref.f k a0 a1 a2 a3 a4) (stowagelaw13_Ref.f (k + 1) a0 a1 a2 a3 a4) := by
 intro a0 a1 a2 a3 a4 k
 unfold stowagelaw13_Ref.f
 repeat' first
   | (with_reducible exact stowagelaw13_Piece.mono _ _)
   | (with_reducible exact LeO.refl _)
   | (with_reducible exact LeO.none _)
   | (with_reducible refine LeO.ite ?_ ?_)
   | (with_reducible refine LeO.bind ?_ (fun _ => ?_))
   | exact stowagelaw13_Piece.mono _ _
   | exact LeO.none _
   | refine LeO.ite ?_ ?_
   | refine LeO.bind ?_ (fun _ => ?_)
def stowagelaw13_Ref.T1 : Bool × List (List Nat × List Nat) := (true, [([], []), ([0], [0]), ([], []), ([2], [2]), ([], []), ([4], [4]), ([], []), ([6], [6]), ([], []), ([8], [8]), ([9], [9]), ([1, 3, 5, 7, 10], [1, 3, 5, 7, 10]), ([11, 10, 0, 1, 2, 3, 4, 5, 6, 7, 8, 9, 10, 11], [11])])
def stowagelaw13_Ref.B1 : List Nat := [0, 1, 0, 4, 0, 16, 0, 64, 0, 256, 768, 2047, 4095]
theorem stowagelaw13_Ref.tab1 : rtab .any (opsOf Tryd.f15 1) = stowagelaw13_Ref.T1 := by kernel_rfl
theorem stowagelaw13_Ref.bits1 : waitsOk stowagelaw13_Ref.T1.2 stowagelaw13_Ref.B1 = true := by kernel_rfl
set_option maxHeartbeats 8000000 in
set_option maxRecDepth 100000 in
theorem stowagelaw13_Ref.calls (k : Nat) (a0_0 : Int) (a0_1 : Bool) (a0_2 : Int) (a0_3 : ByteArray) (A0_4 : Option Addr) (c0_4 : Nat) (l0_4 : List (S63)) (r1 : Int) (r2 : Bool) (r3 : Int) (r4 : ByteArray) (r5 : List (S85)) (w : World) (hr0_4 : Kd.C k63 w A0_4 l0_4.length l0_4) (hc0_4 : l0_4.length ≤ c0_4) (h : stowagelaw13_Ref.f k a0_0 a0_1 a0_2 a0_3 l0_4 = some (r1, r2, r3, r4, r5)) :
  Calls Tryd.prog 15 #[.agg #[.int .i64 a0_0, .bool a0_1, .int .i64 a0_2, .string a0_3, .slice A0_4 l0_4.length c0_4]] w fun e w' => ∃ v4_ : Value, e = .returned (.agg #[.int .i64 r1, .bool r2, .int .i64 r3, .string r4, v4_]) ∧ Kd.R k85 85 w' w.heap.size (fun _ => True) v4_ r5 ∧ Below w.heap.size w w' := by
 have hu26 := Tryd.underlying26
 have hu32 := Tryd.underlying32
 have HR0_4 := Aside0.mk hr0_4
 have HC0_4 := Aside0.mk hc0_4
 clear hr0_4 hc0_4
 have HB := Aside0.mk (Below.refl w.heap.size w)
 have H : ((stowagelaw13_Piece.f k l0_4).bind fun t268 => (some (a0_0, a0_1, a0_2, a0_3, t268))) = some (r1, r2, r3, r4, r5) := h
 clear h
 replace H := Option.bind_eq_some_iff.mp H
 obtain ⟨t268, A20, H⟩ := H
 replace H : (some (a0_0, a0_1, a0_2, a0_3, t268)) = some (r1, r2, r3, r4, r5) := H
 have A2 := Aside0.mk A20
 clear A20
 simp only [Option.some.injEq, Prod.mk.injEq] at H
 obtain ⟨rfl, rfl, rfl, rfl, rfl⟩ := H
 go_enter Tryd.func15, Tryd.ntmps15
 try go_wp2_with (first | ((with_reducible refine gate_dst (N := 1) rfl ?_); refine box_event ?hg (N := 1) ?hd (cs := #[.int .i64 a0_0, .bool a0_1, .int .i64 a0_2, .string a0_3, .slice A0_4 l0_4.length c0_4]) (t := 26) ?hr ?_; (case hd => rfl); (case hg => rfl); (case hr => first | (go_simp; done) | (go_simp; rfl)); intro gb266 hg w3 hbox hb; have n0_ := Aside0.mk (below_step (bw HB.out) hb); have n1_ := Aside0.mk (hbox); have n2_ := Aside0.mk ((by rw [hg]; exact (below_size (bw HB.out)) : w.heap.size ≤ gb266)); have n3_ := Aside0.mk ((by rw [hg]; exact (below_size (bw HB.out)) : w.heap.size ≤ gb266)); clear HB; have HB := n0_; have BK266 := n1_; have GW266 := n2_; have GE266 := n3_; clear n0_ n1_ n2_ n3_; clear hb hbox hg) | ((with_reducible refine gate_dst (N := 2) rfl ?_); refine box_event ?hg (N := 2) ?hd (cs := #[.int .i64 0, .bool false, .int .i64 0, .string (⟨#[]⟩ : ByteArray), .slice none 0 0]) (t := 32) ?hr ?_; (case hd => rfl); (case hg => rfl); (case hr => first | (go_simp; done) | (go_simp; rfl)); intro gb267 hg w4 hbox hb; have n0_ := Aside0.mk (blk_below (g := gb266) (o := .cells #[.int .i64 a0_0, .bool a0_1, .int .i64 a0_2, .string a0_3, .slice A0_4 l0_4.length c0_4] 26 (0, 0)) (bk BK266.out) hb); have n1_ := Aside0.mk (below_step (bws HB.out) hb); have n2_ := Aside0.mk (hbox); have n3_ := Aside0.mk ((by rw [hg]; exact (below_size (bws HB.out)) : w.heap.size ≤ gb267)); have n4_ := Aside0.mk ((by rw [hg]; exact (below_size (bws HB.out)) : w.heap.size ≤ gb267)); have n5_ := Aside0.mk ((by rw [hg]; exact Nat.ne_of_lt (blk_lt (g := gb266) (o := .cells #[.int .i64 a0_0, .bool a0_1, .int .i64 a0_2, .string a0_3, .slice A0_4 l0_4.length c0_4] 26 (0, 0)) (bk BK266.out)) : gb266 ≠ gb267)); have n6_ := Aside0.mk ((by rw [hg]; exact Nat.ne_of_gt (blk_lt (g := gb266) (o := .cells #[.int .i64 a0_0, .bool a0_1, .int .i64 a0_2, .string a0_3, .slice A0_4 l0_4.length c0_4] 26 (0, 0)) (bk BK266.out)) : gb267 ≠ gb266)); clear BK266; clear HB; have BK266 := n0_; have HB := n1_; have BK267 := n2_; have GW267 := n3_; have GE267 := n4_; have NB266_267 := n5_; have NB267_266 := n6_; clear n0_ n1_ n2_ n3_ n4_ n5_ n6_; clear hb hbox hg))
 replace BK266 := Aside0.mk (blk_drew BK266.out)
 replace BK267 := Aside0.mk (blk_drew BK267.out)
 replace HB := Aside0.mk (below_drew1 HB.out)
 refine start_ (n := 13) (S := fun w' => w'.cell? ⟨gb266, 0, none⟩ = some (.int .i64 a0_0) ∧ w'.cell? ⟨gb266, 1, none⟩ = some (.bool a0_1) ∧ w'.cell? ⟨gb266, 2, none⟩ = some (.int .i64 a0_2) ∧ w'.cell? ⟨gb266, 3, none⟩ = some (.string a0_3) ∧ w'.cell? ⟨gb266, 4, none⟩ = some (.slice A0_4 l0_4.length c0_4)) (ds := []) #[false, false, false, false, false, false, false, false, false, false, false, false, false] (by kernel_rfl) rfl rfl ⟨(blk_cell BK266.out 0).trans rfl, (blk_cell BK266.out 1).trans rfl, (blk_cell BK266.out 2).trans rfl, (blk_cell BK266.out 3).trans rfl, (blk_cell BK266.out 4).trans rfl⟩ (fun hHeld => ?_); refine with_tabW stowagelaw13_Ref.tab1 stowagelaw13_Ref.bits1 (fun HT_ HW_ => ?_)
 generalize w4.drew = w5 at BK266 BK267 HB hHeld ⊢
 refine pu 0 (some 3) HT_.out ?_
 refine pu 2 (some 5) HT_.out ?_
 refine pu 4 (some 7) HT_.out ?_
 refine pu 6 (some 9) HT_.out ?_
 refine pu 8 (some 11) HT_.out ?_
 refine tk 1 (some 4) HT_.out HW_.out hHeld ?_
 refine tk 3 (some 6) HT_.out HW_.out hHeld ?_
 refine tk 5 (some 8) HT_.out HW_.out hHeld ?_
 refine tk 7 (some 10) HT_.out HW_.out hHeld ?_
 refine tk 9 (some 12) HT_.out HW_.out hHeld ?_
 refine one_ (i := 10) (N := some 13) #[true, true, true, true, true, true, true, true, true, true, true, false, false] rfl rfl (one_of HT_.out (by kernel_rfl)) (by decide) (fun K hK => ?_)
 refine goes_ Tryd.func37 (by kernel_rfl) rfl #[.slice A0_4 l0_4.length c0_4] (by rfl) rfl rfl gl ?_
 with_reducible refine (stowagelaw13_Piece.calls k _ _ l0_4 t268 _ ?side1 ?side2 A2.out).mono ?_
 (case side1 => exact kC (Kd.C_below HR0_4.out HB.out))
 (case side2 => exact HC0_4.out)
 rintro e w6 ⟨v269, rfl, ho0, hb⟩
 refine ⟨_, rfl, ?_⟩
 have HO270 := Aside0.mk (Kd.R_lower ho0 (below_size (bws HB.out)))
 replace BK266 := Aside0.mk (blk_below (g := gb266) (o := .cells #[.int .i64 a0_0, .bool a0_1, .int .i64 a0_2, .string a0_3, .slice A0_4 l0_4.length c0_4] 26 (0, 0)) (bk BK266.out) hb)
 replace BK267 := Aside0.mk (blk_below (g := gb267) (o := .cells #[.int .i64 0, .bool false, .int .i64 0, .string (⟨#[]⟩ : ByteArray), .slice none 0 0] 32 (0, 0)) (bk BK267.out) hb)
 replace HB := Aside0.mk (below_step (bws HB.out) hb)
 (try clear hb)
 (try clear hb2)
 (try clear hk)
 (try clear hi)
 (try clear ho0)
 obtain ⟨Ao7, co7, eo7⟩ := Kd.R_slice HO270.out
 (first | subst eo7 | (injection eo7 with f1_ f2_ f3_; have f4_ := f1_.symm; have f5_ := f3_.symm; clear f1_ f2_ f3_; subst f4_; subst f5_))
 refine hK.out _ _ ⟨(blk_cell BK266.out 0).trans rfl, (blk_cell BK266.out 1).trans rfl, (blk_cell BK266.out 2).trans rfl, (blk_cell BK266.out 3).trans rfl, (blk_cell BK266.out 4).trans rfl⟩ (fun hHeld => ?_)
 clear hK K
 refine norm_ (a' := ?_) ?_ ?_
 rotate_left
 ·
  show Act.put _ (some 13) _ = _
  simp only [Act.put, List.setIfInBounds_toArray, List.set_cons_zero, List.set_cons_succ, i64_w, i32_w]
  rfl
 refine pu 11 (some 14) HT_.out ?_
 refine one_ (i := 12) (N := none) #[true, true, true, true, true, true, true, true, true, true, true, true, true] rfl rfl (one_of HT_.out (by kernel_rfl)) (by decide) (fun K hK => ?_)
 have hs8 : w6.cell? ⟨gb267, 0, none⟩ = some (.int .i64 0) := (blk_cell BK267.out 0).trans rfl
 have hfs8 := blk_frozen BK267.out 0
 have hns8_0 := NB266_267.out
 have hms8_0 := NB267_266.out
 have hs9 : w6.cell? ⟨gb267, 1, none⟩ = some (.bool false) := (blk_cell BK267.out 1).trans rfl
 have hfs9 := blk_frozen BK267.out 1
 have hns9_0 := NB266_267.out
 have hms9_0 := NB267_266.out
 have hs10 : w6.cell? ⟨gb267, 2, none⟩ = some (.int .i64 0) := (blk_cell BK267.out 2).trans rfl
 have hfs10 := blk_frozen BK267.out 2
 have hns10_0 := NB266_267.out
 have hms10_0 := NB267_266.out
 have hs11 : w6.cell? ⟨gb267, 3, none⟩ = some (.string (⟨#[]⟩ : ByteArray)) := (blk_cell BK267.out 3).trans rfl
 have hfs11 := blk_frozen BK267.out 3
 have hns11_0 := NB266_267.out
 have hms11_0 := NB267_266.out
 have hs12 : w6.cell? ⟨gb267, 4, none⟩ = some (.slice none 0 0) := (blk_cell BK267.out 4).trans rfl
 have hfs12 := blk_frozen BK267.out 4
 have hns12_0 := NB266_267.out
 have hms12_0 := NB267_266.out
 refine skip_ (w1 := ?_) (by rfl) rfl ?_ ?_
 rotate_left
 ·
  go_simp
  rfl
 refine hK.out _ _ ⟨((cell_far (p := ⟨gb267, _, none⟩) NB266_267.out _).trans (((cell_far (p := ⟨gb267, _, none⟩) NB266_267.out _).trans (((cell_far (p := ⟨gb267, _, none⟩) NB266_267.out _).trans (((cell_far (p := ⟨gb267, _, none⟩) NB266_267.out _).trans (((cell_far (p := ⟨gb267, _, none⟩) NB266_267.out _).trans (hHeld.1)))))))))), ((cell_far (p := ⟨gb267, _, none⟩) NB266_267.out _).trans (((cell_far (p := ⟨gb267, _, none⟩) NB266_267.out _).trans (((cell_far (p := ⟨gb267, _, none⟩) NB266_267.out _).trans (((cell_far (p := ⟨gb267, _, none⟩) NB266_267.out _).trans (((cell_far (p := ⟨gb267, _, none⟩) NB266_267.out _).trans (hHeld.2.1)))))))))), ((cell_far (p := ⟨gb267, _, none⟩) NB266_267.out _).trans (((cell_far (p := ⟨gb267, _, none⟩) NB266_267.out _).trans (((cell_far (p := ⟨gb267, _, none⟩) NB266_267.out _).trans (((cell_far (p := ⟨gb267, _, none⟩) NB266_267.out _).trans (((cell_far (p := ⟨gb267, _, none⟩) NB266_267.out _).trans (hHeld.2.2.1)))))))))), ((cell_far (p := ⟨gb267, _, none⟩) NB266_267.out _).trans (((cell_far (p := ⟨gb267, _, none⟩) NB266_267.out _).trans (((cell_far (p := ⟨gb267, _, none⟩) NB266_267.out _).trans (((cell_far (p := ⟨gb267, _, none⟩) NB266_267.out _).trans (((cell_far (p := ⟨gb267, _, none⟩) NB266_267.out _).trans (hHeld.2.2.2.1)))))))))), ((cell_far (p := ⟨gb267, _, none⟩) NB266_267.out _).trans (((cell_far (p := ⟨gb267, _, none⟩) NB266_267.out _).trans (((cell_far (p := ⟨gb267, _, none⟩) NB266_267.out _).trans (((cell_far (p := ⟨gb267, _, none⟩) NB266_267.out _).trans (((cell_far (p := ⟨gb267, _, none⟩) NB266_267.out _).trans (hHeld.2.2.2.2))))))))))⟩ (fun hHeld => ?_)
 clear hK K
 refine done_ (done_of HT_.out (by kernel_rfl)) ?_
 try go_wp2
 refine bodyPost_ret (results_cell_row rfl _ _ gb267 32 #[.int .i64 a0_0, .bool a0_1, .int .i64 a0_2, .string a0_3, .slice Ao7 t268.length co7] (0, 0) _ rfl (bkp BK267.out) Tryd.underlying32 rfl (by kernel_rfl)) rfl ?_
 exact ⟨_, by first | rfl | (simp [errW_none, errW_some] <;> rfl) | (simp [*, errW_none, errW_some] <;> rfl), by (with_reducible repeat (first | apply Kd.R_alloc | apply Kd.R_drewN | apply Kd.R_drew)); exact Kd.R_mono (Kd.R_far (p := ⟨gb267, 4, none⟩) (Kd.R_far (p := ⟨gb267, 3, none⟩) (Kd.R_far (p := ⟨gb267, 2, none⟩) (Kd.R_far (p := ⟨gb267, 1, none⟩) (Kd.R_far (p := ⟨gb267, 0, none⟩) (Kd.R_types HO270.out BK267.out (by decide)) (fun _ hk => hk.2) (.int .i64 a0_0)) (fun _ hk => hk.2) (.bool a0_1)) (fun _ hk => hk.2) (.int .i64 a0_2)) (fun _ hk => hk.2) (.string a0_3)) (fun _ hk => hk.2) (.slice Ao7 t268.length co7)) (fun _ hk => trivial), by repeat (first | (with_reducible first | exact HB.out | apply below_alloc | apply pw_below_drewN | apply below_drew1 | refine below_set ?_ GE266.out | refine below_set ?_ GE267.out) | exact HB.out)⟩

end Go.Proofs.YtoiockmmlanimaaDoor.Oj
end
section
-- Written for this claim by hyb.py, a driver of this session's over the kit's printer.
namespace Go.Proofs.YtoiockmmlanimaaDoor.Oj
open Go.RowKit Go.Proofs.YtoiockmmlanimaaDoorW.PrintWords Go.Proofs.YtoiockmmlanimaaDoorW.PrintLast Go.Proofs.YtoiockmmlanimaaDoorW.PrintMore
attribute [local go_sem] max2_int min2_int max_two min_two max_three min_three max_four min_four   -- for this text's walks alone
set_option linter.unusedVariables false
set_option linter.unusedSimpArgs false

/-! ### stowagelaw14_PartsJoins: function 3 -/
def stowagelaw14_PartsJoins.f (k : Nat) (l0 : List (S46)) (l1 : List (S61)) : Option (Bool) := (parts_Join.f k l0 l1).bind fun bt271 => ((stowagelaw14_Refs.f k l0).bind fun t280 => ((stowagelaw14_picked.f k l1).bind fun t283 => ((stowageref14_Join.f k t280 t283).bind fun bt286 => ((stowagelaw14_awake.f k).bind fun t295 => (if t295 = true then ((stowagelaw13_Ref.f k bt271.1 bt271.2.1 bt271.2.2.1 bt271.2.2.2.1 bt271.2.2.2.2.1).bind fun bt296 => ((stowageref13_Same.f k bt296.1 bt296.2.1 bt296.2.2.1 bt296.2.2.2.1 bt296.2.2.2.2 bt286.1 bt286.2.1 bt286.2.2.1 bt286.2.2.2.1 bt286.2.2.2.2.1).bind fun t303 => (if t303 = true then (some (bt271.2.2.2.2.2 == bt286.2.2.2.2.2)) else (some false)))) else (some false))))))
theorem stowagelaw14_PartsJoins.mono : ∀ a0 a1 k, LeO (stowagelaw14_PartsJoins.f k a0 a1) (stowagelaw14_PartsJoins.f (k + 1) a0 a1) := by
 intro a0 a1 k
 unfold stowagelaw14_PartsJoins.f
 repeat' first
   | (with_reducible exact parts_Join.mono _ _ _)
   | (with_reducible exact stowagelaw13_Ref.mono _ _ _ _ _ _)
   | (with_reducible exact stowagelaw14_Refs.mono _ _)
   | (with_reducible exact stowagelaw14_awake.mono _)
   | (with_reducible exact stowagelaw14_picked.mono _ _)
   | (with_reducible exact stowageref13_Same.mono _ _ _ _ _ _ _ _ _ _ _)
   | (with_reducible exact stowageref14_Join.mono _ _ _)
   | (with_reducible exact LeO.refl _)
   | (with_reducible exact LeO.none _)
   | (with_reducible refine LeO.ite ?_ ?_)
   | (with_reducible refine LeO.bind ?_ (fun _ => ?_))
   | exact parts_Join.mono _ _ _
   | exact stowagelaw13_Ref.mono _ _ _ _ _ _
   | exact stowagelaw14_Refs.mono _ _
   | exact stowagelaw14_awake.mono _
   | exact stowagelaw14_picked.mono _ _
   | exact stowageref13_Same.mono _ _ _ _ _ _ _ _ _ _ _
   | exact stowageref14_Join.mono _ _ _
   | exact LeO.none _
   | refine LeO.ite ?_ ?_
   | refine LeO.bind ?_ (fun _ => ?_)

end Go.Proofs.YtoiockmmlanimaaDoor.Oj
end
section
/- Layer 14, the plain side: own copies, what is put, parts as the document has them. No program in sight. -/
namespace Go.Proofs.YtoiockmmlanimaaDoor.Pure
open Go.RowKit Go.Proofs.YtoiockmmlanimaaDoor.Oj Go.Proofs.YtoiockmmlanimaaDoorW.PrintWords Go.Proofs.YtoiockmmlanimaaDoorW.PrintLast Go.Proofs.YtoiockmmlanimaaDoorW.PrintMore
set_option linter.unusedVariables false
set_option linter.unusedSimpArgs false
/-! ### Own copies -/
theorem own_go (l : List Part) (hl : l.length ≤ 1048576) (hp : ∀ p ∈ l, p.f3.length ≤ 1048576) : ∀ n i k (acc : List Part), i + n = l.length → n < k → acc.length ≤ i → parts_own.l0 k acc l (l.length : Int) (i : Int) = some (acc ++ l.drop i) := by
  intro n
  induction n with
  | zero =>
    intro i k acc hi hk ha
    obtain ⟨k, rfl⟩ : ∃ j, k = j + 1 := ⟨k - 1, by omega⟩
    rw [parts_own.l0, if_neg (by omega), List.drop_of_length_le (by omega), List.append_nil]
  | succ n ih =>
    intro i k acc hi hk ha
    obtain ⟨k, rfl⟩ : ∃ j, k = j + 1 := ⟨k - 1, by omega⟩
    have hc : api_Piece.f (rdP l i).f3 = some (rdP l i).f3 := by
      unfold api_Piece.f
      rw [if_pos (by have := hp _ (memP l i (by omega)); omega)]
    rw [parts_own.l0, if_pos (by omega), if_pos (by omega), if_pos (by omega)]
    show (api_Piece.f (rdP l i).f3).bind _ = _
    rw [hc, Option.bind_some, if_pos (by omega), w1 i (by omega), ih (i + 1) k _ (by omega) (by omega) (by rw [List.length_append, List.length_singleton]; omega), dropP l i (by omega), List.append_assoc]
    rfl
theorem own_eq (l : List Part) (hl : l.length ≤ 1048576) (hp : ∀ p ∈ l, p.f3.length ≤ 1048576) (k : Nat) (hk : 1048577 ≤ k) : parts_own.f k l = some l := by
  unfold parts_own.f
  exact (own_go l hl hp l.length 0 k [] (by omega) (by omega) (Nat.le_refl _)).trans rfl
/-! ### The search, with the place -/
theorem rd_get (l : List Part) (q : Nat) (hq : q < l.length) : rdP l q = l[q] := by
  show l.getD (q : Int).toNat _ = _
  rw [Int.toNat_natCast, List.getD_eq_getElem?_getD, List.getElem?_eq_getElem hq]
  rfl
theorem find_at (l : List Part) (h : Good l) (t : Int) (h1 : 1 ≤ t) (h2 : t ≤ 100) : ∃ R, R ≤ l.length ∧ (∀ m, m < R → (rdP l m).f0 < t) ∧ (∀ m, R ≤ m → m < l.length → t ≤ (rdP l m).f0) ∧ parts_find.f l t = some ((R : Int), decide (R < l.length ∧ (rdP l R).f0 = t)) := by
  have hll := h.small.len
  obtain ⟨b1, b2, b3⟩ := bs_spec l h t h1 h2 l.length 0 l.length (Nat.zero_le _) (Nat.le_refl _) (Nat.le_refl _) (fun q hq => absurd hq (Nat.not_lt_zero _)) (fun q hq hq2 => absurd hq (by omega))
  obtain ⟨R, hR⟩ : ∃ R, parts_find_bs l t l.length 0 l.length = R := ⟨_, rfl⟩
  rw [hR] at b1 b2 b3
  refine ⟨R, b1, b2, b3, ?_⟩
  unfold parts_find.f
  rw [if_pos (by omega), hR]
  congr 2
  by_cases hl : R < l.length
  · have hc := chk_parts (h.chk _ (memP l R hl))
    rw [decide_eq_true hl, Bool.true_and]
    show (wrap64 ((rdP l R).f0 - t) == 0) = _
    rw [IntWalk.wrap64_in _ (by omega)]
    by_cases he : (rdP l R).f0 = t
    · rw [he, Int.sub_self, decide_eq_true ⟨hl, rfl⟩]
      rfl
    · rw [decide_eq_false (fun hh => he hh.2)]
      simp
      omega
  · rw [decide_eq_false hl, Bool.false_and, decide_eq_false (fun hh => hl hh.1)]
/-! ### What is put -/
def ins (l : List Part) (p : Part) : List Part := l.filter (fun q => decide (q.f0 < p.f0)) ++ p :: l.filter (fun q => decide (p.f0 < q.f0))
theorem rB_of : ∀ (l : List Part) (o : Option Int), (∀ p ∈ l, chk p = true) → l.Pairwise (fun x y => x.f0 < y.f0) → (∀ n, o = some n → ∀ p ∈ l, n < p.f0) → rB o l = true
  | [], _, _, _, _ => rfl
  | p :: r, o, h1, h2, h3 => by
    rw [List.pairwise_cons] at h2
    rw [rB, h1 p List.mem_cons_self, rB_of r (some p.f0) (fun q hq => h1 q (List.mem_cons_of_mem _ hq)) h2.2 (fun n hn q hq => by cases hn; exact h2.1 q hq)]
    cases o with
    | none => rfl
    | some n => simp [okN, h3 n rfl p List.mem_cons_self]
theorem Good.right {l : List Part} (h : Good l) : rB none l = true := rB_of l none h.chk h.asc (fun n hn => by cases hn)
theorem filter_lo (l : List Part) (t : Int) (R : Nat) (hR : R ≤ l.length) (b2 : ∀ m, m < R → (rdP l m).f0 < t) (b3 : ∀ m, R ≤ m → m < l.length → t ≤ (rdP l m).f0) : l.filter (fun q => decide (q.f0 < t)) = l.take R := by
  have e1 : (l.take R).filter (fun q => decide (q.f0 < t)) = l.take R := List.filter_eq_self.2 fun x hx => by
    obtain ⟨m, hm, e⟩ := List.getElem_of_mem hx
    rw [List.length_take] at hm
    rw [List.getElem_take, ← rd_get l m (by omega)] at e
    have := b2 m (by omega)
    rw [e] at this
    exact decide_eq_true this
  have e2 : (l.drop R).filter (fun q => decide (q.f0 < t)) = [] := List.filter_eq_nil_iff.2 fun x hx => by
    obtain ⟨m, hm, e⟩ := List.getElem_of_mem hx
    rw [List.length_drop] at hm
    rw [List.getElem_drop, ← rd_get l (R + m) (by omega)] at e
    have := b3 (R + m) (by omega) (by omega)
    rw [e] at this
    simp
    exact this
  conv => lhs; rw [← List.take_append_drop R l]
  rw [List.filter_append, e1, e2, List.append_nil]
theorem filter_hi (l : List Part) (t : Int) (R : Nat) (hR : R ≤ l.length) (b2 : ∀ m, m < R → (rdP l m).f0 ≤ t) (b3 : ∀ m, R ≤ m → m < l.length → t < (rdP l m).f0) : l.filter (fun q => decide (t < q.f0)) = l.drop R := by
  have e1 : (l.take R).filter (fun q => decide (t < q.f0)) = [] := List.filter_eq_nil_iff.2 fun x hx => by
    obtain ⟨m, hm, e⟩ := List.getElem_of_mem hx
    rw [List.length_take] at hm
    rw [List.getElem_take, ← rd_get l m (by omega)] at e
    have := b2 m (by omega)
    rw [e] at this
    simp
    exact this
  have e2 : (l.drop R).filter (fun q => decide (t < q.f0)) = l.drop R := List.filter_eq_self.2 fun x hx => by
    obtain ⟨m, hm, e⟩ := List.getElem_of_mem hx
    rw [List.length_drop] at hm
    rw [List.getElem_drop, ← rd_get l (R + m) (by omega)] at e
    have := b3 (R + m) (by omega) (by omega)
    rw [e] at this
    exact decide_eq_true this
  conv => lhs; rw [← List.take_append_drop R l]
  rw [List.filter_append, e1, e2, List.nil_append]
theorem put_eq (l : List Part) (h : Good l) (hl : l.length ≤ 100000) (p : Part) (hp : SmallPart p) (hc : chk p = true) (k : Nat) (hk : 2300000 ≤ k) : parts_Put.f k l p.f0 p.f1 p.f2 p.f3 = some (ins l p, 0) := by
  have hcp := chk_parts hc
  obtain ⟨R, b1, b2, b3, hf⟩ := find_at l h p.f0 hcp.1 hcp.2.1
  unfold parts_Put.f
  rw [right_eq l h.small k (by omega), h.right, Option.bind_some, if_pos rfl, check_eq p hp k (by omega), hc, if_pos rfl, Option.bind_some, if_pos rfl,
    own_eq l h.small.len (fun q hq => (h.small.each q hq).len) k (by omega), Option.bind_some, own_eq [(⟨p.f0, p.f1, p.f2, p.f3⟩ : Part)] (by show (1 : Nat) ≤ 1048576; decide) (fun q hq => by
      rw [List.mem_singleton] at hq
      subst hq
      exact hp.len) k (by omega), Option.bind_some, if_pos (show 0 < [(⟨p.f0, p.f1, p.f2, p.f3⟩ : Part)].length from Nat.zero_lt_one), hf, Option.bind_some]
  show parts_Put_put l p (R : Int) (decide (R < l.length ∧ (rdP l R).f0 = p.f0)) = _
  unfold parts_Put_put ins
  by_cases hr : R < l.length ∧ (rdP l R).f0 = p.f0
  · obtain ⟨h1, h2⟩ := hr
    rw [decide_eq_true ⟨h1, h2⟩, if_pos rfl, if_pos (by omega), Int.toNat_natCast, filter_lo l p.f0 R b1 b2 b3, filter_hi l p.f0 (R + 1) (by omega) (fun m hm => by
      rcases Nat.lt_or_ge m R with h3 | h3
      · have := b2 m h3; omega
      · obtain rfl : m = R := by omega
        omega) (fun m hm hm2 => by have := h.lt R m (by omega) hm2; omega), List.set_eq_take_append_cons_drop, if_pos h1]
  · have h3 : ∀ m, R ≤ m → m < l.length → p.f0 < (rdP l m).f0 := fun m hm hm2 => by
      have h4 := b3 m hm hm2
      by_cases he : (rdP l m).f0 = p.f0
      · rcases Nat.eq_or_lt_of_le hm with rfl | hlt
        · exact absurd ⟨hm2, he⟩ hr
        · have := h.lt R m hlt hm2
          have := b3 R (Nat.le_refl _) (by omega)
          omega
      · omega
    rw [decide_eq_false hr, if_neg (by decide), if_pos (by omega), Int.toNat_natCast, filter_lo l p.f0 R b1 b2 b3, filter_hi l p.f0 R b1 (fun m hm => by have := b2 m hm; omega) h3]
theorem put_no (l : List Part) (h : Good l) (p : Part) (hp : SmallPart p) (hc : chk p = false) (k : Nat) (hk : 2300000 ≤ k) : parts_Put.f k l p.f0 p.f1 p.f2 p.f3 = some ([], 1) := by
  unfold parts_Put.f
  rw [right_eq l h.small k (by omega), h.right, Option.bind_some, if_pos rfl, check_eq p hp k (by omega), hc, if_neg (by decide), Option.bind_some, if_neg (by decide)]
theorem mem_ins (l : List Part) (p x : Part) : x ∈ ins l p ↔ x = p ∨ (x ∈ l ∧ x.f0 ≠ p.f0) := by
  unfold ins
  rw [List.mem_append, List.mem_cons, List.mem_filter, List.mem_filter, decide_eq_true_eq, decide_eq_true_eq]
  constructor
  · rintro (⟨h1, h2⟩ | rfl | ⟨h1, h2⟩)
    · exact .inr ⟨h1, by omega⟩
    · exact .inl rfl
    · exact .inr ⟨h1, by omega⟩
  · rintro (rfl | ⟨h1, h2⟩)
    · exact .inr (.inl rfl)
    · rcases Int.lt_or_gt_of_ne h2 with h3 | h3
      · exact .inl ⟨h1, h3⟩
      · exact .inr (.inr ⟨h1, h3⟩)
theorem two_filters (t : Int) : ∀ l : List Part, (l.filter (fun q => decide (q.f0 < t))).length + (l.filter (fun q => decide (t < q.f0))).length ≤ l.length
  | [] => Nat.le_refl _
  | p :: l => by
    have := two_filters t l
    rw [List.filter_cons, List.filter_cons, List.length_cons]
    by_cases h1 : p.f0 < t
    · rw [if_pos (decide_eq_true h1), if_neg (by simp; omega), List.length_cons]; omega
    · rw [if_neg (by simpa using h1)]
      split
      · rw [List.length_cons]; omega
      · omega
theorem len_ins (l : List Part) (p : Part) : (ins l p).length ≤ l.length + 1 := by
  have := two_filters p.f0 l
  unfold ins
  rw [List.length_append, List.length_cons]
  omega
theorem good_ins (l : List Part) (h : Good l) (hl : l.length ≤ 100000) (p : Part) (hp : SmallPart p) (hc : chk p = true) : Good (ins l p) := by
  have hlen := len_ins l p
  refine ⟨⟨by omega, fun x hx => ?_⟩, fun x hx => ?_, ?_⟩
  · rcases (mem_ins l p x).1 hx with rfl | h1
    · exact hp
    · exact h.small.each x h1.1
  · rcases (mem_ins l p x).1 hx with rfl | h1
    · exact hc
    · exact h.chk x h1.1
  · unfold ins
    rw [List.pairwise_append, List.pairwise_cons]
    refine ⟨h.asc.filter _, ⟨fun x hx => ?_, h.asc.filter _⟩, fun x hx y hy => ?_⟩
    · simpa using (List.mem_filter.1 hx).2
    · have h1 : x.f0 < p.f0 := by simpa using (List.mem_filter.1 hx).2
      rcases List.mem_cons.1 hy with rfl | hy
      · exact h1
      · have h2 : p.f0 < y.f0 := by simpa using (List.mem_filter.1 hy).2
        omega
theorem good_nil : Good ([] : List Part) := ⟨⟨by decide, fun x hx => (by cases hx)⟩, fun x hx => (by cases hx), List.Pairwise.nil⟩
/-! ### Parts as the document has them -/
abbrev RPiece := S85
abbrev RPart := S52
def refC (c : Piece) : RPiece := ⟨c.f0, c.f1⟩
def refP (p : Part) : RPart := ⟨p.f0, p.f1, p.f2, p.f3.map refC⟩
theorem piece_go (l : List Piece) (hl : l.length ≤ 1048576) : ∀ n i k (acc : List RPiece), i + n = l.length → n < k → acc.length ≤ i → stowagelaw13_Piece.l0 k l acc (i : Int) = some (acc ++ (l.drop i).map refC) := by
  intro n
  induction n with
  | zero =>
    intro i k acc hi hk ha
    obtain ⟨k, rfl⟩ : ∃ j, k = j + 1 := ⟨k - 1, by omega⟩
    rw [stowagelaw13_Piece.l0, if_neg (by omega), List.drop_of_length_le (by omega), List.map_nil, List.append_nil]
  | succ n ih =>
    intro i k acc hi hk ha
    obtain ⟨k, rfl⟩ : ∃ j, k = j + 1 := ⟨k - 1, by omega⟩
    rw [stowagelaw13_Piece.l0, if_pos (by omega), if_pos (by omega), if_pos (by omega), w1 i (by omega), ih (i + 1) k _ (by omega) (by omega) (by rw [List.length_append, List.length_singleton]; omega), dropC l i (by omega), List.map_cons, List.append_assoc]
    rfl
theorem piece_eq (l : List Piece) (hl : l.length ≤ 1048576) (k : Nat) (hk : 1048577 ≤ k) : stowagelaw13_Piece.f k l = some (l.map refC) := by
  unfold stowagelaw13_Piece.f
  exact (piece_go l hl l.length 0 k [] (by omega) (by omega) (Nat.le_refl _)).trans rfl
theorem refs_go (l : List Part) (hl : l.length ≤ 1048576) (hp : ∀ p ∈ l, p.f3.length ≤ 1048576) : ∀ n i k (acc : List RPart), i + n = l.length → n + 1048577 < k → acc.length ≤ i → stowagelaw14_Refs.l0 k l acc (i : Int) = some (acc ++ (l.drop i).map refP) := by
  intro n
  induction n with
  | zero =>
    intro i k acc hi hk ha
    obtain ⟨k, rfl⟩ : ∃ j, k = j + 1 := ⟨k - 1, by omega⟩
    rw [stowagelaw14_Refs.l0, if_neg (by omega), List.drop_of_length_le (by omega), List.map_nil, List.append_nil]
  | succ n ih =>
    intro i k acc hi hk ha
    obtain ⟨k, rfl⟩ : ∃ j, k = j + 1 := ⟨k - 1, by omega⟩
    rw [stowagelaw14_Refs.l0, if_pos (by omega), if_pos (by omega)]
    show (stowagelaw13_Piece.f k (rdP l i).f3).bind _ = _
    rw [piece_eq _ (hp _ (memP l i (by omega))) k (by omega), Option.bind_some, if_pos (by omega), w1 i (by omega), ih (i + 1) k _ (by omega) (by omega) (by rw [List.length_append, List.length_singleton]; omega), dropP l i (by omega), List.map_cons, List.append_assoc]
    rfl
theorem refs_eq (l : List Part) (hl : l.length ≤ 1048576) (hp : ∀ p ∈ l, p.f3.length ≤ 1048576) (k : Nat) (hk : 2200000 ≤ k) : stowagelaw14_Refs.f k l = some (l.map refP) := by
  unfold stowagelaw14_Refs.f
  exact (refs_go l hl hp l.length 0 k [] (by omega) (by omega) (Nat.le_refl _)).trans rfl
/-! ### The same is the same -/
theorem same13_go (a : Int) (b : Bool) (c : Int) (s : ByteArray) (l : List RPiece) (hl : l.length ≤ 1048576) : ∀ n i k, i + n = l.length → n < k → stowageref13_Same.l0 k (i : Int) a b c s l a b c s l = some true := by
  intro n
  induction n with
  | zero =>
    intro i k hi hk
    obtain ⟨k, rfl⟩ : ∃ j, k = j + 1 := ⟨k - 1, by omega⟩
    rw [stowageref13_Same.l0, if_neg (by omega)]
  | succ n ih =>
    intro i k hi hk
    obtain ⟨k, rfl⟩ : ∃ j, k = j + 1 := ⟨k - 1, by omega⟩
    rw [stowageref13_Same.l0, if_pos (by omega), if_pos (by omega), if_pos (by omega), if_neg (by simp), w1 i (by omega)]
    exact ih (i + 1) k (by omega) (by omega)
theorem same13_eq (a : Int) (b : Bool) (c : Int) (s : ByteArray) (l : List RPiece) (hl : l.length ≤ 1048576) (k : Nat) (hk : 1048578 ≤ k) : stowageref13_Same.f k a b c s l a b c s l = some true := by
  obtain ⟨k, rfl⟩ : ∃ j, k = j + 1 := ⟨k - 1, by omega⟩
  rw [stowageref13_Same.f, if_pos rfl, if_neg (by simp), if_pos rfl, if_pos rfl, stowageref13_Same.j0, if_neg (by simp)]
  exact same13_go a b c s l hl l.length 0 k (by omega) (by omega)
end Go.Proofs.YtoiockmmlanimaaDoor.Pure
end
section
/- Layer 14, the plain side: which parts may be, as the document has it: the same. No program in sight. -/
namespace Go.Proofs.YtoiockmmlanimaaDoor.Pure
open Go.RowKit Go.Proofs.YtoiockmmlanimaaDoor.Oj Go.Proofs.YtoiockmmlanimaaDoorW.PrintWords Go.Proofs.YtoiockmmlanimaaDoorW.PrintLast Go.Proofs.YtoiockmmlanimaaDoorW.PrintMore
set_option linter.unusedVariables false
set_option linter.unusedSimpArgs false
theorem un_j4_bad (k : Nat) (a : ByteArray) (x4 : List Int) (x5 x6 x7 : Int) (h : x7 < 0) : stowageref03_Unhex.j4 (k + 1) a x4 x5 x6 x7 = some ((⟨#[]⟩ : ByteArray), 3) := by rw [stowageref03_Unhex.j4, if_pos h]
theorem un_go (a : ByteArray) (hs : a.size ≤ 1048576) : ∀ n i k (acc : List Int) (h : Int), i + n = a.size → 5 * n + 5 < k → acc.length ≤ i → ∃ b, stowageref03_Unhex.l0 k a acc h (i : Int) = some (b, if (a.data.toList.drop i).all Sha.hb = true then 0 else 3) := by
  intro n
  induction n with
  | zero =>
    intro i k acc h hi hk ha
    obtain ⟨k, rfl⟩ : ∃ j, k = j + 1 := ⟨k - 1, by omega⟩
    refine ⟨strOfNums acc, ?_⟩
    rw [stowageref03_Unhex.l0, if_neg (by omega), List.drop_of_length_le (by rw [len_eq]; omega)]
    rfl
  | succ n ih =>
    intro i k acc h hi hk ha
    obtain ⟨k, rfl⟩ : ∃ j, k = j + 1 + 1 + 1 + 1 + 1 := ⟨k - 5, by omega⟩
    obtain ⟨c, hd, hb⟩ := bt_get a i (by omega)
    have hcn : c.toNat < 256 := c.toNat_lt
    have good : ∀ d : Int, 0 ≤ d → Sha.hb c = true → ∃ b, stowageref03_Unhex.j4 (k + 1) a acc h (i : Int) d = some (b, if (c :: a.data.toList.drop (i + 1)).all Sha.hb = true then 0 else 3) := by
      intro d h0 hc
      rw [stowageref03_Unhex.j4, if_neg (by omega), w1 i (by omega)]
      have e : ((c :: a.data.toList.drop (i + 1)).all Sha.hb) = (a.data.toList.drop (i + 1)).all Sha.hb := by rw [List.all_cons, hc, Bool.true_and]
      rw [e]
      split
      · rw [if_pos (by omega)]
        exact ih (i + 1) k _ _ (by omega) (by omega) (by rw [List.length_append, List.length_singleton]; omega)
      · exact ih (i + 1) k _ _ (by omega) (by omega) (by omega)
    have bad : Sha.hb c = false → ((c :: a.data.toList.drop (i + 1)).all Sha.hb) = false := fun hc => by rw [List.all_cons, hc, Bool.false_and]
    rw [hd]
    have j2 : ∀ d : Int, (¬ (97 ≤ c.toNat ∧ c.toNat ≤ 102)) → stowageref03_Unhex.j2 (k + 1 + 1 + 1) a acc h (i : Int) d = stowageref03_Unhex.j4 (k + 1) a acc h (i : Int) d := by
      intro d hn
      rw [stowageref03_Unhex.j2, if_pos (by omega), if_pos (by omega), hb]
      have e : ∀ q : Bool, q = false → stowageref03_Unhex.j3 (k + 1 + 1) a acc h (i : Int) d q = stowageref03_Unhex.j4 (k + 1) a acc h (i : Int) d := fun q hq => by rw [hq, stowageref03_Unhex.j3, if_neg (by decide)]
      by_cases h1 : (c.toNat : Int) ≥ 97
      · rw [if_pos h1]; exact e _ (decide_eq_false (by omega))
      · rw [if_neg h1]; exact e _ rfl
    rw [stowageref03_Unhex.l0, if_pos (by omega), if_pos (by omega), hb]
    by_cases h1 : 48 ≤ c.toNat ∧ c.toNat ≤ 57
    · rw [if_pos (by omega), decide_eq_true (by omega : (c.toNat : Int) ≤ 57), stowageref03_Unhex.j1, if_pos rfl, if_pos (by omega), if_pos (by omega), hb, IntWalk.wrap64_in (c.toNat : Int) (by omega), IntWalk.wrap64_in _ (by omega), j2 _ (by omega)]
      exact good _ (by omega) (by simp [Sha.hb]; omega)
    · have e1 : ∀ q : Bool, q = false → stowageref03_Unhex.j1 (k + 1 + 1 + 1 + 1) a acc h (i : Int) (-1) q = stowageref03_Unhex.j2 (k + 1 + 1 + 1) a acc h (i : Int) (-1) := fun q hq => by rw [hq, stowageref03_Unhex.j1, if_neg (by decide)]
      have e2 : (if (c.toNat : Int) ≥ 48 then stowageref03_Unhex.j1 (k + 1 + 1 + 1 + 1) a acc h (i : Int) (-1) (decide ((c.toNat : Int) ≤ 57)) else stowageref03_Unhex.j1 (k + 1 + 1 + 1 + 1) a acc h (i : Int) (-1) false) = stowageref03_Unhex.j2 (k + 1 + 1 + 1) a acc h (i : Int) (-1) := by
        by_cases h2 : (c.toNat : Int) ≥ 48
        · rw [if_pos h2]; exact e1 _ (decide_eq_false (by omega))
        · rw [if_neg h2]; exact e1 _ rfl
      rw [e2]
      by_cases h3 : 97 ≤ c.toNat ∧ c.toNat ≤ 102
      · rw [stowageref03_Unhex.j2, if_pos (by omega), if_pos (by omega), hb, if_pos (by omega), decide_eq_true (by omega : (c.toNat : Int) ≤ 102), stowageref03_Unhex.j3, if_pos rfl, if_pos (by omega), if_pos (by omega), hb, IntWalk.wrap64_in (c.toNat : Int) (by omega), IntWalk.wrap64_in _ (by omega)]
        exact good _ (by omega) (by simp [Sha.hb]; omega)
      · rw [j2 _ h3, un_j4_bad k a acc h _ _ (by omega), bad (by simp [Sha.hb]; omega)]
        exact ⟨_, rfl⟩
theorem may06_eq (a : ByteArray) (hs : a.size ≤ 1048576) (k : Nat) (hk : 5300000 ≤ k) : stowageref06_May.f k a = some (D a) := by
  unfold stowageref06_May.f stowageref03_Unhex.f
  by_cases h2 : ((a.size : Int) % 2) = 0
  · rw [if_pos h2]
    obtain ⟨b, hb⟩ := un_go a hs a.size 0 k [] 0 (by omega) (by omega) (Nat.le_refl _)
    rw [show ((0 : Nat) : Int) = 0 from rfl, List.drop_zero] at hb
    rw [hb, Option.bind_some]
    unfold D
    cases hc : a.data.toList.all Sha.hb
    · rfl
    · show (if (0 : Int) = 0 then some ((a.size : Int) == 64) else some false) = _
      rw [if_pos rfl, Bool.true_and]
      congr 1
      by_cases h : a.size = 64
      · simp [h]
      · rw [decide_eq_false h]
        simpa using (show ¬ (a.size : Int) = 64 by omega)
  · rw [if_neg h2, Option.bind_some]
    have h : ¬ a.size = 64 := by omega
    unfold D
    rw [decide_eq_false h, Bool.and_false]
    rfl
theorem rd13 (l : List Piece) (i : Nat) (h : i < l.length) : rd_T85 (l.map refC) (i : Int) = refC (rdC l i) := by
  show (l.map refC).getD (i : Int).toNat _ = refC (l.getD (i : Int).toNat _)
  rw [Int.toNat_natCast, List.getD_eq_getElem?_getD, List.getD_eq_getElem?_getD, List.getElem?_map, List.getElem?_eq_getElem h]
  rfl
theorem rd14 (l : List Part) (i : Nat) (h : i < l.length) : rd_T52 (l.map refP) (i : Int) = refP (rdP l i) := by
  show (l.map refP).getD (i : Int).toNat _ = refP (l.getD (i : Int).toNat _)
  rw [Int.toNat_natCast, List.getD_eq_getElem?_getD, List.getD_eq_getElem?_getD, List.getElem?_map, List.getElem?_eq_getElem h]
  rfl
theorem pieces13_go (l : List Piece) (hl : l.length ≤ 1048576) (hs : ∀ y ∈ l, y.f0.size ≤ 1048576) : ∀ n i k (s : Int), i + n = l.length → n + 5300000 < k → 0 ≤ s → s ≤ 4096 * i → stowageref13_Pieces.l0 k (l.map refC) s (i : Int) = some (if 512 < l.length then (0, 1) else pcs (l.drop i) s) := by
  have hm : (l.map refC).length = l.length := List.length_map _
  intro n
  induction n with
  | zero =>
    intro i k s hi hk h0 h1
    obtain ⟨k, rfl⟩ : ∃ j, k = j + 1 := ⟨k - 1, by omega⟩
    rw [stowageref13_Pieces.l0, hm, if_neg (by omega), List.drop_of_length_le (by omega)]
    by_cases h : 512 < l.length
    · rw [if_pos (by omega), if_pos h]
    · rw [if_neg (by omega), if_neg h]
      rfl
  | succ n ih =>
    intro i k s hi hk h0 h1
    obtain ⟨k, rfl⟩ : ∃ j, k = j + 1 := ⟨k - 1, by omega⟩
    have e : (if 512 < l.length then ((0 : Int), (1 : Int)) else (0, 1)) = (0, 1) := by split <;> rfl
    rw [stowageref13_Pieces.l0, hm, if_pos (by omega), if_pos (by omega), rd13 l i (by omega)]
    show (stowageref06_May.f k (rdC l i).f0).bind (fun t => if t = true then (if (rdC l i).f1 < 1 then some (0, 1) else (if (rdC l i).f1 > 4096 then some (0, 1) else stowageref13_Pieces.l0 k (l.map refC) (wrap64 (s + (rdC l i).f1)) (wrap64 ((i : Int) + 1)))) else some (0, 1)) = _
    rw [may06_eq _ (hs _ (memC l i (by omega))) k (by omega), Option.bind_some, dropC l i (by omega), pcs, w1 i (by omega)]
    by_cases hd : D (rdC l i).f0 = true
    · rw [if_pos hd]
      by_cases h2 : (rdC l i).f1 < 1
      · rw [if_pos h2, if_neg (show ¬ (D (rdC l i).f0 = true ∧ 1 ≤ (rdC l i).f1 ∧ (rdC l i).f1 ≤ 4096) from fun h => by omega), e]
      · rw [if_neg h2]
        by_cases h3 : (rdC l i).f1 > 4096
        · rw [if_pos h3, if_neg (show ¬ (D (rdC l i).f0 = true ∧ 1 ≤ (rdC l i).f1 ∧ (rdC l i).f1 ≤ 4096) from fun h => by omega), e]
        · rw [if_neg h3, if_pos (show D (rdC l i).f0 = true ∧ 1 ≤ (rdC l i).f1 ∧ (rdC l i).f1 ≤ 4096 from ⟨hd, by omega, by omega⟩), IntWalk.wrap64_in _ (by omega), ih (i + 1) k _ (by omega) (by omega) (by omega) (by omega)]
    · rw [if_neg hd, if_neg (show ¬ (D (rdC l i).f0 = true ∧ 1 ≤ (rdC l i).f1 ∧ (rdC l i).f1 ≤ 4096) from fun h => hd h.1), e]
theorem pieces13_eq (l : List Piece) (hl : l.length ≤ 1048576) (hs : ∀ y ∈ l, y.f0.size ≤ 1048576) (k : Nat) (hk : 6400000 ≤ k) : stowageref13_Pieces.f k (l.map refC) = some (Pc l) := by
  unfold stowageref13_Pieces.f Pc
  exact pieces13_go l hl hs l.length 0 k 0 (by omega) (by omega) (by omega) (by omega)
theorem check14_eq (p : Part) (hp : SmallPart p) (k : Nat) (hk : 6400000 ≤ k) : stowageref14_Check.f k p.f0 p.f1 p.f2 (p.f3.map refC) = some (if chk p = true then 0 else 1) := by
  unfold stowageref14_Check.f
  rw [pieces13_eq p.f3 hp.len hp.pcs k hk, Option.bind_some]
  have hno : ∀ h : ¬ (1 ≤ p.f0 ∧ p.f0 ≤ 100 ∧ (Pc p.f3).2 = 0 ∧ (Pc p.f3).1 = p.f1), (some 1 : Option Int) = some (if chk p = true then 0 else 1) := fun h => by
    have : chk p = false := by unfold chk; rw [decide_eq_false h, Bool.false_and]
    rw [this, if_neg (by decide)]
  by_cases h1 : p.f0 < 1
  · rw [if_pos h1]; exact hno (by omega)
  · rw [if_neg h1]
    by_cases h2 : p.f0 > 100
    · rw [if_pos h2]; exact hno (by omega)
    · rw [if_neg h2]
      by_cases h3 : (Pc p.f3).2 = 0
      · rw [if_pos h3]
        by_cases h4 : (Pc p.f3).1 = p.f1
        · have hc : chk p = D p.f2 := by unfold chk; rw [decide_eq_true ⟨by omega, by omega, h3, h4⟩, Bool.true_and]
          rw [if_pos h4, may06_eq p.f2 hp.sum k (by omega), Option.bind_some, hc]
          cases D p.f2 <;> rfl
        · rw [if_neg h4]; exact hno (fun h => h4 h.2.2.2)
      · rw [if_neg h3]; exact hno (fun h => h3 h.2.2.1)
theorem may14_go (l : List Part) (hl : Small l) : ∀ n i k, i + n = l.length → n + 6400000 < k → stowageref14_May.l0 k (l.map refP) (i : Int) = some (rB (prev l i) (l.drop i)) := by
  have hm : (l.map refP).length = l.length := List.length_map _
  intro n
  induction n with
  | zero =>
    intro i k hi hk
    obtain ⟨k, rfl⟩ : ∃ j, k = j + 1 := ⟨k - 1, by omega⟩
    rw [stowageref14_May.l0, hm, if_neg (by omega), List.drop_of_length_le (by omega)]
    rfl
  | succ n ih =>
    intro i k hi hk
    have hll := hl.len
    obtain ⟨k, rfl⟩ : ∃ j, k = j + 1 := ⟨k - 1, by omega⟩
    have hc14 : stowageref14_Check.f k (refP (rdP l i)).f0 (refP (rdP l i)).f1 (refP (rdP l i)).f2 (refP (rdP l i)).f3 = _ := check14_eq (rdP l i) (hl.each _ (memP l i (by omega))) k (by omega)
    rw [stowageref14_May.l0, hm, if_pos (by omega), if_pos (by omega), rd14 l i (by omega), hc14, Option.bind_some, dropP l i (by omega), rB, w1 i (by omega), ih (i + 1) k (by omega) (by omega)]
    have hp : prev l (i + 1) = some (rdP l i).f0 := by unfold prev; rw [if_neg (by omega)]; rfl
    rw [hp]
    cases hc : chk (rdP l i)
    · simp
    · simp only [if_true, Bool.true_and]
      by_cases h0 : i = 0
      · subst h0
        rw [if_neg (by omega)]
        simp [prev, okN]
      · obtain ⟨j, rfl⟩ : ∃ j, i = j + 1 := ⟨i - 1, by omega⟩
        have e : wrap64 (((j + 1 : Nat) : Int) - 1) = (j : Int) := by rw [IntWalk.wrap64_in _ (by omega)]; omega
        rw [if_pos (by omega), e, if_pos (by omega), if_pos (by omega), rd14 l j (by omega)]
        have hp2 : prev l (j + 1) = some (rdP l j).f0 := by unfold prev; rw [if_neg (by omega)]; rfl
        rw [hp2]
        show (if (rdP l j).f0 ≥ (rdP l (j + 1)).f0 then _ else _) = some (decide ((rdP l j).f0 < (rdP l (j + 1)).f0) && _)
        by_cases h2 : (rdP l j).f0 ≥ (rdP l (j + 1)).f0
        · rw [if_pos h2, decide_eq_false (by omega), Bool.false_and]
        · rw [if_neg h2, decide_eq_true (by omega), Bool.true_and]
theorem may14_eq (l : List Part) (hl : Small l) (k : Nat) (hk : 7500000 ≤ k) : stowageref14_May.f k (l.map refP) = some (rB none l) := by
  have := hl.len
  exact may14_go l hl l.length 0 k (by omega) (by omega)
end Go.Proofs.YtoiockmmlanimaaDoor.Pure
end
section
/- PartsJoins, the plain side: what is put together, as the document has it: the same. No program in sight. -/
namespace Go.Proofs.YtoiockmmlanimaaDoor.Pure
open Go.RowKit Go.Proofs.YtoiockmmlanimaaDoor.Oj Go.Proofs.YtoiockmmlanimaaDoorW.PrintWords Go.Proofs.YtoiockmmlanimaaDoorW.PrintLast Go.Proofs.YtoiockmmlanimaaDoorW.PrintMore
set_option linter.unusedVariables false
set_option linter.unusedSimpArgs false
/-! ### Hex, as the document has it -/
def rdig (n : Int) : Int := if n < 10 then (48 + n) % 256 else (87 + n) % 256
def hexN (l : List UInt8) : List Int := l.flatMap fun c => [rdig ((Int.tdiv (c.toNat : Int) 16) % 256), rdig (Int.tmod (c.toNat : Int) 16)]
theorem two_nat : ∀ n, n < 256 → (Sha.two (UInt8.ofNat n)).map UInt8.ofBitVec = [rdig ((Int.tdiv (n : Int) 16) % 256), rdig (Int.tmod (n : Int) 16)].map fun n => UInt8.ofNat n.toNat := by decide +kernel
theorem two_eq (c : UInt8) : (Sha.two c).map UInt8.ofBitVec = [rdig ((Int.tdiv (c.toNat : Int) 16) % 256), rdig (Int.tmod (c.toNat : Int) 16)].map fun n => UInt8.ofNat n.toNat := by
  have := two_nat c.toNat c.toNat_lt
  rwa [UInt8.ofNat_toNat] at this
theorem hexN_eq (l : List UInt8) : strOfNums (hexN l) = Sha.ofB (Sha.hexL l) := by
  have h : (hexN l).map (fun n => UInt8.ofNat n.toNat) = (Sha.hexL l).map UInt8.ofBitVec := by
    induction l with
    | nil => rfl
    | cons c l ih =>
      have e1 : hexN (c :: l) = [rdig ((Int.tdiv (c.toNat : Int) 16) % 256), rdig (Int.tmod (c.toNat : Int) 16)] ++ hexN l := rfl
      have e2 : Sha.hexL (c :: l) = Sha.two c ++ Sha.hexL l := rfl
      rw [e1, e2, List.map_append, List.map_append, ih, two_eq]
  unfold strOfNums Sha.ofB
  rw [h]
theorem hex_go (a : ByteArray) (hs : a.size ≤ 1048576) : ∀ n i k (acc : List Int), i + n = a.size → 4 * n < k → acc.length ≤ 2 * i → stowageref03_Hex.l0 k a acc (i : Int) = some (strOfNums (acc ++ hexN (a.data.toList.drop i))) := by
  intro n
  induction n with
  | zero =>
    intro i k acc hi hk ha
    obtain ⟨k, rfl⟩ : ∃ j, k = j + 1 := ⟨k - 1, by omega⟩
    rw [stowageref03_Hex.l0, if_neg (by omega), List.drop_of_length_le (by rw [len_eq]; omega)]
    show _ = some (strOfNums (acc ++ []))
    rw [List.append_nil]
  | succ n ih =>
    intro i k acc hi hk ha
    obtain ⟨k, rfl⟩ : ∃ j, k = j + 1 + 1 + 1 + 1 := ⟨k - 4, by omega⟩
    obtain ⟨c, hd, hb⟩ := bt_get a i (by omega)
    rw [stowageref03_Hex.l0, if_pos (by omega), if_pos (by omega), Option.bind_some, hb, hd]
    obtain ⟨x, hx⟩ : ∃ x, (Int.tdiv (c.toNat : Int) 16) % 256 = x := ⟨_, rfl⟩
    obtain ⟨y, hy⟩ : ∃ y, Int.tmod (c.toNat : Int) 16 = y := ⟨_, rfl⟩
    have e : hexN (c :: a.data.toList.drop (i + 1)) = [rdig x, rdig y] ++ hexN (a.data.toList.drop (i + 1)) := by rw [← hx, ← hy]; rfl
    rw [e, hx, hy]
    have d : ∀ (k : Nat) (acc : List Int) (z : Int) (j : Int), acc.length ≤ 4194304 → (if z < 10 then (if acc.length < 140737488355328 then stowageref03_Hex.l1 k a (acc ++ [(48 + z) % 256]) (i : Int) [x, y] 2 j else none) else (if acc.length < 140737488355328 then stowageref03_Hex.l1 k a (acc ++ [(87 + z) % 256]) (i : Int) [x, y] 2 j else none)) = stowageref03_Hex.l1 k a (acc ++ [rdig z]) (i : Int) [x, y] 2 j := by
      intro k acc z j hl
      unfold rdig
      by_cases h : z < 10
      · rw [if_pos h, if_pos (by omega), if_pos h]
      · rw [if_neg h, if_pos (by omega), if_neg h]
    show stowageref03_Hex.l1 (k + 1 + 1 + 1) a acc (i : Int) [x, y] 2 0 = _
    rw [stowageref03_Hex.l1, if_pos (by decide), if_pos (by decide), if_pos (show (0 : Int) < (([x, y] : List Int).length : Int) by show (0 : Int) < ((2 : Nat) : Int); decide)]
    show (if x < 10 then (if acc.length < 140737488355328 then stowageref03_Hex.l1 (k + 1 + 1) a (acc ++ [(48 + x) % 256]) (i : Int) [x, y] 2 (wrap64 (0 + 1)) else none) else (if acc.length < 140737488355328 then stowageref03_Hex.l1 (k + 1 + 1) a (acc ++ [(87 + x) % 256]) (i : Int) [x, y] 2 (wrap64 (0 + 1)) else none)) = _
    rw [d (k + 1 + 1) acc x _ (by omega), show wrap64 (0 + 1) = 1 from IntWalk.wrap64_in _ (by omega), stowageref03_Hex.l1, if_pos (by decide), if_pos (by decide), if_pos (show (1 : Int) < (([x, y] : List Int).length : Int) by show (1 : Int) < ((2 : Nat) : Int); decide)]
    show (if y < 10 then (if (acc ++ [rdig x]).length < 140737488355328 then stowageref03_Hex.l1 (k + 1) a ((acc ++ [rdig x]) ++ [(48 + y) % 256]) (i : Int) [x, y] 2 (wrap64 (1 + 1)) else none) else (if (acc ++ [rdig x]).length < 140737488355328 then stowageref03_Hex.l1 (k + 1) a ((acc ++ [rdig x]) ++ [(87 + y) % 256]) (i : Int) [x, y] 2 (wrap64 (1 + 1)) else none)) = _
    rw [d (k + 1) (acc ++ [rdig x]) y _ (by rw [List.length_append, List.length_singleton]; omega), show wrap64 (1 + 1) = 2 from IntWalk.wrap64_in _ (by omega), stowageref03_Hex.l1, if_neg (by decide), w1 i (by omega),
      ih (i + 1) k _ (by omega) (by omega) (by rw [List.length_append, List.length_append, List.length_singleton, List.length_singleton]; omega), List.append_assoc, List.append_assoc]
    rfl
theorem hex_eq (a : ByteArray) (hs : a.size ≤ 1048576) (k : Nat) (hk : 4194305 ≤ k) : stowageref03_Hex.f k a = some (Sha.ofB (Sha.hexL a.data.toList)) := by
  unfold stowageref03_Hex.f
  have := hex_go a hs a.size 0 k [] (by omega) (by omega) (Nat.le_refl _)
  rw [show ((0 : Nat) : Int) = 0 from rfl, List.drop_zero, List.nil_append, hexN_eq] at this
  exact this
theorem rtag_eq (ss : List ByteArray) (h : ∀ s ∈ ss, s.size = 64) (hl : ss.length ≤ 1048576) (k : Nat) (hk : 4194305 ≤ k) : ∃ t, stowageref03_Tagged.f 77 ss = some t ∧ stowageref03_Hex.f k t = some (sum64 ss) := by
  have ht : stowageref03_Tagged.f 77 ss = some (Sha.ofB (Sha.sha (Sha.tagB (BitVec.ofInt 8 77) ss))) := by
    show Sha.tagF 77 ss = _
    unfold Sha.tagF
    rw [if_pos ⟨by decide, by decide, by rw [tag_len _ ss h]; omega⟩]
  exact ⟨_, ht, hex_eq _ (by rw [sum_size]; decide) k hk⟩
/-! ### The place of a part -/
abbrev RPick := S79
def refK (x : Pick) : RPick := ⟨x.f0, x.f1⟩
theorem rdpk (l : List Pick) (i : Nat) (h : i < l.length) : rd_T79 (l.map refK) (i : Int) = refK (rdK l i) := by
  show (l.map refK).getD (i : Int).toNat _ = refK (l.getD (i : Int).toNat _)
  rw [Int.toNat_natCast, List.getD_eq_getElem?_getD, List.getD_eq_getElem?_getD, List.getElem?_map, List.getElem?_eq_getElem h]
  rfl
def atL (N : Int) (S : ByteArray) : List Part → Nat → Int
  | [], _ => -1
  | p :: r, i => if p.f0 = N ∧ p.f2.toList = S.toList then (i : Int) else atL N S r (i + 1)
theorem at_go (l : List Part) (hl : l.length ≤ 1048576) (N : Int) (S : ByteArray) : ∀ n i k, i + n = l.length → n < k → stowageref14_at.l0 k (l.map refP) (i : Int) N S = some (atL N S (l.drop i) i) := by
  have hm : (l.map refP).length = l.length := List.length_map _
  intro n
  induction n with
  | zero =>
    intro i k hi hk
    obtain ⟨k, rfl⟩ : ∃ j, k = j + 1 := ⟨k - 1, by omega⟩
    rw [stowageref14_at.l0, hm, if_neg (by omega), List.drop_of_length_le (by omega)]
    rfl
  | succ n ih =>
    intro i k hi hk
    obtain ⟨k, rfl⟩ : ∃ j, k = j + 1 := ⟨k - 1, by omega⟩
    rw [stowageref14_at.l0, hm, if_pos (by omega), if_pos (by omega), rd14 l i (by omega), w1 i (by omega), ih (i + 1) k (by omega) (by omega), dropP l i (by omega), atL]
    show (if (rdP l i).f0 = N then (if (rdP l i).f2.toList = S.toList then some (i : Int) else _) else _) = _
    by_cases h1 : (rdP l i).f0 = N
    · rw [if_pos h1]
      by_cases h2 : (rdP l i).f2.toList = S.toList
      · rw [if_pos h2, if_pos ⟨h1, h2⟩]
      · rw [if_neg h2, if_neg (fun h => h2 h.2)]
    · rw [if_neg h1, if_neg (fun h => h1 h.1)]
theorem at_eq (l : List Part) (hl : l.length ≤ 1048576) (N : Int) (S : ByteArray) (k : Nat) (hk : 1048577 ≤ k) : stowageref14_at.f k (l.map refP) N S = some (atL N S l 0) := by
  unfold stowageref14_at.f
  exact at_go l hl N S l.length 0 k (by omega) (by omega)
theorem atL_none (N : Int) (S : ByteArray) : ∀ (l : List Part) (i : Nat), (∀ p ∈ l, p.f0 ≠ N) → atL N S l i = -1
  | [], _, _ => rfl
  | p :: r, i, h => by
    rw [atL, if_neg (fun hh => h p List.mem_cons_self hh.1)]
    exact atL_none N S r (i + 1) (fun q hq => h q (List.mem_cons_of_mem _ hq))
theorem atL_some (N : Int) (S : ByteArray) : ∀ (l : List Part) (i m : Nat), l.Pairwise (fun x y => x.f0 < y.f0) → (hm : m < l.length) → l[m].f0 = N → atL N S l i = if l[m].f2.toList = S.toList then ((i + m : Nat) : Int) else -1
  | [], _, m, _, hm, _ => absurd hm (Nat.not_lt_zero _)
  | p :: r, i, 0, h, hm, hN => by
    rw [List.pairwise_cons] at h
    have hN' : p.f0 = N := hN
    show atL N S (p :: r) i = if p.f2.toList = S.toList then _ else _
    rw [atL]
    by_cases h2 : p.f2.toList = S.toList
    · rw [if_pos ⟨hN', h2⟩, if_pos h2]
      rfl
    · rw [if_neg (fun hh => h2 hh.2), if_neg h2]
      exact atL_none N S r (i + 1) (fun q hq => by have := h.1 q hq; omega)
  | p :: r, i, m + 1, h, hm, hN => by
    rw [List.pairwise_cons] at h
    have hm' : m < r.length := by rw [List.length_cons] at hm; omega
    have hp : p.f0 < r[m].f0 := h.1 _ (List.getElem_mem hm')
    have hN' : r[m].f0 = N := hN
    rw [atL, if_neg (fun hh => by have := hh.1; omega), atL_some N S r (i + 1) m h.2 hm' hN']
    show (if r[m].f2.toList = S.toList then _ else _) = if r[m].f2.toList = S.toList then _ else _
    rw [show i + 1 + m = i + (m + 1) by omega]
def fnd (l : List Part) (x : Pick) : Bool := match look l x.f0 with
  | none => false
  | some p => decide (p.f2.toList = x.f1.toList)
theorem look_get (l : List Part) (h : Good l) (n : Int) (p : Part) (hl : look l n = some p) : ∃ m, m < l.length ∧ rdP l m = p := by
  obtain ⟨q, hq, e⟩ := List.getElem_of_mem (look_some hl).1
  exact ⟨q, hq, (rd_get l q hq).trans e⟩
theorem at_fnd (l : List Part) (h : Good l) (x : Pick) : (fnd l x = false → atL x.f0 x.f1 l 0 = -1) ∧ (fnd l x = true → ∃ m, m < l.length ∧ atL x.f0 x.f1 l 0 = (m : Int) ∧ look l x.f0 = some (rdP l m) ∧ (rdP l m).f2.toList = x.f1.toList) := by
  unfold fnd
  cases hl : look l x.f0 with
  | none => exact ⟨fun _ => atL_none _ _ l 0 (look_none hl), fun hh => by cases hh⟩
  | some p =>
    obtain ⟨m, hm, e⟩ := look_get l h x.f0 p hl
    have e2 := rd_get l m hm
    have ha := atL_some x.f0 x.f1 l 0 m h.asc hm (by rw [← e2, e]; exact (look_some hl).2)
    rw [← e2, e] at ha
    refine ⟨fun hh => ?_, fun hh => ?_⟩
    · rw [ha, if_neg (by simpa using hh)]
    · have h2 : p.f2.toList = x.f1.toList := by simpa using hh
      rw [if_pos h2, Nat.zero_add] at ha
      exact ⟨m, hm, ha, by rw [e], by rw [e]; exact h2⟩
/-! ### What is put together -/
abbrev RJ := Int × Bool × Int × ByteArray × (List RPiece) × Int
def refJ (j : JR) : RJ := (j.1, j.2.1, j.2.2.1, j.2.2.2.1, j.2.2.2.2.1.map refC, j.2.2.2.2.2)
def rbad (e : Int) : RJ := (0, false, 0, (⟨#[]⟩ : ByteArray), ([] : List RPiece), e)
theorem fnd_go (l : List Part) (h : Good l) (pk : List Pick) (hpk : pk.length ≤ 1048576) : ∀ n i k, i + n = pk.length → 1048577 ≤ k → stowageref14_Join.l1 (n + 1 + k) (l.map refP) (pk.map refK) (i : Int) 0 false 0 (⟨#[]⟩ : ByteArray) = if (pk.drop i).all (fnd l) = true then stowageref14_Join.l2 k (l.map refP) (pk.map refK) 0 [] [] 0 0 false 0 (⟨#[]⟩ : ByteArray) else some (rbad 140) := by
  have hm : (pk.map refK).length = pk.length := List.length_map _
  intro n
  induction n with
  | zero =>
    intro i k hi hk
    rw [show 0 + 1 + k = k + 1 by omega, stowageref14_Join.l1, hm, if_neg (by omega), List.drop_of_length_le (by omega), List.all_nil, if_pos rfl]
  | succ n ih =>
    intro i k hi hk
    rw [show n + 1 + 1 + k = (n + 1 + k) + 1 by omega, stowageref14_Join.l1, hm, if_pos (by omega), if_pos (by omega), rdpk pk i (by omega), w1 i (by omega), ih (i + 1) k (by omega) hk, dropK pk i (by omega), List.all_cons]
    show (stowageref14_at.f (n + 1 + k) (l.map refP) (rdK pk i).f0 (rdK pk i).f1).bind _ = _
    rw [at_eq l h.small.len _ _ _ (by omega), Option.bind_some]
    obtain ⟨f1, f2⟩ := at_fnd l h (rdK pk i)
    cases hf : fnd l (rdK pk i)
    · rw [f1 hf, if_pos (by omega)]
      rfl
    · obtain ⟨m, hm2, ha, _⟩ := f2 hf
      rw [ha, if_neg (by omega), Bool.true_and]
theorem jn_small (l : List Part) : ∀ (r : List Pick) s ps ss, r.all (fnd l) = true → jfin (jn l r s ps ss true) = bad 141
  | [], s, ps, ss, _ => rfl
  | x :: r, s, ps, ss, h => by
    rw [List.all_cons, Bool.and_eq_true] at h
    obtain ⟨h1, h2⟩ := h
    rw [jn]
    unfold fnd at h1
    cases hl : look l x.f0 with
    | none => rw [hl] at h1; cases h1
    | some p =>
      rw [hl] at h1
      show jfin (if p.f2.toList = x.f1.toList then jn l r _ _ _ (true || _) else none) = _
      rw [if_pos (by simpa using h1), Bool.true_or]
      exact jn_small l r _ _ _ h2
theorem rjoin_go (l : List Part) (h : Good l) (pk : List Pick) (hpk : pk.length ≤ 1048576) : ∀ n i k (s : Int) (ps : List Piece) ss, i + n = pk.length → n + 4300000 < k → (pk.drop i).all (fnd l) = true → 0 ≤ s → s ≤ 2097152 * i → ps.length ≤ 512 * i → ss.length = i → (∀ t ∈ ss, t.size = 64) →
    stowageref14_Join.l2 k (l.map refP) (pk.map refK) s (ps.map refC) ss (i : Int) 0 false 0 (⟨#[]⟩ : ByteArray) = some (refJ (jfin (jn l (pk.drop i) s ps ss false))) := by
  have hm : (pk.map refK).length = pk.length := List.length_map _
  have hml : (l.map refP).length = l.length := List.length_map _
  intro n
  induction n with
  | zero =>
    intro i k s ps ss hi hk ha h0 h1 h2 h3 h4
    obtain ⟨k, rfl⟩ : ∃ j, k = j + 1 + 1 := ⟨k - 2, by omega⟩
    have hmp : (ps.map refC).length = ps.length := List.length_map _
    rw [stowageref14_Join.l2, hm, if_neg (by omega), List.drop_of_length_le (by omega), jn, jfin, if_neg Bool.false_ne_true, hmp]
    by_cases hs : s > 1048576
    · rw [if_pos hs, if_pos (.inl hs), stowageref14_Join.j4, if_pos rfl]
      rfl
    · rw [if_neg hs]
      by_cases hp : ps.length > 512
      · rw [if_pos (.inr hp), decide_eq_true (by omega), stowageref14_Join.j4, if_pos rfl]
        rfl
      · rw [if_neg (by omega), decide_eq_false (by omega), stowageref14_Join.j4, if_neg (by decide)]
        obtain ⟨t, ht1, ht2⟩ := rtag_eq ss h4 (by omega) k (by omega)
        rw [ht1, Option.bind_some, ht2, Option.bind_some]
        rfl
  | succ n ih =>
    intro i k s ps ss hi hk ha h0 h1 h2 h3 h4
    obtain ⟨k, rfl⟩ : ∃ j, k = j + 1 := ⟨k - 1, by omega⟩
    have hmp : (ps.map refC).length = ps.length := List.length_map _
    have hll := h.small.len
    rw [dropK pk i (by omega)] at ha ⊢
    rw [List.all_cons, Bool.and_eq_true] at ha
    obtain ⟨m, hm2, hat, hlk, he⟩ := (at_fnd l h (rdK pk i)).2 ha.1
    have hc := part_size (h.chk _ (memP l m hm2))
    have hw2 : wrap64 (s + (rdP l m).f1) = s + (rdP l m).f1 := IntWalk.wrap64_in _ (by omega)
    have hw3 : wrap64 ((pk.length : Int) - 1) = (pk.length : Int) - 1 := IntWalk.wrap64_in _ (by omega)
    rw [stowageref14_Join.l2, hm, if_pos (by omega), if_pos (by omega), rdpk pk i (by omega), w1 i (by omega), hw3]
    show (stowageref14_at.f k (l.map refP) (rdK pk i).f0 (rdK pk i).f1).bind _ = _
    rw [at_eq l h.small.len _ _ _ (by omega), Option.bind_some, hat, if_pos (by omega), hml, if_pos (by omega), rd14 l m hm2, jn, hlk]
    have hmr : ((refP (rdP l m)).f3).length = (rdP l m).f3.length := List.length_map _
    rw [hmr, hmp]
    show (if (rdP l m).f1 < 64 then (if (i : Int) < (pk.length : Int) - 1 then some (rbad 141) else _) else _) = some (refJ (jfin (if (rdP l m).f2.toList = (rdK pk i).f1.toList then _ else none)))
    have hemp : (pk.drop (i + 1)).isEmpty = !decide (n ≠ 0) := by
      by_cases hn : n = 0
      · rw [List.drop_of_length_le (by omega)]; simp [hn]
      · have : (pk.drop (i + 1)).length ≠ 0 := by rw [List.length_drop]; omega
        rw [decide_eq_true hn]
        cases hd : pk.drop (i + 1) with
        | nil => rw [hd] at this; simp at this
        | cons _ _ => rfl
    rw [if_pos he, hemp, Bool.not_not, Bool.false_or]
    have hgo : (if ps.length + (rdP l m).f3.length < 5864062014805 then (if ss.length < 8796093022208 then stowageref14_Join.l2 k (l.map refP) (pk.map refK) (wrap64 (s + (rdP l m).f1)) (ps.map refC ++ (rdP l m).f3.map refC) (ss ++ [(rdP l m).f2]) ((i + 1 : Nat) : Int) 0 false 0 (⟨#[]⟩ : ByteArray) else none) else none) = some (refJ (jfin (jn l (pk.drop (i + 1)) (s + (rdP l m).f1) (ps ++ (rdP l m).f3) (ss ++ [(rdP l m).f2]) false))) := by
      rw [if_pos (by omega), if_pos (by omega), hw2, ← List.map_append]
      exact ih (i + 1) k _ _ _ (by omega) (by omega) ha.2 (by omega) (by omega) (by rw [List.length_append]; omega) (by rw [List.length_append, h3]; rfl) (fun t ht => by
        rcases List.mem_append.1 ht with ht | ht
        · exact h4 t ht
        · simp at ht; subst ht; exact hc.2.2.2)
    by_cases h64 : (rdP l m).f1 < 64
    · rw [if_pos h64, decide_eq_true h64]
      by_cases hn : n = 0
      · rw [if_neg (by omega), decide_eq_false (by omega : ¬ n ≠ 0), Bool.false_and]
        exact hgo
      · rw [if_pos (by omega), decide_eq_true hn, Bool.true_and, jn_small l _ _ _ _ ha.2]
        rfl
    · rw [if_neg h64, decide_eq_false h64, Bool.and_false]
      exact hgo
theorem rincr_go (l : List Part) (h : Good l) (pk : List Pick) (hpk : pk.length ≤ 1048576) : ∀ n i k, i + 1 + n = pk.length → n + 7000000 < k → stowageref14_Join.l0 k (l.map refP) (pk.map refK) ((i + 1 : Nat) : Int) 0 false 0 (⟨#[]⟩ : ByteArray) = some (refJ (if incr (pk.drop i) = true then jfin (jn l pk 0 [] [] false) else bad 1)) := by
  have hm : (pk.map refK).length = pk.length := List.length_map _
  intro n
  induction n with
  | zero =>
    intro i k hi hk
    obtain ⟨k, rfl⟩ : ∃ j, k = (pk.length + 1 + j) + 1 := ⟨k - pk.length - 2, by omega⟩
    rw [stowageref14_Join.l0, hm, if_neg (by omega), dropK pk i (by omega), List.drop_of_length_le (by omega), incr, if_pos rfl]
    have := fnd_go l h pk hpk pk.length 0 k (by omega) (by omega)
    rw [show ((0 : Nat) : Int) = 0 from rfl, List.drop_zero] at this
    rw [this]
    cases hf : pk.all (fnd l)
    · rw [if_neg (by decide)]
      have hj : ∀ (r : List Pick) s ps ss b, r.all (fnd l) = false → jn l r s ps ss b = none := by
        intro r
        induction r with
        | nil => intro s ps ss b hr; simp at hr
        | cons x r ih =>
          intro s ps ss b hr
          rw [List.all_cons] at hr
          rw [jn]
          cases hx : fnd l x
          · unfold fnd at hx
            cases hl : look l x.f0 with
            | none => rfl
            | some p =>
              rw [hl] at hx
              show (if p.f2.toList = x.f1.toList then _ else _) = _
              rw [if_neg (by simpa using hx)]
          · rw [hx, Bool.true_and] at hr
            cases hl : look l x.f0 with
            | none => rfl
            | some p =>
              show (if p.f2.toList = x.f1.toList then jn l r _ _ _ _ else _) = _
              rw [ih _ _ _ _ hr]
              split <;> rfl
      rw [hj pk 0 [] [] false hf]
      rfl
    · rw [if_pos rfl]
      exact rjoin_go l h pk hpk pk.length 0 k 0 [] [] (by omega) (by omega) hf (Int.le_refl _) (by omega) (Nat.zero_le _) rfl (fun t ht => by cases ht)
  | succ n ih =>
    intro i k hi hk
    obtain ⟨k, rfl⟩ : ∃ j, k = j + 1 := ⟨k - 1, by omega⟩
    have e : wrap64 (((i + 1 : Nat) : Int) - 1) = (i : Int) := by rw [IntWalk.wrap64_in _ (by omega)]; omega
    rw [stowageref14_Join.l0, hm, if_pos (by omega), if_pos (by omega), e, if_pos (by omega), if_pos (by omega), rdpk pk (i + 1) (by omega), rdpk pk i (by omega), dropK pk i (by omega), dropK pk (i + 1) (by omega), incr, w1 (i + 1) (by omega), ih (i + 1) k (by omega) (by omega), dropK pk (i + 1) (by omega)]
    show (if (rdK pk (i + 1)).f0 ≤ (rdK pk i).f0 then some (rbad 1) else _) = _
    by_cases h1 : (rdK pk (i + 1)).f0 ≤ (rdK pk i).f0
    · rw [if_pos h1, decide_eq_false (by omega), Bool.false_and, if_neg (by decide)]
      rfl
    · rw [if_neg h1, decide_eq_true (by omega), Bool.true_and]
theorem rjoin_eq (l : List Part) (hl : Small l) (pk : List Pick) (hpk : pk.length ≤ 1048576) (k : Nat) (hk : 9000000 ≤ k) : stowageref14_Join.f k (l.map refP) (pk.map refK) = some (refJ (jspec l pk)) := by
  obtain ⟨k, rfl⟩ : ∃ j, k = j + 1 := ⟨k - 1, by omega⟩
  have hm : (pk.map refK).length = pk.length := List.length_map _
  unfold stowageref14_Join.f jspec
  rw [may14_eq l hl (k + 1) (by omega), Option.bind_some]
  cases hr : rB none l
  · rw [if_neg (by decide), if_neg (by simp), stowageref14_Join.j0, if_pos rfl]
    rfl
  · rw [if_pos rfl, hm]
    by_cases hp : pk = []
    · subst hp
      rw [if_neg (by simp)]
      show stowageref14_Join.j0 (k + 1) _ _ true 0 false 0 _ = _
      rw [stowageref14_Join.j0, if_pos rfl]
      rfl
    · have hlen : pk.length ≠ 0 := fun h => hp (List.eq_nil_of_length_eq_zero h)
      rw [if_pos ⟨rfl, hp⟩]
      have e : ((pk.length : Int) == 0) = false := by simpa using hlen
      rw [e, stowageref14_Join.j0, if_neg (by decide)]
      have := rincr_go l (Good.of hl hr) pk hpk (pk.length - 1) 0 k (by omega) (by omega)
      rw [List.drop_zero] at this
      exact this
theorem picked_go (l : List Pick) (hl : l.length ≤ 1048576) : ∀ n i k (acc : List RPick), i + n = l.length → n < k → acc.length ≤ i → stowagelaw14_picked.l0 k l acc (i : Int) = some (acc ++ (l.drop i).map refK) := by
  intro n
  induction n with
  | zero =>
    intro i k acc hi hk ha
    obtain ⟨k, rfl⟩ : ∃ j, k = j + 1 := ⟨k - 1, by omega⟩
    rw [stowagelaw14_picked.l0, if_neg (by omega), List.drop_of_length_le (by omega), List.map_nil, List.append_nil]
  | succ n ih =>
    intro i k acc hi hk ha
    obtain ⟨k, rfl⟩ : ∃ j, k = j + 1 := ⟨k - 1, by omega⟩
    rw [stowagelaw14_picked.l0, if_pos (by omega), if_pos (by omega), if_pos (by omega), w1 i (by omega), ih (i + 1) k _ (by omega) (by omega) (by rw [List.length_append, List.length_singleton]; omega), dropK l i (by omega), List.map_cons, List.append_assoc]
    rfl
theorem picked_eq (l : List Pick) (hl : l.length ≤ 1048576) (k : Nat) (hk : 1048577 ≤ k) : stowagelaw14_picked.f k l = some (l.map refK) := by
  unfold stowagelaw14_picked.f
  exact (picked_go l hl l.length 0 k [] (by omega) (by omega) (Nat.le_refl _)).trans rfl
theorem jspec_len (l : List Part) (pk : List Pick) : (jspec l pk).2.2.2.2.1.length ≤ 512 := by
  have hb : ∀ e, (bad e).2.2.2.2.1.length ≤ 512 := fun e => Nat.zero_le _
  unfold jspec
  split
  · split
    · cases jn l pk 0 [] [] false with
      | none => exact hb _
      | some q =>
        obtain ⟨s, ps, ss, b⟩ := q
        rw [jfin]
        split
        · exact hb _
        · split
          · exact hb _
          · rename_i h1
            show ps.length ≤ 512
            omega
    · exact hb _
  · exact hb _
theorem PartsJoins_true (l : List Part) (pk : List Pick) (hl : Small l) (hpk : pk.length ≤ 1048576) (hw : ∀ x ∈ pk, wf x.f0) : ∃ k, stowagelaw14_PartsJoins.f k l pk = some true := by
  refine ⟨9000000, ?_⟩
  unfold stowagelaw14_PartsJoins.f
  rw [join_eq l hl pk hpk hw 9000000 (by omega), Option.bind_some, refs_eq l hl.len (fun p hp => (hl.each p hp).len) 9000000 (by omega), Option.bind_some, picked_eq pk hpk 9000000 (by omega), Option.bind_some, rjoin_eq l hl pk hpk 9000000 (by omega), Option.bind_some,
    awake_true 9000000 (by omega), Option.bind_some, if_pos rfl]
  have hlen := jspec_len l pk
  generalize jspec l pk = J at hlen ⊢
  obtain ⟨a, b, c, s, ps, e⟩ := J
  show (stowagelaw13_Ref.f 9000000 a b c s ps).bind _ = _
  unfold stowagelaw13_Ref.f
  have hlen' : ps.length ≤ 512 := hlen
  rw [piece_eq ps (by omega) 9000000 (by omega), Option.bind_some, Option.bind_some]
  show (stowageref13_Same.f 9000000 a b c s (ps.map refC) a b c s (ps.map refC)).bind _ = _
  rw [same13_eq a b c s (ps.map refC) (by rw [List.length_map]; omega) 9000000 (by omega), Option.bind_some, if_pos rfl]
  show some (e == e) = _
  simp
end Go.Proofs.YtoiockmmlanimaaDoor.Pure
end
section
/- How parts and picks are read out of an argument, how small they are, and the table of the rounds' numbers. -/
namespace Go.Proofs.YtoiockmmlanimaaDoor.KO
open Go Go.RowKit Go.Proofs.YtoiockmmlanimaaDoorW.PrintWords Go.Proofs.YtoiockmmlanimaaDoor.Oj
theorem opensPiece : Opens Tryd.prog 63 k63 (fun y => y.f0.size ≤ reachBytes ∧ (Lit.int .i64 y.f1).wf = true) (fun y => ((y.f0.size + 1) + 1) + 1) :=
  opens_struct (fun x : S63 => (x.f0, x.f1)) (fun p => ⟨p.1, p.2⟩) (fun _ => rfl) Tryd.underlying63
    (opens_cons (off' := 1) rfl (opens_string Tryd.underlying9) (by kernel_rfl) (opens_last rfl (opens_int Tryd.underlying3) (by kernel_rfl)))
theorem opensPieces : Opens Tryd.prog 24 (Kd.slice 63 k63) (fun ys => ys.length * 24 ≤ reachBytes ∧ ∀ y ∈ ys, y.f0.size ≤ reachBytes ∧ (Lit.int .i64 y.f1).wf = true) (fun ys => (ys.map fun y => ((y.f0.size + 1) + 1) + 1).sum + 1) :=
  opens_slice Tryd.underlying24 opensPiece (by kernel_rfl) (by kernel_rfl)
theorem opensPart : Opens Tryd.prog 46 k46 (fun y => (Lit.int .i64 y.f0).wf = true ∧ (Lit.int .i64 y.f1).wf = true ∧ y.f2.size ≤ reachBytes ∧ (y.f3.length * 24 ≤ reachBytes ∧ ∀ z ∈ y.f3, z.f0.size ≤ reachBytes ∧ (Lit.int .i64 z.f1).wf = true)) (fun y => (1 + (1 + ((y.f2.size + 1) + ((y.f3.map fun z => ((z.f0.size + 1) + 1) + 1).sum + 1)))) + 1) :=
  opens_struct (fun x : S46 => (x.f0, x.f1, x.f2, x.f3)) (fun p => ⟨p.1, p.2.1, p.2.2.1, p.2.2.2⟩) (fun _ => rfl) Tryd.underlying46
    (opens_cons (off' := 1) rfl (opens_int Tryd.underlying3) (by kernel_rfl) (opens_cons (off' := 2) rfl (opens_int Tryd.underlying3) (by kernel_rfl) (opens_cons (off' := 3) rfl (opens_string Tryd.underlying9) (by kernel_rfl) (opens_last rfl opensPieces (by kernel_rfl)))))
theorem opensParts : Opens Tryd.prog 22 (Kd.slice 46 k46) (fun ys => ys.length * 56 ≤ reachBytes ∧ ∀ y ∈ ys, (Lit.int .i64 y.f0).wf = true ∧ (Lit.int .i64 y.f1).wf = true ∧ y.f2.size ≤ reachBytes ∧ (y.f3.length * 24 ≤ reachBytes ∧ ∀ z ∈ y.f3, z.f0.size ≤ reachBytes ∧ (Lit.int .i64 z.f1).wf = true)) (fun ys => (ys.map fun y => (1 + (1 + ((y.f2.size + 1) + ((y.f3.map fun z => ((z.f0.size + 1) + 1) + 1).sum + 1)))) + 1).sum + 1) :=
  opens_slice Tryd.underlying22 opensPart (by kernel_rfl) (by kernel_rfl)
theorem opensPick : Opens Tryd.prog 61 k61 (fun y => (Lit.int .i64 y.f0).wf = true ∧ y.f1.size ≤ reachBytes) (fun y => (1 + (y.f1.size + 1)) + 1) :=
  opens_struct (fun x : S61 => (x.f0, x.f1)) (fun p => ⟨p.1, p.2⟩) (fun _ => rfl) Tryd.underlying61
    (opens_cons (off' := 1) rfl (opens_int Tryd.underlying3) (by kernel_rfl) (opens_last rfl (opens_string Tryd.underlying9) (by kernel_rfl)))
theorem opensPicks : Opens Tryd.prog 23 (Kd.slice 61 k61) (fun ys => ys.length * 24 ≤ reachBytes ∧ ∀ y ∈ ys, (Lit.int .i64 y.f0).wf = true ∧ y.f1.size ≤ reachBytes) (fun ys => (ys.map fun y => (1 + (y.f1.size + 1)) + 1).sum + 1) :=
  opens_slice Tryd.underlying23 opensPick (by kernel_rfl) (by kernel_rfl)
theorem sum_ge {α : Type} (f : α → Nat) (hf : ∀ y, 1 ≤ f y) : ∀ l : List α, l.length ≤ (l.map f).sum ∧ ∀ y ∈ l, f y ≤ (l.map f).sum
  | [] => ⟨Nat.le_refl _, fun y hy => by cases hy⟩
  | z :: l => by
    obtain ⟨h1, h2⟩ := sum_ge f hf l
    have := hf z
    rw [List.map_cons, List.sum_cons]
    refine ⟨by rw [List.length_cons]; omega, fun y hy => ?_⟩
    rcases List.mem_cons.1 hy with rfl | hy
    · omega
    · have := h2 y hy; omega
theorem small_parts (l : List Pure.Part) {B : Nat} (h : (l.map fun y => (1 + (1 + ((y.f2.size + 1) + ((y.f3.map fun z => ((z.f0.size + 1) + 1) + 1).sum + 1)))) + 1).sum + 1 ≤ B) (hB : B ≤ 1048576) : Pure.Small l := by
  obtain ⟨h1, h2⟩ := sum_ge (fun y : Pure.Part => (1 + (1 + ((y.f2.size + 1) + ((y.f3.map fun z => ((z.f0.size + 1) + 1) + 1).sum + 1)))) + 1) (fun y => by omega) l
  refine ⟨by omega, fun p hp => ?_⟩
  have h3 : (1 + (1 + ((p.f2.size + 1) + ((p.f3.map fun z : Pure.Piece => ((z.f0.size + 1) + 1) + 1).sum + 1)))) + 1 ≤ _ := h2 p hp
  clear h1 h2
  obtain ⟨h4, h5⟩ := sum_ge (fun z : Pure.Piece => ((z.f0.size + 1) + 1) + 1) (fun y => by omega) p.f3
  generalize (p.f3.map fun z : Pure.Piece => ((z.f0.size + 1) + 1) + 1).sum = X at h3 h4 h5
  generalize ((l.map fun y : Pure.Part => (1 + (1 + ((y.f2.size + 1) + ((y.f3.map fun z => ((z.f0.size + 1) + 1) + 1).sum + 1)))) + 1)).sum = Z at h h3
  refine ⟨by omega, fun y hy => ?_, by omega⟩
  have := h5 y hy
  omega
theorem picks_len (l : List Pure.Pick) {B : Nat} (h : (l.map fun y => (1 + (y.f1.size + 1)) + 1).sum + 1 ≤ B) (hB : B ≤ 1048576) : l.length ≤ 1048576 := by
  obtain ⟨h1, _⟩ := sum_ge (fun y : Pure.Pick => (1 + (y.f1.size + 1)) + 1) (fun y => by omega) l
  omega
theorem wf_of {n : Int} (h : (Lit.int .i64 n).wf = true) : Pure.wf n := by
  simp only [Lit.wf, Bool.and_eq_true, decide_eq_true_eq] at h
  exact h
/-- A row that lies in a world, told by what lies in the blocks that are there. -/
theorem agree_C {α : Type} {d : Kd α} (hK : ∀ (W W' : World) (x : α) (cs : List Value), (∀ k, k < W.heap.size → W'.heap[k]? = W.heap[k]?) → d.K W x cs → d.K W' x cs) {W W' : World} (ha : ∀ k, k < W.heap.size → W'.heap[k]? = W.heap[k]?) {A : Option Addr} {n : Nat} {xs : List α} (h : d.C W A n xs) : d.C W' A n xs := by
  obtain ⟨h1, h2, h3⟩ := h
  refine ⟨h1, h2, fun hp => ?_⟩
  obtain ⟨ad, hA, hr⟩ := h3 hp
  refine ⟨ad, hA, fun j x hx => ?_⟩
  obtain ⟨cs, hl, hk, hc⟩ := hr j x hx
  exact ⟨cs, hl, hK W W' x cs ha hk, fun i u hu => (World.cell?_of_block (ha _ (World.block_lt_of_cell? W _ (hc i u hu)))).trans (hc i u hu)⟩
theorem V_top {W : World} {e base c : Nat} {A : Option Addr} {l : List Pure.Part} (hr : Kd.C k46 W A l.length l) (hc : l.length ≤ c) : Kd.V k46 e W base (fun _ => True) (.slice A l.length c) l :=
  Kd.V_mk hc (fun W' hW => agree_C (fun W W' x cs ha hk => by
    obtain ⟨A3, c3, rfl, hl3, g3⟩ := k46_open hk
    exact k46_mk W' x hl3 (agree_C (fun W W' y cs _ hk => by rw [k63_open hk]; exact k63_mk W' y) ha g3)) (fun k hk => hW k trivial hk) hr)
/-- The table of the rounds' numbers, out of what is laid. -/
theorem gg_of_laid {W : World} (h : laidMetH Tryd.prog Rows.partsWholeRow.laid W) : GG W := by
  rw [MakeChecks.laidMetH_plain _ _ _ (by kernel_rfl)] at h
  obtain ⟨ps, ⟨g, t, cs, fuel, p, q, hg, ht, hv, hd, _, _⟩, _, _⟩ := h
  obtain rfl := Option.some.inj ((show Tryd.prog.globalNamed "stowage/digest.rounds" = some 0 by kernel_rfl).symm.trans hg)
  obtain rfl := Option.some.inj ((show (Tryd.prog.globals[0]?).map (·.type) = some 143 by kernel_rfl).symm.trans ht)
  obtain ⟨xs, m, _, ex, _, hl, hel⟩ := DataW.trod_array Tryd.underlying143 hd
  have c5 : Tryd.prog.cellsOf 137 = 1 := by kernel_rfl
  have hdat : (Rows.laid_stowage_digest_rounds : DataW Unit) = .agg (Sha.Ks.map fun x => .lit (.int .u32 (x.toNat : Int))) := by kernel_rfl
  have hlen : Sha.Ks.length = 64 := by kernel_rfl
  have e3 : xs.map (·.1) = Sha.Ks.map fun x => (.lit (.int .u32 (x.toNat : Int)) : DataW Unit) := (DataW.agg.inj (hdat.symm.trans (Prod.mk.inj ex).1)).symm
  have key : ∀ r, r < 64 → W.cell? ⟨0, r, none⟩ = some (Sha.U (Sha.Ks.getD r 0)) := by
    intro r hr
    have hE := hel r hr
    rw [c5, Nat.mul_one, List.getElem?_eq_getElem (by omega)] at hE
    obtain ⟨z, e1, e2, _⟩ := DataW.trod_int Tryd.underlying137 hE
    have e4 : (xs.map (·.1))[r]? = (Sha.Ks.map fun x => (.lit (.int .u32 (x.toNat : Int)) : DataW Unit))[r]? := by rw [e3]
    rw [List.getElem?_map, List.getElem?_map, List.getElem?_eq_getElem (by omega : r < xs.length), List.getElem?_eq_getElem (by omega : r < Sha.Ks.length), e2] at e4
    have hz : z = ((Sha.Ks.getD r 0).toNat : Int) := by
      simp only [Option.map_some, Option.some.injEq, DataW.lit.injEq, Lit.int.injEq, true_and] at e4
      rw [e4, List.getD, List.getElem?_eq_getElem (by omega : r < Sha.Ks.length)]
      rfl
    rw [World.var?_cell hg hv r, Sha.U_def, ← hz]
    have : cs.toList[r]? = some (.int .u32 z) := by
      have h0 : ((cs.toList.drop r).take 1)[0]? = some (.int .u32 z) := by rw [e1]; rfl
      simpa using h0
    simpa using this
  have h0 := key 0 (by omega)
  cases hh : W.heap[0]? with
  | none => simp [World.cell?, hh] at h0
  | some ob =>
    cases ob with
    | cells c t fr =>
      refine ⟨c, t, fr, hh, fun i hi => ?_⟩
      rw [← key i hi, cell_of_row W 0 i c t fr hh]
    | _ => simp [World.cell?, hh] at h0
end Go.Proofs.YtoiockmmlanimaaDoor.KO
end
section
-- Written for this claim by hyb.py, a driver of this session's over the kit's printer.
namespace Go.Proofs.YtoiockmmlanimaaDoor.Oj
open Go.RowKit Go.Proofs.YtoiockmmlanimaaDoorW.PrintWords Go.Proofs.YtoiockmmlanimaaDoorW.PrintLast Go.Proofs.YtoiockmmlanimaaDoorW.PrintMore
attribute [local go_sem] max2_int min2_int max_two min_two max_three min_three max_four min_four   -- for this text's walks alone
set_option linter.unusedVariables false
set_option linter.unusedSimpArgs false

def stowagelaw14_PartsJoins.T3 : Bool × List (List Nat × List Nat) := (true, [([], []), ([0, 0], [0]), ([1], [1]), ([2, 1, 1], [1, 2]), ([1], [1]), ([3, 4, 3, 1], [1, 3, 4]), ([1, 5], [1, 5]), ([6, 5], [6]), ([7], [7]), ([7], [7]), ([8, 9, 7], [7, 8, 9]), ([7, 10], [7, 10]), ([11, 7, 0, 1, 2, 3, 4, 5, 6, 7, 8, 9, 10, 11], [11])])
def stowagelaw14_PartsJoins.B3 : List Nat := [0, 1, 3, 7, 3, 31, 63, 127, 255, 255, 1023, 2047, 4095]
theorem stowagelaw14_PartsJoins.tab3 : rtab .any (opsOf Tryd.f3 3) = stowagelaw14_PartsJoins.T3 := by kernel_rfl
theorem stowagelaw14_PartsJoins.bits3 : waitsOk stowagelaw14_PartsJoins.T3.2 stowagelaw14_PartsJoins.B3 = true := by kernel_rfl
set_option maxHeartbeats 8000000 in
set_option maxRecDepth 100000 in
theorem stowagelaw14_PartsJoins.calls (k : Nat) (A0 : Option Addr) (c0 : Nat) (l0 : List (S46)) (A1 : Option Addr) (c1 : Nat) (l1 : List (S61)) (r : Bool) (w : World) (hr0 : Kd.C k46 w A0 l0.length l0) (hc0 : l0.length ≤ c0) (hr1 : Kd.C k61 w A1 l1.length l1) (hc1 : l1.length ≤ c1) (h : stowagelaw14_PartsJoins.f k l0 l1 = some r) (hG : GG w) :
  Calls Tryd.prog 3 #[.slice A0 l0.length c0, .slice A1 l1.length c1] w fun e w' => e = .returned (.bool r) ∧ Below w.heap.size w w' := by
 have HG := Aside0.mk hG
 clear hG
 have hu26 := Tryd.underlying26
 have hu32 := Tryd.underlying32
 have HR0 := Aside0.mk hr0
 have HC0 := Aside0.mk hc0
 clear hr0 hc0
 have HR1 := Aside0.mk hr1
 have HC1 := Aside0.mk hc1
 clear hr1 hc1
 have HB := Aside0.mk (Below.refl w.heap.size w)
 have H : ((parts_Join.f k l0 l1).bind fun bt271 => ((stowagelaw14_Refs.f k l0).bind fun t280 => ((stowagelaw14_picked.f k l1).bind fun t283 => ((stowageref14_Join.f k t280 t283).bind fun bt286 => ((stowagelaw14_awake.f k).bind fun t295 => (if t295 = true then ((stowagelaw13_Ref.f k bt271.1 bt271.2.1 bt271.2.2.1 bt271.2.2.2.1 bt271.2.2.2.2.1).bind fun bt296 => ((stowageref13_Same.f k bt296.1 bt296.2.1 bt296.2.2.1 bt296.2.2.2.1 bt296.2.2.2.2 bt286.1 bt286.2.1 bt286.2.2.1 bt286.2.2.2.1 bt286.2.2.2.2.1).bind fun t303 => (if t303 = true then (some (bt271.2.2.2.2.2 == bt286.2.2.2.2.2)) else (some false)))) else (some false))))))) = some r := h
 clear h
 replace H := Option.bind_eq_some_iff.mp H
 obtain ⟨⟨t271, t272, t273, t274, t275, t278⟩, A30, H⟩ := H
 replace H : ((stowagelaw14_Refs.f k l0).bind fun t280 => ((stowagelaw14_picked.f k l1).bind fun t283 => ((stowageref14_Join.f k t280 t283).bind fun bt286 => ((stowagelaw14_awake.f k).bind fun t295 => (if t295 = true then ((stowagelaw13_Ref.f k t271 t272 t273 t274 t275).bind fun bt296 => ((stowageref13_Same.f k bt296.1 bt296.2.1 bt296.2.2.1 bt296.2.2.2.1 bt296.2.2.2.2 bt286.1 bt286.2.1 bt286.2.2.1 bt286.2.2.2.1 bt286.2.2.2.2.1).bind fun t303 => (if t303 = true then (some (t278 == bt286.2.2.2.2.2)) else (some false)))) else (some false)))))) = some r := H
 have A3 := Aside0.mk A30
 clear A30
 replace H := Option.bind_eq_some_iff.mp H
 obtain ⟨t280, A40, H⟩ := H
 replace H : ((stowagelaw14_picked.f k l1).bind fun t283 => ((stowageref14_Join.f k t280 t283).bind fun bt286 => ((stowagelaw14_awake.f k).bind fun t295 => (if t295 = true then ((stowagelaw13_Ref.f k t271 t272 t273 t274 t275).bind fun bt296 => ((stowageref13_Same.f k bt296.1 bt296.2.1 bt296.2.2.1 bt296.2.2.2.1 bt296.2.2.2.2 bt286.1 bt286.2.1 bt286.2.2.1 bt286.2.2.2.1 bt286.2.2.2.2.1).bind fun t303 => (if t303 = true then (some (t278 == bt286.2.2.2.2.2)) else (some false)))) else (some false))))) = some r := H
 have A4 := Aside0.mk A40
 clear A40
 replace H := Option.bind_eq_some_iff.mp H
 obtain ⟨t283, A50, H⟩ := H
 replace H : ((stowageref14_Join.f k t280 t283).bind fun bt286 => ((stowagelaw14_awake.f k).bind fun t295 => (if t295 = true then ((stowagelaw13_Ref.f k t271 t272 t273 t274 t275).bind fun bt296 => ((stowageref13_Same.f k bt296.1 bt296.2.1 bt296.2.2.1 bt296.2.2.2.1 bt296.2.2.2.2 bt286.1 bt286.2.1 bt286.2.2.1 bt286.2.2.2.1 bt286.2.2.2.2.1).bind fun t303 => (if t303 = true then (some (t278 == bt286.2.2.2.2.2)) else (some false)))) else (some false)))) = some r := H
 have A5 := Aside0.mk A50
 clear A50
 replace H := Option.bind_eq_some_iff.mp H
 obtain ⟨⟨t286, t287, t288, t289, t290, t293⟩, A60, H⟩ := H
 replace H : ((stowagelaw14_awake.f k).bind fun t295 => (if t295 = true then ((stowagelaw13_Ref.f k t271 t272 t273 t274 t275).bind fun bt296 => ((stowageref13_Same.f k bt296.1 bt296.2.1 bt296.2.2.1 bt296.2.2.2.1 bt296.2.2.2.2 t286 t287 t288 t289 t290).bind fun t303 => (if t303 = true then (some (t278 == t293)) else (some false)))) else (some false))) = some r := H
 have A6 := Aside0.mk A60
 clear A60
 replace H := Option.bind_eq_some_iff.mp H
 obtain ⟨t295, A70, H⟩ := H
 replace H : (if t295 = true then ((stowagelaw13_Ref.f k t271 t272 t273 t274 t275).bind fun bt296 => ((stowageref13_Same.f k bt296.1 bt296.2.1 bt296.2.2.1 bt296.2.2.2.1 bt296.2.2.2.2 t286 t287 t288 t289 t290).bind fun t303 => (if t303 = true then (some (t278 == t293)) else (some false)))) else (some false)) = some r := H
 have A7 := Aside0.mk A70
 clear A70
 by_cases c8 : t295 = true
 ·
  subst c8
  have H1 : ((stowagelaw13_Ref.f k t271 t272 t273 t274 t275).bind fun bt296 => ((stowageref13_Same.f k bt296.1 bt296.2.1 bt296.2.2.1 bt296.2.2.2.1 bt296.2.2.2.2 t286 t287 t288 t289 t290).bind fun t303 => (if t303 = true then (some (t278 == t293)) else (some false)))) = some r := by rw [if_pos rfl] at H; exact H
  clear H
  have H := H1
  clear H1
  replace H := Option.bind_eq_some_iff.mp H
  obtain ⟨⟨t296, t297, t298, t299, t300⟩, A90, H⟩ := H
  replace H : ((stowageref13_Same.f k t296 t297 t298 t299 t300 t286 t287 t288 t289 t290).bind fun t303 => (if t303 = true then (some (t278 == t293)) else (some false))) = some r := H
  have A9 := Aside0.mk A90
  clear A90
  replace H := Option.bind_eq_some_iff.mp H
  obtain ⟨t303, A100, H⟩ := H
  replace H : (if t303 = true then (some (t278 == t293)) else (some false)) = some r := H
  have A10 := Aside0.mk A100
  clear A100
  by_cases c11 : t303 = true
  ·
   subst c11
   have H1 : (some (t278 == t293)) = some r := by rw [if_pos rfl] at H; exact H
   clear H
   have H := H1
   clear H1
   obtain rfl := Option.some.inj H
   go_enter Tryd.func3, Tryd.ntmps3
   try go_wp2_with (first | ((with_reducible refine gate_callee (f := 9) rfl ?_); refine goesL_ (some 12) rfl rfl Tryd.func9 (by kernel_rfl) rfl #[.slice A0 l0.length c0, .slice A1 l1.length c1] rfl gl ?_; (with_reducible refine (parts_Join.calls k _ _ l0 _ _ l1 t271 t272 t273 t274 t275 t278 _ ?side1 ?side2 ?side3 ?side4 A3.out ?sideG).mono ?_); (case sideG => first | exact HG.out | exact gg_below HG.out (bws HB.out)); (case side1 => exact kC HR0.out); (case side2 => exact HC0.out); (case side3 => exact kC HR1.out); (case side4 => exact HC1.out); rintro e w12 ⟨v276, rfl, ho0, hb⟩; refine ⟨_, rfl, ?_⟩; have HO277 := Aside0.mk (Kd.R_lower ho0 (below_size (bw HB.out))); replace HB := Aside0.mk (below_step (bw HB.out) hb); (try clear hb); (try clear hb2); (try clear hk); (try clear hi); (try clear ho0)) | ((with_reducible refine gate_dst (N := 5) rfl ?_); refine box_event ?hg (N := 5) ?hd (cs := #[.int .i64 0, .bool false, .int .i64 0, .string (⟨#[]⟩ : ByteArray), .slice none 0 0]) (t := 26) ?hr ?_; (case hd => rfl); (case hg => rfl); (case hr => first | (go_simp; done) | (go_simp; rfl)); intro gb279 hg w13 hbox hb; have n0_ := Aside0.mk (Kd.R_below (kR HO277.out) hb); have n1_ := Aside0.mk (below_step (bw HB.out) hb); have n2_ := Aside0.mk (hbox); have n3_ := Aside0.mk ((by rw [hg]; exact (below_size (bw HB.out)) : w.heap.size ≤ gb279)); have n4_ := Aside0.mk ((by rw [hg]; exact (below_size (bw HB.out)) : w.heap.size ≤ gb279)); clear HO277; clear HB; have HO277 := n0_; have HB := n1_; have BK279 := n2_; have GW279 := n3_; have GE279 := n4_; clear n0_ n1_ n2_ n3_ n4_; clear hb hbox hg; obtain ⟨hcz14_0, hcz14_1, hcz14_2, hcz14_3, hcz14_4, hfz14_0, hfz14_1, hfz14_2, hfz14_3, hfz14_4⟩ := cz5 BK279.out; obtain ⟨Ao15, co15, eo15⟩ := Kd.R_slice HO277.out; subst eo15) | ((with_reducible refine gate_callee (f := 11) rfl ?_); refine goesL_ (some 17) rfl rfl Tryd.func11 (by kernel_rfl) rfl #[.slice A0 l0.length c0] rfl gl ?_; (with_reducible refine (stowagelaw14_Refs.calls k _ _ l0 t280 _ ?side1 ?side2 A4.out).mono ?_); (case side1 => exact Kd.C_below HR0.out (bws HB.out)); (case side2 => exact HC0.out); rintro e w16 ⟨v281, rfl, ho0, hb⟩; refine ⟨_, rfl, ?_⟩; replace HO277 := Aside0.mk (Kd.R_below (by (with_reducible repeat (first | apply Kd.R_alloc | apply Kd.R_drewN | apply Kd.R_drew)); exact (Kd.R_mono (Kd.R_far (p := ⟨gb279, 4, none⟩) (Kd.R_far (p := ⟨gb279, 3, none⟩) (Kd.R_far (p := ⟨gb279, 2, none⟩) (Kd.R_far (p := ⟨gb279, 1, none⟩) (Kd.R_far (p := ⟨gb279, 0, none⟩) (Kd.R_types HO277.out BK279.out (by decide)) (fun _ hk => hk.2) (.int .i64 t271)) (fun _ hk => hk.2) (.bool t272)) (fun _ hk => hk.2) (.int .i64 t273)) (fun _ hk => hk.2) (.string t274)) (fun _ hk => hk.2) (.slice Ao15 t275.length co15)) (fun _ h_ => h_.1))) hb); have HO282 := Aside0.mk (Kd.S_lower ho0 (below_size (bws HB.out))); replace BK279 := Aside0.mk (blk_below (g := gb279) (o := .cells #[.int .i64 t271, .bool t272, .int .i64 t273, .string t274, .slice Ao15 t275.length co15] 26 (0, 0)) (bkp BK279.out) hb); replace HB := Aside0.mk (below_step (bws HB.out) hb); (try clear hb); (try clear hb2); (try clear hk); (try clear hi); (try clear ho0)) | ((with_reducible refine gate_callee (f := 12) rfl ?_); refine goesL_ (some 19) rfl rfl Tryd.func12 (by kernel_rfl) rfl #[.slice A1 l1.length c1] rfl gl ?_; (with_reducible refine (stowagelaw14_picked.calls k _ _ l1 t283 _ ?side1 ?side2 A5.out).mono ?_); (case side1 => exact kC (Kd.C_below HR1.out HB.out)); (case side2 => exact HC1.out); rintro e w17 ⟨v284, rfl, ho0, hb⟩; refine ⟨_, rfl, ?_⟩; replace HO277 := Aside0.mk (Kd.R_below (kR HO277.out) hb); replace HO282 := Aside0.mk (Kd.S_below (kS HO282.out) hb); have HO285 := Aside0.mk (Kd.R_lower ho0 (below_size (bws HB.out))); replace BK279 := Aside0.mk (blk_below (g := gb279) (o := .cells #[.int .i64 t271, .bool t272, .int .i64 t273, .string t274, .slice Ao15 t275.length co15] 26 (0, 0)) (bk BK279.out) hb); replace HB := Aside0.mk (below_step (bws HB.out) hb); (try clear hb); (try clear hb2); (try clear hk); (try clear hi); (try clear ho0); obtain ⟨Ao18, co18, eo18⟩ := Kd.S_slice HO282.out; subst eo18; obtain ⟨Ao19, co19, eo19⟩ := Kd.R_slice HO285.out; subst eo19) | ((with_reducible refine gate_callee (f := 10) rfl ?_); refine goesL_ (some 20) rfl rfl Tryd.func10 (by kernel_rfl) rfl #[.slice Ao18 t280.length co18, .slice Ao19 t283.length co19] rfl gl ?_; (with_reducible refine (stowageref14_Join.calls k _ _ t280 _ _ t283 t286 t287 t288 t289 t290 t293 _ ?side1 ?side2 ?side3 ?side4 A6.out).mono ?_); (case side1 => repeat (first | exact (Kd.S_reads' HO282.out).2.2 | (with_reducible refine Kd.C_alloc ?_ _) | (with_reducible refine Kd.C_drewN ?_ _) | (with_reducible refine Kd.C_drew ?_))); (case side2 => exact (Kd.S_reads' HO282.out).2.1); (case side3 => repeat (first | exact (Kd.R_reads' HO285.out).2.2 | (with_reducible refine Kd.C_alloc ?_ _) | (with_reducible refine Kd.C_drewN ?_ _) | (with_reducible refine Kd.C_drew ?_))); (case side4 => exact (Kd.R_reads' HO285.out).2.1); rintro e w20 ⟨v291, rfl, ho0, hb⟩; refine ⟨_, rfl, ?_⟩; replace HO277 := Aside0.mk (Kd.R_below (kR HO277.out) hb); replace HO282 := Aside0.mk (Kd.S_elder' (kS HO282.out) (Kd.R_base ho0) hb); replace HO285 := Aside0.mk (Kd.R_below (kR HO285.out) hb); have HO292 := Aside0.mk (Kd.R_lower ho0 (below_size (bws HB.out))); replace BK279 := Aside0.mk (blk_below (g := gb279) (o := .cells #[.int .i64 t271, .bool t272, .int .i64 t273, .string t274, .slice Ao15 t275.length co15] 26 (0, 0)) (bk BK279.out) hb); replace HB := Aside0.mk (below_step (bws HB.out) hb); (try clear hb); (try clear hb2); (try clear hk); (try clear hi); (try clear ho0)) | ((with_reducible refine gate_dst (N := 7) rfl ?_); refine box_event ?hg (N := 7) ?hd (cs := #[.int .i64 0, .bool false, .int .i64 0, .string (⟨#[]⟩ : ByteArray), .slice none 0 0]) (t := 32) ?hr ?_; (case hd => rfl); (case hg => rfl); (case hr => first | (go_simp; done) | (go_simp; rfl)); intro gb294 hg w21 hbox hb; have n0_ := Aside0.mk (Kd.R_below (kR HO277.out) hb); have n1_ := Aside0.mk (Kd.S_below (kS HO282.out) hb); have n2_ := Aside0.mk (Kd.R_below (kR HO285.out) hb); have n3_ := Aside0.mk (Kd.R_below (kR HO292.out) hb); have n4_ := Aside0.mk (blk_below (g := gb279) (o := .cells #[.int .i64 t271, .bool t272, .int .i64 t273, .string t274, .slice Ao15 t275.length co15] 26 (0, 0)) (bk BK279.out) hb); have n5_ := Aside0.mk (below_step (bws HB.out) hb); have n6_ := Aside0.mk (hbox); have n7_ := Aside0.mk ((by rw [hg]; exact (below_size (bws HB.out)) : w.heap.size ≤ gb294)); have n8_ := Aside0.mk ((by rw [hg]; exact (below_size (bws HB.out)) : w.heap.size ≤ gb294)); have n9_ := Aside0.mk ((by rw [hg]; exact Nat.ne_of_lt (blk_lt (g := gb279) (o := .cells #[.int .i64 t271, .bool t272, .int .i64 t273, .string t274, .slice Ao15 t275.length co15] 26 (0, 0)) (bk BK279.out)) : gb279 ≠ gb294)); have n10_ := Aside0.mk ((by rw [hg]; exact Nat.ne_of_gt (blk_lt (g := gb279) (o := .cells #[.int .i64 t271, .bool t272, .int .i64 t273, .string t274, .slice Ao15 t275.length co15] 26 (0, 0)) (bk BK279.out)) : gb294 ≠ gb279)); clear HO277; clear HO282; clear HO285; clear HO292; clear BK279; clear HB; have HO277 := n0_; have HO282 := n1_; have HO285 := n2_; have HO292 := n3_; have BK279 := n4_; have HB := n5_; have BK294 := n6_; have GW294 := n7_; have GE294 := n8_; have NB279_294 := n9_; have NB294_279 := n10_; clear n0_ n1_ n2_ n3_ n4_ n5_ n6_ n7_ n8_ n9_ n10_; clear hb hbox hg; have hnb22 := NB294_279.out; have hnc22 := NB279_294.out; obtain ⟨hcz23_0, hcz23_1, hcz23_2, hcz23_3, hcz23_4, hfz23_0, hfz23_1, hfz23_2, hfz23_3, hfz23_4⟩ := cz5 BK294.out; obtain ⟨Ao24, co24, eo24⟩ := Kd.R_slice HO292.out; subst eo24))
   have n0_ : Aside0 (Kd.R k63 63 (((((w21.setCell ⟨gb294, 0, none⟩ (.int .i64 t286)).setCell ⟨gb294, 1, none⟩ (.bool t287)).setCell ⟨gb294, 2, none⟩ (.int .i64 t288)).setCell ⟨gb294, 3, none⟩ (.string t289)).setCell ⟨gb294, 4, none⟩ (.slice Ao24 t290.length co24)) w.heap.size (fun _ => True) (.slice Ao15 t275.length co15) t275) := ⟨by (with_reducible repeat (first | apply Kd.R_alloc | apply Kd.R_drewN | apply Kd.R_drew)); exact Kd.R_mono (Kd.R_far (p := ⟨gb294, 4, none⟩) (Kd.R_far (p := ⟨gb294, 3, none⟩) (Kd.R_far (p := ⟨gb294, 2, none⟩) (Kd.R_far (p := ⟨gb294, 1, none⟩) (Kd.R_far (p := ⟨gb294, 0, none⟩) (Kd.R_types HO277.out BK294.out (by decide)) (fun _ hk => hk.2) (.int .i64 t286)) (fun _ hk => hk.2) (.bool t287)) (fun _ hk => hk.2) (.int .i64 t288)) (fun _ hk => hk.2) (.string t289)) (fun _ hk => hk.2) (.slice Ao24 t290.length co24)) (fun _ hk => trivial)⟩
   have n1_ : Aside0 (Kd.S k52 52 (((((w21.setCell ⟨gb294, 0, none⟩ (.int .i64 t286)).setCell ⟨gb294, 1, none⟩ (.bool t287)).setCell ⟨gb294, 2, none⟩ (.int .i64 t288)).setCell ⟨gb294, 3, none⟩ (.string t289)).setCell ⟨gb294, 4, none⟩ (.slice Ao24 t290.length co24)) w.heap.size (fun k_ => some k_ ≠ (.slice Ao24 t290.length co24 : Value).ownBlock) (.slice Ao18 t280.length co18) t280) := ⟨by (with_reducible repeat (first | apply Kd.S_alloc | apply Kd.S_drewN | apply Kd.S_drew)); exact Kd.S_mono (Kd.S_far (p := ⟨gb294, 4, none⟩) (Kd.S_far (p := ⟨gb294, 3, none⟩) (Kd.S_far (p := ⟨gb294, 2, none⟩) (Kd.S_far (p := ⟨gb294, 1, none⟩) (Kd.S_far (p := ⟨gb294, 0, none⟩) (Kd.S_types HO282.out BK294.out (by decide)) (fun _ hk => hk.2) (.int .i64 t286)) (fun _ hk => hk.2) (.bool t287)) (fun _ hk => hk.2) (.int .i64 t288)) (fun _ hk => hk.2) (.string t289)) (fun _ hk => hk.2) (.slice Ao24 t290.length co24)) (fun _ hk => hk.1.2)⟩
   have n2_ : Aside0 (Kd.R k79 79 (((((w21.setCell ⟨gb294, 0, none⟩ (.int .i64 t286)).setCell ⟨gb294, 1, none⟩ (.bool t287)).setCell ⟨gb294, 2, none⟩ (.int .i64 t288)).setCell ⟨gb294, 3, none⟩ (.string t289)).setCell ⟨gb294, 4, none⟩ (.slice Ao24 t290.length co24)) w.heap.size (fun _ => True) (.slice Ao19 t283.length co19) t283) := ⟨by (with_reducible repeat (first | apply Kd.R_alloc | apply Kd.R_drewN | apply Kd.R_drew)); exact Kd.R_mono (Kd.R_far (p := ⟨gb294, 4, none⟩) (Kd.R_far (p := ⟨gb294, 3, none⟩) (Kd.R_far (p := ⟨gb294, 2, none⟩) (Kd.R_far (p := ⟨gb294, 1, none⟩) (Kd.R_far (p := ⟨gb294, 0, none⟩) (Kd.R_types HO285.out BK294.out (by decide)) (fun _ hk => hk.2) (.int .i64 t286)) (fun _ hk => hk.2) (.bool t287)) (fun _ hk => hk.2) (.int .i64 t288)) (fun _ hk => hk.2) (.string t289)) (fun _ hk => hk.2) (.slice Ao24 t290.length co24)) (fun _ hk => trivial)⟩
   have n3_ : Aside0 (Kd.R k85 85 (((((w21.setCell ⟨gb294, 0, none⟩ (.int .i64 t286)).setCell ⟨gb294, 1, none⟩ (.bool t287)).setCell ⟨gb294, 2, none⟩ (.int .i64 t288)).setCell ⟨gb294, 3, none⟩ (.string t289)).setCell ⟨gb294, 4, none⟩ (.slice Ao24 t290.length co24)) w.heap.size (fun _ => True) (.slice Ao24 t290.length co24) t290) := ⟨by (with_reducible repeat (first | apply Kd.R_alloc | apply Kd.R_drewN | apply Kd.R_drew)); exact Kd.R_mono (Kd.R_far (p := ⟨gb294, 4, none⟩) (Kd.R_far (p := ⟨gb294, 3, none⟩) (Kd.R_far (p := ⟨gb294, 2, none⟩) (Kd.R_far (p := ⟨gb294, 1, none⟩) (Kd.R_far (p := ⟨gb294, 0, none⟩) (Kd.R_types HO292.out BK294.out (by decide)) (fun _ hk => hk.2) (.int .i64 t286)) (fun _ hk => hk.2) (.bool t287)) (fun _ hk => hk.2) (.int .i64 t288)) (fun _ hk => hk.2) (.string t289)) (fun _ hk => hk.2) (.slice Ao24 t290.length co24)) (fun _ hk => trivial)⟩
   have n4_ : Aside0 ((((((w21.setCell ⟨gb294, 0, none⟩ (.int .i64 t286)).setCell ⟨gb294, 1, none⟩ (.bool t287)).setCell ⟨gb294, 2, none⟩ (.int .i64 t288)).setCell ⟨gb294, 3, none⟩ (.string t289)).setCell ⟨gb294, 4, none⟩ (.slice Ao24 t290.length co24)).heap[gb279]? = some (.cells #[.int .i64 t271, .bool t272, .int .i64 t273, .string t274, .slice Ao15 t275.length co15] 26 (0, 0))) := ⟨bkf BK279.out⟩
   have n5_ : Aside0 ((((((w21.setCell ⟨gb294, 0, none⟩ (.int .i64 t286)).setCell ⟨gb294, 1, none⟩ (.bool t287)).setCell ⟨gb294, 2, none⟩ (.int .i64 t288)).setCell ⟨gb294, 3, none⟩ (.string t289)).setCell ⟨gb294, 4, none⟩ (.slice Ao24 t290.length co24)).heap[gb294]? = some (.cells #[.int .i64 t286, .bool t287, .int .i64 t288, .string t289, .slice Ao24 t290.length co24] 32 (0, 0))) := ⟨bkp BK294.out⟩
   have n6_ : Aside0 (Below w.heap.size w (((((w21.setCell ⟨gb294, 0, none⟩ (.int .i64 t286)).setCell ⟨gb294, 1, none⟩ (.bool t287)).setCell ⟨gb294, 2, none⟩ (.int .i64 t288)).setCell ⟨gb294, 3, none⟩ (.string t289)).setCell ⟨gb294, 4, none⟩ (.slice Ao24 t290.length co24))) := ⟨bws HB.out⟩
   (try clear HO277)
   (try clear HO282)
   (try clear HO285)
   (try clear HO292)
   (try clear BK279)
   (try clear BK294)
   (try clear HB)
   generalize (((((w21.setCell ⟨gb294, 0, none⟩ (.int .i64 t286)).setCell ⟨gb294, 1, none⟩ (.bool t287)).setCell ⟨gb294, 2, none⟩ (.int .i64 t288)).setCell ⟨gb294, 3, none⟩ (.string t289)).setCell ⟨gb294, 4, none⟩ (.slice Ao24 t290.length co24)) = w25 at n0_ n1_ n2_ n3_ n4_ n5_ n6_ ⊢
   have HO277 := n0_
   have HO282 := n1_
   have HO285 := n2_
   have HO292 := n3_
   have BK279 := n4_
   have BK294 := n5_
   have HB := n6_
   clear n0_ n1_ n2_ n3_ n4_ n5_ n6_
   replace HO277 := Aside0.mk (Kd.R_drew HO277.out)
   replace HO282 := Aside0.mk (Kd.S_drew HO282.out)
   replace HO285 := Aside0.mk (Kd.R_drew HO285.out)
   replace HO292 := Aside0.mk (Kd.R_drew HO292.out)
   replace BK279 := Aside0.mk (blk_drew BK279.out)
   replace BK294 := Aside0.mk (blk_drew BK294.out)
   replace HB := Aside0.mk (below_drew1 HB.out)
   refine start_ (n := 13) (S := fun w' => w'.cell? ⟨gb279, 0, none⟩ = some (.int .i64 t271) ∧ w'.cell? ⟨gb279, 1, none⟩ = some (.bool t272) ∧ w'.cell? ⟨gb279, 2, none⟩ = some (.int .i64 t273) ∧ w'.cell? ⟨gb279, 3, none⟩ = some (.string t274) ∧ w'.cell? ⟨gb279, 4, none⟩ = some (.slice Ao15 t275.length co15) ∧ w'.cell? ⟨gb294, 0, none⟩ = some (.int .i64 t286) ∧ w'.cell? ⟨gb294, 1, none⟩ = some (.bool t287) ∧ w'.cell? ⟨gb294, 2, none⟩ = some (.int .i64 t288) ∧ w'.cell? ⟨gb294, 3, none⟩ = some (.string t289) ∧ w'.cell? ⟨gb294, 4, none⟩ = some (.slice Ao24 t290.length co24)) (ds := []) #[false, false, false, false, false, false, false, false, false, false, false, false, false] (by kernel_rfl) rfl rfl ⟨(blk_cell BK279.out 0).trans rfl, (blk_cell BK279.out 1).trans rfl, (blk_cell BK279.out 2).trans rfl, (blk_cell BK279.out 3).trans rfl, (blk_cell BK279.out 4).trans rfl, (blk_cell BK294.out 0).trans rfl, (blk_cell BK294.out 1).trans rfl, (blk_cell BK294.out 2).trans rfl, (blk_cell BK294.out 3).trans rfl, (blk_cell BK294.out 4).trans rfl⟩ (fun hHeld => ?_); refine with_tabW stowagelaw14_PartsJoins.tab3 stowagelaw14_PartsJoins.bits3 (fun HT_ HW_ => ?_)
   generalize w25.drew = w26 at HO277 HO282 HO285 HO292 BK279 BK294 HB hHeld ⊢
   refine one_ (i := 0) (N := some 23) #[true, false, false, false, false, false, false, false, false, false, false, false, false] rfl rfl (one_of HT_.out (by kernel_rfl)) (by decide) (fun K hK => ?_)
   refine goes_ Tryd.func13 (by kernel_rfl) rfl #[] (by rfl) rfl rfl gl ?_
   with_reducible refine (stowagelaw14_awake.calls k  true _ A7.out (gg_below HG.out HB.out)).mono ?_
   rintro e w27 ⟨rfl, hb⟩
   refine ⟨_, rfl, ?_⟩
   replace HO277 := Aside0.mk (Kd.R_below (kR HO277.out) hb)
   replace HO282 := Aside0.mk (Kd.S_below (kS HO282.out) hb)
   replace HO285 := Aside0.mk (Kd.R_below (kR HO285.out) hb)
   replace HO292 := Aside0.mk (Kd.R_below (kR HO292.out) hb)
   replace BK279 := Aside0.mk (blk_below (g := gb279) (o := .cells #[.int .i64 t271, .bool t272, .int .i64 t273, .string t274, .slice Ao15 t275.length co15] 26 (0, 0)) (bk BK279.out) hb)
   replace BK294 := Aside0.mk (blk_below (g := gb294) (o := .cells #[.int .i64 t286, .bool t287, .int .i64 t288, .string t289, .slice Ao24 t290.length co24] 32 (0, 0)) (bk BK294.out) hb)
   replace HB := Aside0.mk (below_step (bws HB.out) hb)
   (try clear hb)
   (try clear hb2)
   (try clear hk)
   (try clear hi)
   refine hK.out _ _ ⟨(blk_cell BK279.out 0).trans rfl, (blk_cell BK279.out 1).trans rfl, (blk_cell BK279.out 2).trans rfl, (blk_cell BK279.out 3).trans rfl, (blk_cell BK279.out 4).trans rfl, (blk_cell BK294.out 0).trans rfl, (blk_cell BK294.out 1).trans rfl, (blk_cell BK294.out 2).trans rfl, (blk_cell BK294.out 3).trans rfl, (blk_cell BK294.out 4).trans rfl⟩ (fun hHeld => ?_)
   clear hK K
   refine norm_ (a' := ?_) ?_ ?_
   rotate_left
   ·
    show Act.put _ (some 23) _ = _
    simp only [Act.put, List.setIfInBounds_toArray, List.set_cons_zero, List.set_cons_succ, i64_w, i32_w]
    rfl
   refine pu 1 (some 24) HT_.out ?_
   refine tk 2 (some 25) HT_.out HW_.out hHeld ?_
   refine tk 4 (some 27) HT_.out HW_.out hHeld ?_
   refine one_ (i := 3) (N := some 26) #[true, true, true, true, true, false, false, false, false, false, false, false, false] rfl rfl (one_of HT_.out (by kernel_rfl)) (by decide) (fun K hK => ?_)
   refine goes_ Tryd.func15 (by kernel_rfl) rfl #[.agg #[.int .i64 t271, .bool t272, .int .i64 t273, .string t274, .slice Ao15 t275.length co15]] (by rfl) rfl rfl gl ?_
   with_reducible refine (stowagelaw13_Ref.calls k t271 t272 t273 t274 _ _ t275 t296 t297 t298 t299 t300 _ ?side1 ?side2 A9.out).mono ?_
   (case side1 => repeat (first | exact (Kd.R_reads' HO277.out).2.2 | (with_reducible refine Kd.C_alloc ?_ _) | (with_reducible refine Kd.C_drewN ?_ _) | (with_reducible refine Kd.C_drew ?_)))
   (case side2 => exact (Kd.R_reads' HO277.out).2.1)
   rintro e w28 ⟨v301, rfl, ho0, hb⟩
   refine ⟨_, rfl, ?_⟩
   have n0_ := Aside0.mk (Kd.R_below (kR HO277.out) hb)
   have n1_ := Aside0.mk (Kd.S_elder' (kS HO282.out) (Kd.R_base ho0) hb)
   have n2_ := Aside0.mk (Kd.R_below (kR HO285.out) hb)
   have n3_ := Aside0.mk (Kd.R_elder' (kR HO292.out) (Kd.R_base ho0) hb)
   have n4_ := Aside0.mk (Kd.R_lower (Kd.R_new' ho0 (Kd.R_lt (kR HO292.out))) (below_size (bws HB.out)))
   have n5_ := Aside0.mk (blk_below (g := gb279) (o := .cells #[.int .i64 t271, .bool t272, .int .i64 t273, .string t274, .slice Ao15 t275.length co15] 26 (0, 0)) (bk BK279.out) hb)
   have n6_ := Aside0.mk (blk_below (g := gb294) (o := .cells #[.int .i64 t286, .bool t287, .int .i64 t288, .string t289, .slice Ao24 t290.length co24] 32 (0, 0)) (bk BK294.out) hb)
   have n7_ := Aside0.mk (below_step (bws HB.out) hb)
   clear HO277
   clear HO282
   clear HO285
   clear HO292
   clear BK279
   clear BK294
   clear HB
   have HO277 := n0_
   have HO282 := n1_
   have HO285 := n2_
   have HO292 := n3_
   have HO302 := n4_
   have BK279 := n5_
   have BK294 := n6_
   have HB := n7_
   clear n0_ n1_ n2_ n3_ n4_ n5_ n6_ n7_
   (try clear hb)
   (try clear hb2)
   (try clear hk)
   (try clear hi)
   (try clear ho0)
   obtain ⟨Ao29, co29, eo29⟩ := Kd.R_slice HO302.out
   (first | subst eo29 | (injection eo29 with f1_ f2_ f3_; have f4_ := f1_.symm; have f5_ := f3_.symm; clear f1_ f2_ f3_; subst f4_; subst f5_))
   refine hK.out _ _ ⟨(blk_cell BK279.out 0).trans rfl, (blk_cell BK279.out 1).trans rfl, (blk_cell BK279.out 2).trans rfl, (blk_cell BK279.out 3).trans rfl, (blk_cell BK279.out 4).trans rfl, (blk_cell BK294.out 0).trans rfl, (blk_cell BK294.out 1).trans rfl, (blk_cell BK294.out 2).trans rfl, (blk_cell BK294.out 3).trans rfl, (blk_cell BK294.out 4).trans rfl⟩ (fun hHeld => ?_)
   clear hK K
   refine norm_ (a' := ?_) ?_ ?_
   rotate_left
   ·
    show Act.put _ (some 26) _ = _
    simp only [Act.put, List.setIfInBounds_toArray, List.set_cons_zero, List.set_cons_succ, i64_w, i32_w]
    rfl
   refine one_ (i := 5) (N := some 28) #[true, true, true, true, true, true, false, false, false, false, false, false, false] rfl rfl (one_of HT_.out (by kernel_rfl)) (by decide) (fun K hK => ?_)
   refine goes_ Tryd.func14 (by kernel_rfl) rfl #[.agg #[.int .i64 t296, .bool t297, .int .i64 t298, .string t299, .slice Ao29 t300.length co29], .agg #[.int .i64 t286, .bool t287, .int .i64 t288, .string t289, .slice Ao24 t290.length co24]] (by rfl) rfl rfl gl ?_
   with_reducible refine (stowageref13_Same.calls k t296 t297 t298 t299 _ _ t300 t286 t287 t288 t289 _ _ t290 true _ ?side1 ?side2 ?side3 ?side4 A10.out).mono ?_
   (case side1 => repeat (first | exact (Kd.R_reads' HO302.out).2.2 | (with_reducible refine Kd.C_alloc ?_ _) | (with_reducible refine Kd.C_drewN ?_ _) | (with_reducible refine Kd.C_drew ?_)))
   (case side2 => exact (Kd.R_reads' HO302.out).2.1)
   (case side3 => repeat (first | exact (Kd.R_reads' HO292.out).2.2 | (with_reducible refine Kd.C_alloc ?_ _) | (with_reducible refine Kd.C_drewN ?_ _) | (with_reducible refine Kd.C_drew ?_)))
   (case side4 => exact (Kd.R_reads' HO292.out).2.1)
   rintro e w30 ⟨rfl, hb⟩
   refine ⟨_, rfl, ?_⟩
   replace HO277 := Aside0.mk (Kd.R_below (kR HO277.out) hb)
   replace HO282 := Aside0.mk (Kd.S_below (kS HO282.out) hb)
   replace HO285 := Aside0.mk (Kd.R_below (kR HO285.out) hb)
   replace HO292 := Aside0.mk (Kd.R_below (kR HO292.out) hb)
   replace HO302 := Aside0.mk (Kd.R_below (kR HO302.out) hb)
   replace BK279 := Aside0.mk (blk_below (g := gb279) (o := .cells #[.int .i64 t271, .bool t272, .int .i64 t273, .string t274, .slice Ao15 t275.length co15] 26 (0, 0)) (bk BK279.out) hb)
   replace BK294 := Aside0.mk (blk_below (g := gb294) (o := .cells #[.int .i64 t286, .bool t287, .int .i64 t288, .string t289, .slice Ao24 t290.length co24] 32 (0, 0)) (bk BK294.out) hb)
   replace HB := Aside0.mk (below_step (bws HB.out) hb)
   (try clear hb)
   (try clear hb2)
   (try clear hk)
   (try clear hi)
   refine hK.out _ _ ⟨(blk_cell BK279.out 0).trans rfl, (blk_cell BK279.out 1).trans rfl, (blk_cell BK279.out 2).trans rfl, (blk_cell BK279.out 3).trans rfl, (blk_cell BK279.out 4).trans rfl, (blk_cell BK294.out 0).trans rfl, (blk_cell BK294.out 1).trans rfl, (blk_cell BK294.out 2).trans rfl, (blk_cell BK294.out 3).trans rfl, (blk_cell BK294.out 4).trans rfl⟩ (fun hHeld => ?_)
   clear hK K
   refine norm_ (a' := ?_) ?_ ?_
   rotate_left
   ·
    show Act.put _ (some 28) _ = _
    simp only [Act.put, List.setIfInBounds_toArray, List.set_cons_zero, List.set_cons_succ, i64_w, i32_w]
    rfl
   refine pu 6 (some 29) HT_.out ?_
   refine pu 7 (some 30) HT_.out ?_
   refine pu 8 (some 31) HT_.out ?_
   refine pu 9 (some 32) HT_.out ?_
   refine pu 10 (some 33) HT_.out ?_
   refine pu 11 (some 34) HT_.out ?_
   refine pu 12 (some 4) HT_.out ?_
   refine done_ (done_of HT_.out (by kernel_rfl)) ?_
   try go_wp2
   go_ret
   exact ⟨by first | rfl | (simp [errW_none, errW_some] <;> rfl) | (simp [*, errW_none, errW_some] <;> rfl), by repeat (first | (with_reducible first | exact HB.out | apply below_alloc | apply pw_below_drewN | apply below_drew1 | refine below_set ?_ GE279.out | refine below_set ?_ GE294.out) | exact HB.out)⟩
  ·
   replace c11 := Bool.eq_false_iff.mpr c11
   subst c11
   have H1 : (some false) = some r := by rw [if_neg (show ¬ (false = true) by decide)] at H; exact H
   clear H
   have H := H1
   clear H1
   obtain rfl := Option.some.inj H
   go_enter Tryd.func3, Tryd.ntmps3
   try go_wp2_with (first | ((with_reducible refine gate_callee (f := 9) rfl ?_); refine goesL_ (some 12) rfl rfl Tryd.func9 (by kernel_rfl) rfl #[.slice A0 l0.length c0, .slice A1 l1.length c1] rfl gl ?_; (with_reducible refine (parts_Join.calls k _ _ l0 _ _ l1 t271 t272 t273 t274 t275 t278 _ ?side1 ?side2 ?side3 ?side4 A3.out ?sideG).mono ?_); (case sideG => first | exact HG.out | exact gg_below HG.out (bws HB.out)); (case side1 => exact kC HR0.out); (case side2 => exact HC0.out); (case side3 => exact kC HR1.out); (case side4 => exact HC1.out); rintro e w31 ⟨v276, rfl, ho0, hb⟩; refine ⟨_, rfl, ?_⟩; have HO277 := Aside0.mk (Kd.R_lower ho0 (below_size (bw HB.out))); replace HB := Aside0.mk (below_step (bw HB.out) hb); (try clear hb); (try clear hb2); (try clear hk); (try clear hi); (try clear ho0)) | ((with_reducible refine gate_dst (N := 5) rfl ?_); refine box_event ?hg (N := 5) ?hd (cs := #[.int .i64 0, .bool false, .int .i64 0, .string (⟨#[]⟩ : ByteArray), .slice none 0 0]) (t := 26) ?hr ?_; (case hd => rfl); (case hg => rfl); (case hr => first | (go_simp; done) | (go_simp; rfl)); intro gb279 hg w32 hbox hb; have n0_ := Aside0.mk (Kd.R_below (kR HO277.out) hb); have n1_ := Aside0.mk (below_step (bw HB.out) hb); have n2_ := Aside0.mk (hbox); have n3_ := Aside0.mk ((by rw [hg]; exact (below_size (bw HB.out)) : w.heap.size ≤ gb279)); have n4_ := Aside0.mk ((by rw [hg]; exact (below_size (bw HB.out)) : w.heap.size ≤ gb279)); clear HO277; clear HB; have HO277 := n0_; have HB := n1_; have BK279 := n2_; have GW279 := n3_; have GE279 := n4_; clear n0_ n1_ n2_ n3_ n4_; clear hb hbox hg; obtain ⟨hcz33_0, hcz33_1, hcz33_2, hcz33_3, hcz33_4, hfz33_0, hfz33_1, hfz33_2, hfz33_3, hfz33_4⟩ := cz5 BK279.out; obtain ⟨Ao34, co34, eo34⟩ := Kd.R_slice HO277.out; subst eo34) | ((with_reducible refine gate_callee (f := 11) rfl ?_); refine goesL_ (some 17) rfl rfl Tryd.func11 (by kernel_rfl) rfl #[.slice A0 l0.length c0] rfl gl ?_; (with_reducible refine (stowagelaw14_Refs.calls k _ _ l0 t280 _ ?side1 ?side2 A4.out).mono ?_); (case side1 => exact Kd.C_below HR0.out (bws HB.out)); (case side2 => exact HC0.out); rintro e w35 ⟨v281, rfl, ho0, hb⟩; refine ⟨_, rfl, ?_⟩; replace HO277 := Aside0.mk (Kd.R_below (by (with_reducible repeat (first | apply Kd.R_alloc | apply Kd.R_drewN | apply Kd.R_drew)); exact (Kd.R_mono (Kd.R_far (p := ⟨gb279, 4, none⟩) (Kd.R_far (p := ⟨gb279, 3, none⟩) (Kd.R_far (p := ⟨gb279, 2, none⟩) (Kd.R_far (p := ⟨gb279, 1, none⟩) (Kd.R_far (p := ⟨gb279, 0, none⟩) (Kd.R_types HO277.out BK279.out (by decide)) (fun _ hk => hk.2) (.int .i64 t271)) (fun _ hk => hk.2) (.bool t272)) (fun _ hk => hk.2) (.int .i64 t273)) (fun _ hk => hk.2) (.string t274)) (fun _ hk => hk.2) (.slice Ao34 t275.length co34)) (fun _ h_ => h_.1))) hb); have HO282 := Aside0.mk (Kd.S_lower ho0 (below_size (bws HB.out))); replace BK279 := Aside0.mk (blk_below (g := gb279) (o := .cells #[.int .i64 t271, .bool t272, .int .i64 t273, .string t274, .slice Ao34 t275.length co34] 26 (0, 0)) (bkp BK279.out) hb); replace HB := Aside0.mk (below_step (bws HB.out) hb); (try clear hb); (try clear hb2); (try clear hk); (try clear hi); (try clear ho0)) | ((with_reducible refine gate_callee (f := 12) rfl ?_); refine goesL_ (some 19) rfl rfl Tryd.func12 (by kernel_rfl) rfl #[.slice A1 l1.length c1] rfl gl ?_; (with_reducible refine (stowagelaw14_picked.calls k _ _ l1 t283 _ ?side1 ?side2 A5.out).mono ?_); (case side1 => exact kC (Kd.C_below HR1.out HB.out)); (case side2 => exact HC1.out); rintro e w36 ⟨v284, rfl, ho0, hb⟩; refine ⟨_, rfl, ?_⟩; replace HO277 := Aside0.mk (Kd.R_below (kR HO277.out) hb); replace HO282 := Aside0.mk (Kd.S_below (kS HO282.out) hb); have HO285 := Aside0.mk (Kd.R_lower ho0 (below_size (bws HB.out))); replace BK279 := Aside0.mk (blk_below (g := gb279) (o := .cells #[.int .i64 t271, .bool t272, .int .i64 t273, .string t274, .slice Ao34 t275.length co34] 26 (0, 0)) (bk BK279.out) hb); replace HB := Aside0.mk (below_step (bws HB.out) hb); (try clear hb); (try clear hb2); (try clear hk); (try clear hi); (try clear ho0); obtain ⟨Ao37, co37, eo37⟩ := Kd.S_slice HO282.out; subst eo37; obtain ⟨Ao38, co38, eo38⟩ := Kd.R_slice HO285.out; subst eo38) | ((with_reducible refine gate_callee (f := 10) rfl ?_); refine goesL_ (some 20) rfl rfl Tryd.func10 (by kernel_rfl) rfl #[.slice Ao37 t280.length co37, .slice Ao38 t283.length co38] rfl gl ?_; (with_reducible refine (stowageref14_Join.calls k _ _ t280 _ _ t283 t286 t287 t288 t289 t290 t293 _ ?side1 ?side2 ?side3 ?side4 A6.out).mono ?_); (case side1 => repeat (first | exact (Kd.S_reads' HO282.out).2.2 | (with_reducible refine Kd.C_alloc ?_ _) | (with_reducible refine Kd.C_drewN ?_ _) | (with_reducible refine Kd.C_drew ?_))); (case side2 => exact (Kd.S_reads' HO282.out).2.1); (case side3 => repeat (first | exact (Kd.R_reads' HO285.out).2.2 | (with_reducible refine Kd.C_alloc ?_ _) | (with_reducible refine Kd.C_drewN ?_ _) | (with_reducible refine Kd.C_drew ?_))); (case side4 => exact (Kd.R_reads' HO285.out).2.1); rintro e w39 ⟨v291, rfl, ho0, hb⟩; refine ⟨_, rfl, ?_⟩; replace HO277 := Aside0.mk (Kd.R_below (kR HO277.out) hb); replace HO282 := Aside0.mk (Kd.S_elder' (kS HO282.out) (Kd.R_base ho0) hb); replace HO285 := Aside0.mk (Kd.R_below (kR HO285.out) hb); have HO292 := Aside0.mk (Kd.R_lower ho0 (below_size (bws HB.out))); replace BK279 := Aside0.mk (blk_below (g := gb279) (o := .cells #[.int .i64 t271, .bool t272, .int .i64 t273, .string t274, .slice Ao34 t275.length co34] 26 (0, 0)) (bk BK279.out) hb); replace HB := Aside0.mk (below_step (bws HB.out) hb); (try clear hb); (try clear hb2); (try clear hk); (try clear hi); (try clear ho0)) | ((with_reducible refine gate_dst (N := 7) rfl ?_); refine box_event ?hg (N := 7) ?hd (cs := #[.int .i64 0, .bool false, .int .i64 0, .string (⟨#[]⟩ : ByteArray), .slice none 0 0]) (t := 32) ?hr ?_; (case hd => rfl); (case hg => rfl); (case hr => first | (go_simp; done) | (go_simp; rfl)); intro gb294 hg w40 hbox hb; have n0_ := Aside0.mk (Kd.R_below (kR HO277.out) hb); have n1_ := Aside0.mk (Kd.S_below (kS HO282.out) hb); have n2_ := Aside0.mk (Kd.R_below (kR HO285.out) hb); have n3_ := Aside0.mk (Kd.R_below (kR HO292.out) hb); have n4_ := Aside0.mk (blk_below (g := gb279) (o := .cells #[.int .i64 t271, .bool t272, .int .i64 t273, .string t274, .slice Ao34 t275.length co34] 26 (0, 0)) (bk BK279.out) hb); have n5_ := Aside0.mk (below_step (bws HB.out) hb); have n6_ := Aside0.mk (hbox); have n7_ := Aside0.mk ((by rw [hg]; exact (below_size (bws HB.out)) : w.heap.size ≤ gb294)); have n8_ := Aside0.mk ((by rw [hg]; exact (below_size (bws HB.out)) : w.heap.size ≤ gb294)); have n9_ := Aside0.mk ((by rw [hg]; exact Nat.ne_of_lt (blk_lt (g := gb279) (o := .cells #[.int .i64 t271, .bool t272, .int .i64 t273, .string t274, .slice Ao34 t275.length co34] 26 (0, 0)) (bk BK279.out)) : gb279 ≠ gb294)); have n10_ := Aside0.mk ((by rw [hg]; exact Nat.ne_of_gt (blk_lt (g := gb279) (o := .cells #[.int .i64 t271, .bool t272, .int .i64 t273, .string t274, .slice Ao34 t275.length co34] 26 (0, 0)) (bk BK279.out)) : gb294 ≠ gb279)); clear HO277; clear HO282; clear HO285; clear HO292; clear BK279; clear HB; have HO277 := n0_; have HO282 := n1_; have HO285 := n2_; have HO292 := n3_; have BK279 := n4_; have HB := n5_; have BK294 := n6_; have GW294 := n7_; have GE294 := n8_; have NB279_294 := n9_; have NB294_279 := n10_; clear n0_ n1_ n2_ n3_ n4_ n5_ n6_ n7_ n8_ n9_ n10_; clear hb hbox hg; have hnb41 := NB294_279.out; have hnc41 := NB279_294.out; obtain ⟨hcz42_0, hcz42_1, hcz42_2, hcz42_3, hcz42_4, hfz42_0, hfz42_1, hfz42_2, hfz42_3, hfz42_4⟩ := cz5 BK294.out; obtain ⟨Ao43, co43, eo43⟩ := Kd.R_slice HO292.out; subst eo43))
   have n0_ : Aside0 (Kd.R k63 63 (((((w40.setCell ⟨gb294, 0, none⟩ (.int .i64 t286)).setCell ⟨gb294, 1, none⟩ (.bool t287)).setCell ⟨gb294, 2, none⟩ (.int .i64 t288)).setCell ⟨gb294, 3, none⟩ (.string t289)).setCell ⟨gb294, 4, none⟩ (.slice Ao43 t290.length co43)) w.heap.size (fun _ => True) (.slice Ao34 t275.length co34) t275) := ⟨by (with_reducible repeat (first | apply Kd.R_alloc | apply Kd.R_drewN | apply Kd.R_drew)); exact Kd.R_mono (Kd.R_far (p := ⟨gb294, 4, none⟩) (Kd.R_far (p := ⟨gb294, 3, none⟩) (Kd.R_far (p := ⟨gb294, 2, none⟩) (Kd.R_far (p := ⟨gb294, 1, none⟩) (Kd.R_far (p := ⟨gb294, 0, none⟩) (Kd.R_types HO277.out BK294.out (by decide)) (fun _ hk => hk.2) (.int .i64 t286)) (fun _ hk => hk.2) (.bool t287)) (fun _ hk => hk.2) (.int .i64 t288)) (fun _ hk => hk.2) (.string t289)) (fun _ hk => hk.2) (.slice Ao43 t290.length co43)) (fun _ hk => trivial)⟩
   have n1_ : Aside0 (Kd.S k52 52 (((((w40.setCell ⟨gb294, 0, none⟩ (.int .i64 t286)).setCell ⟨gb294, 1, none⟩ (.bool t287)).setCell ⟨gb294, 2, none⟩ (.int .i64 t288)).setCell ⟨gb294, 3, none⟩ (.string t289)).setCell ⟨gb294, 4, none⟩ (.slice Ao43 t290.length co43)) w.heap.size (fun k_ => some k_ ≠ (.slice Ao43 t290.length co43 : Value).ownBlock) (.slice Ao37 t280.length co37) t280) := ⟨by (with_reducible repeat (first | apply Kd.S_alloc | apply Kd.S_drewN | apply Kd.S_drew)); exact Kd.S_mono (Kd.S_far (p := ⟨gb294, 4, none⟩) (Kd.S_far (p := ⟨gb294, 3, none⟩) (Kd.S_far (p := ⟨gb294, 2, none⟩) (Kd.S_far (p := ⟨gb294, 1, none⟩) (Kd.S_far (p := ⟨gb294, 0, none⟩) (Kd.S_types HO282.out BK294.out (by decide)) (fun _ hk => hk.2) (.int .i64 t286)) (fun _ hk => hk.2) (.bool t287)) (fun _ hk => hk.2) (.int .i64 t288)) (fun _ hk => hk.2) (.string t289)) (fun _ hk => hk.2) (.slice Ao43 t290.length co43)) (fun _ hk => hk.1.2)⟩
   have n2_ : Aside0 (Kd.R k79 79 (((((w40.setCell ⟨gb294, 0, none⟩ (.int .i64 t286)).setCell ⟨gb294, 1, none⟩ (.bool t287)).setCell ⟨gb294, 2, none⟩ (.int .i64 t288)).setCell ⟨gb294, 3, none⟩ (.string t289)).setCell ⟨gb294, 4, none⟩ (.slice Ao43 t290.length co43)) w.heap.size (fun _ => True) (.slice Ao38 t283.length co38) t283) := ⟨by (with_reducible repeat (first | apply Kd.R_alloc | apply Kd.R_drewN | apply Kd.R_drew)); exact Kd.R_mono (Kd.R_far (p := ⟨gb294, 4, none⟩) (Kd.R_far (p := ⟨gb294, 3, none⟩) (Kd.R_far (p := ⟨gb294, 2, none⟩) (Kd.R_far (p := ⟨gb294, 1, none⟩) (Kd.R_far (p := ⟨gb294, 0, none⟩) (Kd.R_types HO285.out BK294.out (by decide)) (fun _ hk => hk.2) (.int .i64 t286)) (fun _ hk => hk.2) (.bool t287)) (fun _ hk => hk.2) (.int .i64 t288)) (fun _ hk => hk.2) (.string t289)) (fun _ hk => hk.2) (.slice Ao43 t290.length co43)) (fun _ hk => trivial)⟩
   have n3_ : Aside0 (Kd.R k85 85 (((((w40.setCell ⟨gb294, 0, none⟩ (.int .i64 t286)).setCell ⟨gb294, 1, none⟩ (.bool t287)).setCell ⟨gb294, 2, none⟩ (.int .i64 t288)).setCell ⟨gb294, 3, none⟩ (.string t289)).setCell ⟨gb294, 4, none⟩ (.slice Ao43 t290.length co43)) w.heap.size (fun _ => True) (.slice Ao43 t290.length co43) t290) := ⟨by (with_reducible repeat (first | apply Kd.R_alloc | apply Kd.R_drewN | apply Kd.R_drew)); exact Kd.R_mono (Kd.R_far (p := ⟨gb294, 4, none⟩) (Kd.R_far (p := ⟨gb294, 3, none⟩) (Kd.R_far (p := ⟨gb294, 2, none⟩) (Kd.R_far (p := ⟨gb294, 1, none⟩) (Kd.R_far (p := ⟨gb294, 0, none⟩) (Kd.R_types HO292.out BK294.out (by decide)) (fun _ hk => hk.2) (.int .i64 t286)) (fun _ hk => hk.2) (.bool t287)) (fun _ hk => hk.2) (.int .i64 t288)) (fun _ hk => hk.2) (.string t289)) (fun _ hk => hk.2) (.slice Ao43 t290.length co43)) (fun _ hk => trivial)⟩
   have n4_ : Aside0 ((((((w40.setCell ⟨gb294, 0, none⟩ (.int .i64 t286)).setCell ⟨gb294, 1, none⟩ (.bool t287)).setCell ⟨gb294, 2, none⟩ (.int .i64 t288)).setCell ⟨gb294, 3, none⟩ (.string t289)).setCell ⟨gb294, 4, none⟩ (.slice Ao43 t290.length co43)).heap[gb279]? = some (.cells #[.int .i64 t271, .bool t272, .int .i64 t273, .string t274, .slice Ao34 t275.length co34] 26 (0, 0))) := ⟨bkf BK279.out⟩
   have n5_ : Aside0 ((((((w40.setCell ⟨gb294, 0, none⟩ (.int .i64 t286)).setCell ⟨gb294, 1, none⟩ (.bool t287)).setCell ⟨gb294, 2, none⟩ (.int .i64 t288)).setCell ⟨gb294, 3, none⟩ (.string t289)).setCell ⟨gb294, 4, none⟩ (.slice Ao43 t290.length co43)).heap[gb294]? = some (.cells #[.int .i64 t286, .bool t287, .int .i64 t288, .string t289, .slice Ao43 t290.length co43] 32 (0, 0))) := ⟨bkp BK294.out⟩
   have n6_ : Aside0 (Below w.heap.size w (((((w40.setCell ⟨gb294, 0, none⟩ (.int .i64 t286)).setCell ⟨gb294, 1, none⟩ (.bool t287)).setCell ⟨gb294, 2, none⟩ (.int .i64 t288)).setCell ⟨gb294, 3, none⟩ (.string t289)).setCell ⟨gb294, 4, none⟩ (.slice Ao43 t290.length co43))) := ⟨bws HB.out⟩
   (try clear HO277)
   (try clear HO282)
   (try clear HO285)
   (try clear HO292)
   (try clear BK279)
   (try clear BK294)
   (try clear HB)
   generalize (((((w40.setCell ⟨gb294, 0, none⟩ (.int .i64 t286)).setCell ⟨gb294, 1, none⟩ (.bool t287)).setCell ⟨gb294, 2, none⟩ (.int .i64 t288)).setCell ⟨gb294, 3, none⟩ (.string t289)).setCell ⟨gb294, 4, none⟩ (.slice Ao43 t290.length co43)) = w44 at n0_ n1_ n2_ n3_ n4_ n5_ n6_ ⊢
   have HO277 := n0_
   have HO282 := n1_
   have HO285 := n2_
   have HO292 := n3_
   have BK279 := n4_
   have BK294 := n5_
   have HB := n6_
   clear n0_ n1_ n2_ n3_ n4_ n5_ n6_
   replace HO277 := Aside0.mk (Kd.R_drew HO277.out)
   replace HO282 := Aside0.mk (Kd.S_drew HO282.out)
   replace HO285 := Aside0.mk (Kd.R_drew HO285.out)
   replace HO292 := Aside0.mk (Kd.R_drew HO292.out)
   replace BK279 := Aside0.mk (blk_drew BK279.out)
   replace BK294 := Aside0.mk (blk_drew BK294.out)
   replace HB := Aside0.mk (below_drew1 HB.out)
   refine start_ (n := 13) (S := fun w' => w'.cell? ⟨gb279, 0, none⟩ = some (.int .i64 t271) ∧ w'.cell? ⟨gb279, 1, none⟩ = some (.bool t272) ∧ w'.cell? ⟨gb279, 2, none⟩ = some (.int .i64 t273) ∧ w'.cell? ⟨gb279, 3, none⟩ = some (.string t274) ∧ w'.cell? ⟨gb279, 4, none⟩ = some (.slice Ao34 t275.length co34) ∧ w'.cell? ⟨gb294, 0, none⟩ = some (.int .i64 t286) ∧ w'.cell? ⟨gb294, 1, none⟩ = some (.bool t287) ∧ w'.cell? ⟨gb294, 2, none⟩ = some (.int .i64 t288) ∧ w'.cell? ⟨gb294, 3, none⟩ = some (.string t289) ∧ w'.cell? ⟨gb294, 4, none⟩ = some (.slice Ao43 t290.length co43)) (ds := []) #[false, false, false, false, false, false, false, false, false, false, false, false, false] (by kernel_rfl) rfl rfl ⟨(blk_cell BK279.out 0).trans rfl, (blk_cell BK279.out 1).trans rfl, (blk_cell BK279.out 2).trans rfl, (blk_cell BK279.out 3).trans rfl, (blk_cell BK279.out 4).trans rfl, (blk_cell BK294.out 0).trans rfl, (blk_cell BK294.out 1).trans rfl, (blk_cell BK294.out 2).trans rfl, (blk_cell BK294.out 3).trans rfl, (blk_cell BK294.out 4).trans rfl⟩ (fun hHeld => ?_); refine with_tabW stowagelaw14_PartsJoins.tab3 stowagelaw14_PartsJoins.bits3 (fun HT_ HW_ => ?_)
   generalize w44.drew = w45 at HO277 HO282 HO285 HO292 BK279 BK294 HB hHeld ⊢
   refine one_ (i := 0) (N := some 23) #[true, false, false, false, false, false, false, false, false, false, false, false, false] rfl rfl (one_of HT_.out (by kernel_rfl)) (by decide) (fun K hK => ?_)
   refine goes_ Tryd.func13 (by kernel_rfl) rfl #[] (by rfl) rfl rfl gl ?_
   with_reducible refine (stowagelaw14_awake.calls k  true _ A7.out (gg_below HG.out HB.out)).mono ?_
   rintro e w46 ⟨rfl, hb⟩
   refine ⟨_, rfl, ?_⟩
   replace HO277 := Aside0.mk (Kd.R_below (kR HO277.out) hb)
   replace HO282 := Aside0.mk (Kd.S_below (kS HO282.out) hb)
   replace HO285 := Aside0.mk (Kd.R_below (kR HO285.out) hb)
   replace HO292 := Aside0.mk (Kd.R_below (kR HO292.out) hb)
   replace BK279 := Aside0.mk (blk_below (g := gb279) (o := .cells #[.int .i64 t271, .bool t272, .int .i64 t273, .string t274, .slice Ao34 t275.length co34] 26 (0, 0)) (bk BK279.out) hb)
   replace BK294 := Aside0.mk (blk_below (g := gb294) (o := .cells #[.int .i64 t286, .bool t287, .int .i64 t288, .string t289, .slice Ao43 t290.length co43] 32 (0, 0)) (bk BK294.out) hb)
   replace HB := Aside0.mk (below_step (bws HB.out) hb)
   (try clear hb)
   (try clear hb2)
   (try clear hk)
   (try clear hi)
   refine hK.out _ _ ⟨(blk_cell BK279.out 0).trans rfl, (blk_cell BK279.out 1).trans rfl, (blk_cell BK279.out 2).trans rfl, (blk_cell BK279.out 3).trans rfl, (blk_cell BK279.out 4).trans rfl, (blk_cell BK294.out 0).trans rfl, (blk_cell BK294.out 1).trans rfl, (blk_cell BK294.out 2).trans rfl, (blk_cell BK294.out 3).trans rfl, (blk_cell BK294.out 4).trans rfl⟩ (fun hHeld => ?_)
   clear hK K
   refine norm_ (a' := ?_) ?_ ?_
   rotate_left
   ·
    show Act.put _ (some 23) _ = _
    simp only [Act.put, List.setIfInBounds_toArray, List.set_cons_zero, List.set_cons_succ, i64_w, i32_w]
    rfl
   refine pu 1 (some 24) HT_.out ?_
   refine tk 2 (some 25) HT_.out HW_.out hHeld ?_
   refine tk 4 (some 27) HT_.out HW_.out hHeld ?_
   refine one_ (i := 3) (N := some 26) #[true, true, true, true, true, false, false, false, false, false, false, false, false] rfl rfl (one_of HT_.out (by kernel_rfl)) (by decide) (fun K hK => ?_)
   refine goes_ Tryd.func15 (by kernel_rfl) rfl #[.agg #[.int .i64 t271, .bool t272, .int .i64 t273, .string t274, .slice Ao34 t275.length co34]] (by rfl) rfl rfl gl ?_
   with_reducible refine (stowagelaw13_Ref.calls k t271 t272 t273 t274 _ _ t275 t296 t297 t298 t299 t300 _ ?side1 ?side2 A9.out).mono ?_
   (case side1 => repeat (first | exact (Kd.R_reads' HO277.out).2.2 | (with_reducible refine Kd.C_alloc ?_ _) | (with_reducible refine Kd.C_drewN ?_ _) | (with_reducible refine Kd.C_drew ?_)))
   (case side2 => exact (Kd.R_reads' HO277.out).2.1)
   rintro e w47 ⟨v301, rfl, ho0, hb⟩
   refine ⟨_, rfl, ?_⟩
   have n0_ := Aside0.mk (Kd.R_below (kR HO277.out) hb)
   have n1_ := Aside0.mk (Kd.S_elder' (kS HO282.out) (Kd.R_base ho0) hb)
   have n2_ := Aside0.mk (Kd.R_below (kR HO285.out) hb)
   have n3_ := Aside0.mk (Kd.R_elder' (kR HO292.out) (Kd.R_base ho0) hb)
   have n4_ := Aside0.mk (Kd.R_lower (Kd.R_new' ho0 (Kd.R_lt (kR HO292.out))) (below_size (bws HB.out)))
   have n5_ := Aside0.mk (blk_below (g := gb279) (o := .cells #[.int .i64 t271, .bool t272, .int .i64 t273, .string t274, .slice Ao34 t275.length co34] 26 (0, 0)) (bk BK279.out) hb)
   have n6_ := Aside0.mk (blk_below (g := gb294) (o := .cells #[.int .i64 t286, .bool t287, .int .i64 t288, .string t289, .slice Ao43 t290.length co43] 32 (0, 0)) (bk BK294.out) hb)
   have n7_ := Aside0.mk (below_step (bws HB.out) hb)
   clear HO277
   clear HO282
   clear HO285
   clear HO292
   clear BK279
   clear BK294
   clear HB
   have HO277 := n0_
   have HO282 := n1_
   have HO285 := n2_
   have HO292 := n3_
   have HO302 := n4_
   have BK279 := n5_
   have BK294 := n6_
   have HB := n7_
   clear n0_ n1_ n2_ n3_ n4_ n5_ n6_ n7_
   (try clear hb)
   (try clear hb2)
   (try clear hk)
   (try clear hi)
   (try clear ho0)
   obtain ⟨Ao48, co48, eo48⟩ := Kd.R_slice HO302.out
   (first | subst eo48 | (injection eo48 with f1_ f2_ f3_; have f4_ := f1_.symm; have f5_ := f3_.symm; clear f1_ f2_ f3_; subst f4_; subst f5_))
   refine hK.out _ _ ⟨(blk_cell BK279.out 0).trans rfl, (blk_cell BK279.out 1).trans rfl, (blk_cell BK279.out 2).trans rfl, (blk_cell BK279.out 3).trans rfl, (blk_cell BK279.out 4).trans rfl, (blk_cell BK294.out 0).trans rfl, (blk_cell BK294.out 1).trans rfl, (blk_cell BK294.out 2).trans rfl, (blk_cell BK294.out 3).trans rfl, (blk_cell BK294.out 4).trans rfl⟩ (fun hHeld => ?_)
   clear hK K
   refine norm_ (a' := ?_) ?_ ?_
   rotate_left
   ·
    show Act.put _ (some 26) _ = _
    simp only [Act.put, List.setIfInBounds_toArray, List.set_cons_zero, List.set_cons_succ, i64_w, i32_w]
    rfl
   refine one_ (i := 5) (N := some 28) #[true, true, true, true, true, true, false, false, false, false, false, false, false] rfl rfl (one_of HT_.out (by kernel_rfl)) (by decide) (fun K hK => ?_)
   refine goes_ Tryd.func14 (by kernel_rfl) rfl #[.agg #[.int .i64 t296, .bool t297, .int .i64 t298, .string t299, .slice Ao48 t300.length co48], .agg #[.int .i64 t286, .bool t287, .int .i64 t288, .string t289, .slice Ao43 t290.length co43]] (by rfl) rfl rfl gl ?_
   with_reducible refine (stowageref13_Same.calls k t296 t297 t298 t299 _ _ t300 t286 t287 t288 t289 _ _ t290 false _ ?side1 ?side2 ?side3 ?side4 A10.out).mono ?_
   (case side1 => repeat (first | exact (Kd.R_reads' HO302.out).2.2 | (with_reducible refine Kd.C_alloc ?_ _) | (with_reducible refine Kd.C_drewN ?_ _) | (with_reducible refine Kd.C_drew ?_)))
   (case side2 => exact (Kd.R_reads' HO302.out).2.1)
   (case side3 => repeat (first | exact (Kd.R_reads' HO292.out).2.2 | (with_reducible refine Kd.C_alloc ?_ _) | (with_reducible refine Kd.C_drewN ?_ _) | (with_reducible refine Kd.C_drew ?_)))
   (case side4 => exact (Kd.R_reads' HO292.out).2.1)
   rintro e w49 ⟨rfl, hb⟩
   refine ⟨_, rfl, ?_⟩
   replace HO277 := Aside0.mk (Kd.R_below (kR HO277.out) hb)
   replace HO282 := Aside0.mk (Kd.S_below (kS HO282.out) hb)
   replace HO285 := Aside0.mk (Kd.R_below (kR HO285.out) hb)
   replace HO292 := Aside0.mk (Kd.R_below (kR HO292.out) hb)
   replace HO302 := Aside0.mk (Kd.R_below (kR HO302.out) hb)
   replace BK279 := Aside0.mk (blk_below (g := gb279) (o := .cells #[.int .i64 t271, .bool t272, .int .i64 t273, .string t274, .slice Ao34 t275.length co34] 26 (0, 0)) (bk BK279.out) hb)
   replace BK294 := Aside0.mk (blk_below (g := gb294) (o := .cells #[.int .i64 t286, .bool t287, .int .i64 t288, .string t289, .slice Ao43 t290.length co43] 32 (0, 0)) (bk BK294.out) hb)
   replace HB := Aside0.mk (below_step (bws HB.out) hb)
   (try clear hb)
   (try clear hb2)
   (try clear hk)
   (try clear hi)
   refine hK.out _ _ ⟨(blk_cell BK279.out 0).trans rfl, (blk_cell BK279.out 1).trans rfl, (blk_cell BK279.out 2).trans rfl, (blk_cell BK279.out 3).trans rfl, (blk_cell BK279.out 4).trans rfl, (blk_cell BK294.out 0).trans rfl, (blk_cell BK294.out 1).trans rfl, (blk_cell BK294.out 2).trans rfl, (blk_cell BK294.out 3).trans rfl, (blk_cell BK294.out 4).trans rfl⟩ (fun hHeld => ?_)
   clear hK K
   refine norm_ (a' := ?_) ?_ ?_
   rotate_left
   ·
    show Act.put _ (some 28) _ = _
    simp only [Act.put, List.setIfInBounds_toArray, List.set_cons_zero, List.set_cons_succ, i64_w, i32_w]
    rfl
   refine pu 6 (some 29) HT_.out ?_
   refine pu 7 (some 30) HT_.out ?_
   refine un 8 (some 31) HT_.out ?_
   refine un 9 (some 32) HT_.out ?_
   refine un 10 (some 33) HT_.out ?_
   refine pu 11 (some 34) HT_.out ?_
   refine pu 12 (some 4) HT_.out ?_
   refine done_ (done_of HT_.out (by kernel_rfl)) ?_
   try go_wp2
   go_ret
   exact ⟨by first | rfl | (simp [errW_none, errW_some] <;> rfl) | (simp [*, errW_none, errW_some] <;> rfl), by repeat (first | (with_reducible first | exact HB.out | apply below_alloc | apply pw_below_drewN | apply below_drew1 | refine below_set ?_ GE279.out | refine below_set ?_ GE294.out) | exact HB.out)⟩
 ·
  replace c8 := Bool.eq_false_iff.mpr c8
  subst c8
  have H1 : (some false) = some r := by rw [if_neg (show ¬ (false = true) by decide)] at H; exact H
  clear H
  have H := H1
  clear H1
  obtain rfl := Option.some.inj H
  go_enter Tryd.func3, Tryd.ntmps3
  try go_wp2_with (first | ((with_reducible refine gate_callee (f := 9) rfl ?_); refine goesL_ (some 12) rfl rfl Tryd.func9 (by kernel_rfl) rfl #[.slice A0 l0.length c0, .slice A1 l1.length c1] rfl gl ?_; (with_reducible refine (parts_Join.calls k _ _ l0 _ _ l1 t271 t272 t273 t274 t275 t278 _ ?side1 ?side2 ?side3 ?side4 A3.out ?sideG).mono ?_); (case sideG => first | exact HG.out | exact gg_below HG.out (bws HB.out)); (case side1 => exact kC HR0.out); (case side2 => exact HC0.out); (case side3 => exact kC HR1.out); (case side4 => exact HC1.out); rintro e w50 ⟨v276, rfl, ho0, hb⟩; refine ⟨_, rfl, ?_⟩; have HO277 := Aside0.mk (Kd.R_lower ho0 (below_size (bw HB.out))); replace HB := Aside0.mk (below_step (bw HB.out) hb); (try clear hb); (try clear hb2); (try clear hk); (try clear hi); (try clear ho0)) | ((with_reducible refine gate_dst (N := 5) rfl ?_); refine box_event ?hg (N := 5) ?hd (cs := #[.int .i64 0, .bool false, .int .i64 0, .string (⟨#[]⟩ : ByteArray), .slice none 0 0]) (t := 26) ?hr ?_; (case hd => rfl); (case hg => rfl); (case hr => first | (go_simp; done) | (go_simp; rfl)); intro gb279 hg w51 hbox hb; have n0_ := Aside0.mk (Kd.R_below (kR HO277.out) hb); have n1_ := Aside0.mk (below_step (bw HB.out) hb); have n2_ := Aside0.mk (hbox); have n3_ := Aside0.mk ((by rw [hg]; exact (below_size (bw HB.out)) : w.heap.size ≤ gb279)); have n4_ := Aside0.mk ((by rw [hg]; exact (below_size (bw HB.out)) : w.heap.size ≤ gb279)); clear HO277; clear HB; have HO277 := n0_; have HB := n1_; have BK279 := n2_; have GW279 := n3_; have GE279 := n4_; clear n0_ n1_ n2_ n3_ n4_; clear hb hbox hg; obtain ⟨hcz52_0, hcz52_1, hcz52_2, hcz52_3, hcz52_4, hfz52_0, hfz52_1, hfz52_2, hfz52_3, hfz52_4⟩ := cz5 BK279.out; obtain ⟨Ao53, co53, eo53⟩ := Kd.R_slice HO277.out; subst eo53) | ((with_reducible refine gate_callee (f := 11) rfl ?_); refine goesL_ (some 17) rfl rfl Tryd.func11 (by kernel_rfl) rfl #[.slice A0 l0.length c0] rfl gl ?_; (with_reducible refine (stowagelaw14_Refs.calls k _ _ l0 t280 _ ?side1 ?side2 A4.out).mono ?_); (case side1 => exact Kd.C_below HR0.out (bws HB.out)); (case side2 => exact HC0.out); rintro e w54 ⟨v281, rfl, ho0, hb⟩; refine ⟨_, rfl, ?_⟩; replace HO277 := Aside0.mk (Kd.R_below (by (with_reducible repeat (first | apply Kd.R_alloc | apply Kd.R_drewN | apply Kd.R_drew)); exact (Kd.R_mono (Kd.R_far (p := ⟨gb279, 4, none⟩) (Kd.R_far (p := ⟨gb279, 3, none⟩) (Kd.R_far (p := ⟨gb279, 2, none⟩) (Kd.R_far (p := ⟨gb279, 1, none⟩) (Kd.R_far (p := ⟨gb279, 0, none⟩) (Kd.R_types HO277.out BK279.out (by decide)) (fun _ hk => hk.2) (.int .i64 t271)) (fun _ hk => hk.2) (.bool t272)) (fun _ hk => hk.2) (.int .i64 t273)) (fun _ hk => hk.2) (.string t274)) (fun _ hk => hk.2) (.slice Ao53 t275.length co53)) (fun _ h_ => h_.1))) hb); have HO282 := Aside0.mk (Kd.S_lower ho0 (below_size (bws HB.out))); replace BK279 := Aside0.mk (blk_below (g := gb279) (o := .cells #[.int .i64 t271, .bool t272, .int .i64 t273, .string t274, .slice Ao53 t275.length co53] 26 (0, 0)) (bkp BK279.out) hb); replace HB := Aside0.mk (below_step (bws HB.out) hb); (try clear hb); (try clear hb2); (try clear hk); (try clear hi); (try clear ho0)) | ((with_reducible refine gate_callee (f := 12) rfl ?_); refine goesL_ (some 19) rfl rfl Tryd.func12 (by kernel_rfl) rfl #[.slice A1 l1.length c1] rfl gl ?_; (with_reducible refine (stowagelaw14_picked.calls k _ _ l1 t283 _ ?side1 ?side2 A5.out).mono ?_); (case side1 => exact kC (Kd.C_below HR1.out HB.out)); (case side2 => exact HC1.out); rintro e w55 ⟨v284, rfl, ho0, hb⟩; refine ⟨_, rfl, ?_⟩; replace HO277 := Aside0.mk (Kd.R_below (kR HO277.out) hb); replace HO282 := Aside0.mk (Kd.S_below (kS HO282.out) hb); have HO285 := Aside0.mk (Kd.R_lower ho0 (below_size (bws HB.out))); replace BK279 := Aside0.mk (blk_below (g := gb279) (o := .cells #[.int .i64 t271, .bool t272, .int .i64 t273, .string t274, .slice Ao53 t275.length co53] 26 (0, 0)) (bk BK279.out) hb); replace HB := Aside0.mk (below_step (bws HB.out) hb); (try clear hb); (try clear hb2); (try clear hk); (try clear hi); (try clear ho0); obtain ⟨Ao56, co56, eo56⟩ := Kd.S_slice HO282.out; subst eo56; obtain ⟨Ao57, co57, eo57⟩ := Kd.R_slice HO285.out; subst eo57) | ((with_reducible refine gate_callee (f := 10) rfl ?_); refine goesL_ (some 20) rfl rfl Tryd.func10 (by kernel_rfl) rfl #[.slice Ao56 t280.length co56, .slice Ao57 t283.length co57] rfl gl ?_; (with_reducible refine (stowageref14_Join.calls k _ _ t280 _ _ t283 t286 t287 t288 t289 t290 t293 _ ?side1 ?side2 ?side3 ?side4 A6.out).mono ?_); (case side1 => repeat (first | exact (Kd.S_reads' HO282.out).2.2 | (with_reducible refine Kd.C_alloc ?_ _) | (with_reducible refine Kd.C_drewN ?_ _) | (with_reducible refine Kd.C_drew ?_))); (case side2 => exact (Kd.S_reads' HO282.out).2.1); (case side3 => repeat (first | exact (Kd.R_reads' HO285.out).2.2 | (with_reducible refine Kd.C_alloc ?_ _) | (with_reducible refine Kd.C_drewN ?_ _) | (with_reducible refine Kd.C_drew ?_))); (case side4 => exact (Kd.R_reads' HO285.out).2.1); rintro e w58 ⟨v291, rfl, ho0, hb⟩; refine ⟨_, rfl, ?_⟩; replace HO277 := Aside0.mk (Kd.R_below (kR HO277.out) hb); replace HO282 := Aside0.mk (Kd.S_elder' (kS HO282.out) (Kd.R_base ho0) hb); replace HO285 := Aside0.mk (Kd.R_below (kR HO285.out) hb); have HO292 := Aside0.mk (Kd.R_lower ho0 (below_size (bws HB.out))); replace BK279 := Aside0.mk (blk_below (g := gb279) (o := .cells #[.int .i64 t271, .bool t272, .int .i64 t273, .string t274, .slice Ao53 t275.length co53] 26 (0, 0)) (bk BK279.out) hb); replace HB := Aside0.mk (below_step (bws HB.out) hb); (try clear hb); (try clear hb2); (try clear hk); (try clear hi); (try clear ho0)) | ((with_reducible refine gate_dst (N := 7) rfl ?_); refine box_event ?hg (N := 7) ?hd (cs := #[.int .i64 0, .bool false, .int .i64 0, .string (⟨#[]⟩ : ByteArray), .slice none 0 0]) (t := 32) ?hr ?_; (case hd => rfl); (case hg => rfl); (case hr => first | (go_simp; done) | (go_simp; rfl)); intro gb294 hg w59 hbox hb; have n0_ := Aside0.mk (Kd.R_below (kR HO277.out) hb); have n1_ := Aside0.mk (Kd.S_below (kS HO282.out) hb); have n2_ := Aside0.mk (Kd.R_below (kR HO285.out) hb); have n3_ := Aside0.mk (Kd.R_below (kR HO292.out) hb); have n4_ := Aside0.mk (blk_below (g := gb279) (o := .cells #[.int .i64 t271, .bool t272, .int .i64 t273, .string t274, .slice Ao53 t275.length co53] 26 (0, 0)) (bk BK279.out) hb); have n5_ := Aside0.mk (below_step (bws HB.out) hb); have n6_ := Aside0.mk (hbox); have n7_ := Aside0.mk ((by rw [hg]; exact (below_size (bws HB.out)) : w.heap.size ≤ gb294)); have n8_ := Aside0.mk ((by rw [hg]; exact (below_size (bws HB.out)) : w.heap.size ≤ gb294)); have n9_ := Aside0.mk ((by rw [hg]; exact Nat.ne_of_lt (blk_lt (g := gb279) (o := .cells #[.int .i64 t271, .bool t272, .int .i64 t273, .string t274, .slice Ao53 t275.length co53] 26 (0, 0)) (bk BK279.out)) : gb279 ≠ gb294)); have n10_ := Aside0.mk ((by rw [hg]; exact Nat.ne_of_gt (blk_lt (g := gb279) (o := .cells #[.int .i64 t271, .bool t272, .int .i64 t273, .string t274, .slice Ao53 t275.length co53] 26 (0, 0)) (bk BK279.out)) : gb294 ≠ gb279)); clear HO277; clear HO282; clear HO285; clear HO292; clear BK279; clear HB; have HO277 := n0_; have HO282 := n1_; have HO285 := n2_; have HO292 := n3_; have BK279 := n4_; have HB := n5_; have BK294 := n6_; have GW294 := n7_; have GE294 := n8_; have NB279_294 := n9_; have NB294_279 := n10_; clear n0_ n1_ n2_ n3_ n4_ n5_ n6_ n7_ n8_ n9_ n10_; clear hb hbox hg; have hnb60 := NB294_279.out; have hnc60 := NB279_294.out; obtain ⟨hcz61_0, hcz61_1, hcz61_2, hcz61_3, hcz61_4, hfz61_0, hfz61_1, hfz61_2, hfz61_3, hfz61_4⟩ := cz5 BK294.out; obtain ⟨Ao62, co62, eo62⟩ := Kd.R_slice HO292.out; subst eo62))
  have n0_ : Aside0 (Kd.R k63 63 (((((w59.setCell ⟨gb294, 0, none⟩ (.int .i64 t286)).setCell ⟨gb294, 1, none⟩ (.bool t287)).setCell ⟨gb294, 2, none⟩ (.int .i64 t288)).setCell ⟨gb294, 3, none⟩ (.string t289)).setCell ⟨gb294, 4, none⟩ (.slice Ao62 t290.length co62)) w.heap.size (fun _ => True) (.slice Ao53 t275.length co53) t275) := ⟨by (with_reducible repeat (first | apply Kd.R_alloc | apply Kd.R_drewN | apply Kd.R_drew)); exact Kd.R_mono (Kd.R_far (p := ⟨gb294, 4, none⟩) (Kd.R_far (p := ⟨gb294, 3, none⟩) (Kd.R_far (p := ⟨gb294, 2, none⟩) (Kd.R_far (p := ⟨gb294, 1, none⟩) (Kd.R_far (p := ⟨gb294, 0, none⟩) (Kd.R_types HO277.out BK294.out (by decide)) (fun _ hk => hk.2) (.int .i64 t286)) (fun _ hk => hk.2) (.bool t287)) (fun _ hk => hk.2) (.int .i64 t288)) (fun _ hk => hk.2) (.string t289)) (fun _ hk => hk.2) (.slice Ao62 t290.length co62)) (fun _ hk => trivial)⟩
  have n1_ : Aside0 (Kd.S k52 52 (((((w59.setCell ⟨gb294, 0, none⟩ (.int .i64 t286)).setCell ⟨gb294, 1, none⟩ (.bool t287)).setCell ⟨gb294, 2, none⟩ (.int .i64 t288)).setCell ⟨gb294, 3, none⟩ (.string t289)).setCell ⟨gb294, 4, none⟩ (.slice Ao62 t290.length co62)) w.heap.size (fun k_ => some k_ ≠ (.slice Ao62 t290.length co62 : Value).ownBlock) (.slice Ao56 t280.length co56) t280) := ⟨by (with_reducible repeat (first | apply Kd.S_alloc | apply Kd.S_drewN | apply Kd.S_drew)); exact Kd.S_mono (Kd.S_far (p := ⟨gb294, 4, none⟩) (Kd.S_far (p := ⟨gb294, 3, none⟩) (Kd.S_far (p := ⟨gb294, 2, none⟩) (Kd.S_far (p := ⟨gb294, 1, none⟩) (Kd.S_far (p := ⟨gb294, 0, none⟩) (Kd.S_types HO282.out BK294.out (by decide)) (fun _ hk => hk.2) (.int .i64 t286)) (fun _ hk => hk.2) (.bool t287)) (fun _ hk => hk.2) (.int .i64 t288)) (fun _ hk => hk.2) (.string t289)) (fun _ hk => hk.2) (.slice Ao62 t290.length co62)) (fun _ hk => hk.1.2)⟩
  have n2_ : Aside0 (Kd.R k79 79 (((((w59.setCell ⟨gb294, 0, none⟩ (.int .i64 t286)).setCell ⟨gb294, 1, none⟩ (.bool t287)).setCell ⟨gb294, 2, none⟩ (.int .i64 t288)).setCell ⟨gb294, 3, none⟩ (.string t289)).setCell ⟨gb294, 4, none⟩ (.slice Ao62 t290.length co62)) w.heap.size (fun _ => True) (.slice Ao57 t283.length co57) t283) := ⟨by (with_reducible repeat (first | apply Kd.R_alloc | apply Kd.R_drewN | apply Kd.R_drew)); exact Kd.R_mono (Kd.R_far (p := ⟨gb294, 4, none⟩) (Kd.R_far (p := ⟨gb294, 3, none⟩) (Kd.R_far (p := ⟨gb294, 2, none⟩) (Kd.R_far (p := ⟨gb294, 1, none⟩) (Kd.R_far (p := ⟨gb294, 0, none⟩) (Kd.R_types HO285.out BK294.out (by decide)) (fun _ hk => hk.2) (.int .i64 t286)) (fun _ hk => hk.2) (.bool t287)) (fun _ hk => hk.2) (.int .i64 t288)) (fun _ hk => hk.2) (.string t289)) (fun _ hk => hk.2) (.slice Ao62 t290.length co62)) (fun _ hk => trivial)⟩
  have n3_ : Aside0 (Kd.R k85 85 (((((w59.setCell ⟨gb294, 0, none⟩ (.int .i64 t286)).setCell ⟨gb294, 1, none⟩ (.bool t287)).setCell ⟨gb294, 2, none⟩ (.int .i64 t288)).setCell ⟨gb294, 3, none⟩ (.string t289)).setCell ⟨gb294, 4, none⟩ (.slice Ao62 t290.length co62)) w.heap.size (fun _ => True) (.slice Ao62 t290.length co62) t290) := ⟨by (with_reducible repeat (first | apply Kd.R_alloc | apply Kd.R_drewN | apply Kd.R_drew)); exact Kd.R_mono (Kd.R_far (p := ⟨gb294, 4, none⟩) (Kd.R_far (p := ⟨gb294, 3, none⟩) (Kd.R_far (p := ⟨gb294, 2, none⟩) (Kd.R_far (p := ⟨gb294, 1, none⟩) (Kd.R_far (p := ⟨gb294, 0, none⟩) (Kd.R_types HO292.out BK294.out (by decide)) (fun _ hk => hk.2) (.int .i64 t286)) (fun _ hk => hk.2) (.bool t287)) (fun _ hk => hk.2) (.int .i64 t288)) (fun _ hk => hk.2) (.string t289)) (fun _ hk => hk.2) (.slice Ao62 t290.length co62)) (fun _ hk => trivial)⟩
  have n4_ : Aside0 ((((((w59.setCell ⟨gb294, 0, none⟩ (.int .i64 t286)).setCell ⟨gb294, 1, none⟩ (.bool t287)).setCell ⟨gb294, 2, none⟩ (.int .i64 t288)).setCell ⟨gb294, 3, none⟩ (.string t289)).setCell ⟨gb294, 4, none⟩ (.slice Ao62 t290.length co62)).heap[gb279]? = some (.cells #[.int .i64 t271, .bool t272, .int .i64 t273, .string t274, .slice Ao53 t275.length co53] 26 (0, 0))) := ⟨bkf BK279.out⟩
  have n5_ : Aside0 ((((((w59.setCell ⟨gb294, 0, none⟩ (.int .i64 t286)).setCell ⟨gb294, 1, none⟩ (.bool t287)).setCell ⟨gb294, 2, none⟩ (.int .i64 t288)).setCell ⟨gb294, 3, none⟩ (.string t289)).setCell ⟨gb294, 4, none⟩ (.slice Ao62 t290.length co62)).heap[gb294]? = some (.cells #[.int .i64 t286, .bool t287, .int .i64 t288, .string t289, .slice Ao62 t290.length co62] 32 (0, 0))) := ⟨bkp BK294.out⟩
  have n6_ : Aside0 (Below w.heap.size w (((((w59.setCell ⟨gb294, 0, none⟩ (.int .i64 t286)).setCell ⟨gb294, 1, none⟩ (.bool t287)).setCell ⟨gb294, 2, none⟩ (.int .i64 t288)).setCell ⟨gb294, 3, none⟩ (.string t289)).setCell ⟨gb294, 4, none⟩ (.slice Ao62 t290.length co62))) := ⟨bws HB.out⟩
  (try clear HO277)
  (try clear HO282)
  (try clear HO285)
  (try clear HO292)
  (try clear BK279)
  (try clear BK294)
  (try clear HB)
  generalize (((((w59.setCell ⟨gb294, 0, none⟩ (.int .i64 t286)).setCell ⟨gb294, 1, none⟩ (.bool t287)).setCell ⟨gb294, 2, none⟩ (.int .i64 t288)).setCell ⟨gb294, 3, none⟩ (.string t289)).setCell ⟨gb294, 4, none⟩ (.slice Ao62 t290.length co62)) = w63 at n0_ n1_ n2_ n3_ n4_ n5_ n6_ ⊢
  have HO277 := n0_
  have HO282 := n1_
  have HO285 := n2_
  have HO292 := n3_
  have BK279 := n4_
  have BK294 := n5_
  have HB := n6_
  clear n0_ n1_ n2_ n3_ n4_ n5_ n6_
  replace HO277 := Aside0.mk (Kd.R_drew HO277.out)
  replace HO282 := Aside0.mk (Kd.S_drew HO282.out)
  replace HO285 := Aside0.mk (Kd.R_drew HO285.out)
  replace HO292 := Aside0.mk (Kd.R_drew HO292.out)
  replace BK279 := Aside0.mk (blk_drew BK279.out)
  replace BK294 := Aside0.mk (blk_drew BK294.out)
  replace HB := Aside0.mk (below_drew1 HB.out)
  refine start_ (n := 13) (S := fun w' => True) (ds := []) #[false, false, false, false, false, false, false, false, false, false, false, false, false] (by kernel_rfl) rfl rfl trivial (fun hHeld => ?_); refine with_tabW stowagelaw14_PartsJoins.tab3 stowagelaw14_PartsJoins.bits3 (fun HT_ HW_ => ?_)
  generalize w63.drew = w64 at HO277 HO282 HO285 HO292 BK279 BK294 HB hHeld ⊢
  refine one_ (i := 0) (N := some 23) #[true, false, false, false, false, false, false, false, false, false, false, false, false] rfl rfl (one_of HT_.out (by kernel_rfl)) (by decide) (fun K hK => ?_)
  refine goes_ Tryd.func13 (by kernel_rfl) rfl #[] (by rfl) rfl rfl gl ?_
  with_reducible refine (stowagelaw14_awake.calls k  false _ A7.out (gg_below HG.out HB.out)).mono ?_
  rintro e w65 ⟨rfl, hb⟩
  refine ⟨_, rfl, ?_⟩
  replace HO277 := Aside0.mk (Kd.R_below (kR HO277.out) hb)
  replace HO282 := Aside0.mk (Kd.S_below (kS HO282.out) hb)
  replace HO285 := Aside0.mk (Kd.R_below (kR HO285.out) hb)
  replace HO292 := Aside0.mk (Kd.R_below (kR HO292.out) hb)
  replace BK279 := Aside0.mk (blk_below (g := gb279) (o := .cells #[.int .i64 t271, .bool t272, .int .i64 t273, .string t274, .slice Ao53 t275.length co53] 26 (0, 0)) (bk BK279.out) hb)
  replace BK294 := Aside0.mk (blk_below (g := gb294) (o := .cells #[.int .i64 t286, .bool t287, .int .i64 t288, .string t289, .slice Ao62 t290.length co62] 32 (0, 0)) (bk BK294.out) hb)
  replace HB := Aside0.mk (below_step (bws HB.out) hb)
  (try clear hb)
  (try clear hb2)
  (try clear hk)
  (try clear hi)
  refine hK.out _ _ trivial (fun hHeld => ?_)
  clear hK K
  refine norm_ (a' := ?_) ?_ ?_
  rotate_left
  ·
   show Act.put _ (some 23) _ = _
   simp only [Act.put, List.setIfInBounds_toArray, List.set_cons_zero, List.set_cons_succ, i64_w, i32_w]
   rfl
  refine pu 1 (some 24) HT_.out ?_
  refine un 2 (some 25) HT_.out ?_
  refine un 3 (some 26) HT_.out ?_
  refine un 4 (some 27) HT_.out ?_
  refine un 5 (some 28) HT_.out ?_
  refine pu 6 (some 29) HT_.out ?_
  refine pu 7 (some 30) HT_.out ?_
  refine un 8 (some 31) HT_.out ?_
  refine un 9 (some 32) HT_.out ?_
  refine un 10 (some 33) HT_.out ?_
  refine pu 11 (some 34) HT_.out ?_
  refine pu 12 (some 4) HT_.out ?_
  refine done_ (done_of HT_.out (by kernel_rfl)) ?_
  try go_wp2
  go_ret
  exact ⟨by first | rfl | (simp [errW_none, errW_some] <;> rfl) | (simp [*, errW_none, errW_some] <;> rfl), by repeat (first | (with_reducible first | exact HB.out | apply below_alloc | apply pw_below_drewN | apply below_drew1 | refine below_set ?_ GE279.out | refine below_set ?_ GE294.out) | exact HB.out)⟩

end Go.Proofs.YtoiockmmlanimaaDoor.Oj
end
section
/- PartsJoins, second form: what is put together of parts, by any picks, or why it is not. Its conditions: those of the given card. -/
namespace Go.Proofs.YtoiockmmlanimaaDoor.partsJoins
open Go.ChangeShapes Go.WideShapes Go.ChangeAt Go.RowKit Go.Proofs.YtoiockmmlanimaaDoor.Oj Go.Proofs.YtoiockmmlanimaaDoorW.PrintWords
open Go.ChangeMaps (open_string shut_string)
set_option linter.unusedVariables false
set_option linter.unusedSimpArgs false
theorem own : ownKnob Tryd.prog.godebug = none := by kernel_rfl
theorem laidOut : laidOutB Tryd.prog = true := by kernel_rfl
set_option maxRecDepth 100000 in
/-- What the walk gives, for every argument and every world: the same for both forms. -/
theorem contract (H : Type) (enc : TypeId × Value → H) (W : World) (base : Nat) (args : Array Value) (ds gs : List (DataW H)) (before : List MemPlace)
    (hval : ∀ (j : Nat) t v, Tryd.f3.params[j]? = some t → args[j]? = some v → Value.okWide Tryd.prog W .any base t v)
    (hW : DataW.Whole enc Tryd.prog Tryd.f3.params.toList Rows.partsJoinsSpec.vars false W args.toList ds gs before)
    (hsz : (DataW.weightsEach Tryd.prog (Tryd.f3.params.toList ++ (OpenSpec.ofChange Rows.partsJoinsSpec).bare.plain.varTypes Tryd.prog) (ds ++ gs)).all (· ≤ reachBytes) = true) (hcond : ∀ k, (Rows.OpenSpec.upto Rows.partsJoinsSpec).cond = some k → k H (ds ++ gs) = true) (hG : GG W) :
    Calls Tryd.prog 3 args W fun e W' => ∃ v, e = .returned v ∧ Rows.partsJoinsSpec.post enc Tryd.prog Tryd.f3 false true false false W args v W' := by
  have hW' := hW
  obtain ⟨p, q, hA0, hV, rfl, hfz, hnd⟩ := hW
  have hA : DataW.TrodAll enc Tryd.prog W 0 (fun _ => true) true Tryd.f3.params.toList args.toList ds p := hA0
  rw [Tryd.params3] at hA hval hsz
  obtain ⟨v0, vs0, d0, ds0, p0, q0, hargs, rfl, rfl, h0, r0⟩ := trodAll_cons hA
  obtain ⟨v1, vs1, d1, ds1, p1, q1, rfl, rfl, rfl, h1, r1⟩ := trodAll_cons r0
  obtain ⟨rfl, rfl, rfl⟩ := trodAll_nil r1
  obtain rfl : args = #[v0, v1] := by cases args; simp_all
  obtain ⟨rfl, rfl⟩ := trodVars_none hV
  obtain ⟨A0, len0, cap0, rfl⟩ := okWide_slice Tryd.underlying22 (hval 0 22 v0 rfl rfl)
  have k0 := h0
  have lt0 : ∀ x ∈ p0, x.block < W.heap.size := by obtain ⟨m, hm⟩ := k0; exact DataW.trod_lt m _ _ _ hm
  obtain ⟨fuel0, hf0⟩ := h0
  obtain ⟨l0, hK0, wt0, bk0⟩ := (KO.opensParts).out enc W _ _ _ fuel0 _ _ hf0
  obtain ⟨B0, c0, he0, hcap0, hr0⟩ := hK0
  simp only [Value.cells, List.cons.injEq, and_true] at he0
  injection he0 with e1 e2 e3
  subst e1 e2 e3
  obtain ⟨A1, len1, cap1, rfl⟩ := okWide_slice Tryd.underlying23 (hval 1 23 v1 rfl rfl)
  have k1 := h1
  have lt1 : ∀ x ∈ p1, x.block < W.heap.size := by obtain ⟨m, hm⟩ := k1; exact DataW.trod_lt m _ _ _ hm
  obtain ⟨fuel1, hf1⟩ := h1
  obtain ⟨l1, hK1, wt1, bk1⟩ := (KO.opensPicks).out enc W _ _ _ fuel1 _ _ hf1
  obtain ⟨B1, c1, he1, hcap1, hr1⟩ := hK1
  simp only [Value.cells, List.cons.injEq, and_true] at he1
  injection he1 with e1 e2 e3
  subst e1 e2 e3
  have hup := hcond _ rfl
  simp only [Rows.uptoSmall, decide_eq_true_eq, List.cons_append, List.nil_append, Rows.uptoBulkAll, Rows.uptoBulk] at hup
  have hb0 : (l0.map fun y : Pure.Part => (1 + (1 + ((y.f2.size + 1) + ((y.f3.map fun z => ((z.f0.size + 1) + 1) + 1).sum + 1)))) + 1).sum + 1 ≤ Rows.uptoBulk d0 := bk0
  have hs0 := KO.small_parts l0 hb0 (by omega)
  have hb1 : (l1.map fun y : Pure.Pick => (1 + (y.f1.size + 1)) + 1).sum + 1 ≤ Rows.uptoBulk d1 := bk1
  have hs1 := KO.picks_len l1 hb1 (by omega)
  have hq1 : ∀ m ∈ DataW.weights Tryd.prog 23 d1, m ≤ reachBytes := fun m hm => by simpa using List.all_eq_true.1 hsz m (by simp [DataW.weightsEach, hm])
  have hw1 : ∀ x ∈ l1, Pure.wf x.f0 := fun x hx => KO.wf_of ((wt1 hq1).2 x hx).1
  obtain ⟨k, hk⟩ := Pure.PartsJoins_true l0 l1 hs0 hs1 hw1
  refine (stowagelaw14_PartsJoins.calls k _ _ l0 _ _ l1 true W hr0 hcap0 hr1 hcap1 hk hG).mono fun e W' ⟨he, bel⟩ => ?_
  subst he
  exact ⟨_, rfl, _, _, _, [], _, [], hW', trodAll_mk1 (shut_bool Tryd.underlying4 _), (trodAll_cons_mk (Below.trod laidOut (by kernel_rfl) (of_decide_eq_true (by kernel_rfl)) k0 bel lt0) (trodAll_cons_mk (Below.trod laidOut (by kernel_rfl) (of_decide_eq_true (by kernel_rfl)) k1 bel lt1) trodAll_mk0)), rfl, bel.frame _, fun h => by cases h⟩
/-- The cells of a datum without pointers. -/
def flat : DataW Unit → List Value
  | .lit (.int k n) => [.int k n]
  | .agg xs => flats xs
  | _ => []
where flats : List (DataW Unit) → List Value
  | [] => []
  | x :: xs => flat x ++ flats xs
def put (cs : List Value) : Obj → Obj
  | .cells _ t z => .cells cs.toArray t z
  | ob => ob
/-- A world for the witness: the listed tables hold what their text lays. -/
noncomputable def laidWorld (os : Os) : World :=
  { World.holding Tryd.prog os ⟨#[], #[], []⟩ with heap := Rows.partsJoinsUptoRow.laid.foldl (fun h x => match Tryd.prog.globalNamed x.1 with | some g => h.modify g (put (flat x.2)) | none => h) (World.holding Tryd.prog os ⟨#[], #[], []⟩).heap }
theorem laid_met (os : Os) : laidMet Tryd.prog Rows.partsJoinsUptoRow.laid ((laidWorld os).forCall (fun _ _ => 0) ⟨#[], #[.slice none 0 0, .slice none 0 0], []⟩).memory :=
  laidMet_of_run3 8 (by kernel_rfl) (by kernel_rfl) (by kernel_rfl)
theorem reads (os : Os) {H : Type} (enc : TypeId × Value → H) : ∃ places, DataW.whole enc Tryd.prog ((laidWorld os).forCall (fun _ _ => 0) ⟨#[], #[.slice none 0 0, .slice none 0 0], []⟩).memory Tryd.f3.params.toList Rows.partsJoinsSpec.vars false (#[.slice none 0 0, .slice none 0 0] : Array Value).toList 8 = some ([.nil, .nil], [], places) :=
  ⟨[], by kernel_rfl⟩
set_option maxRecDepth 100000 in
theorem lifted (os : Os) (started : os.Started) (H : Type) (enc : TypeId × Value → H) (F : Stop.Interp) :
    ReturnsInHanded {} Tryd.checked os 3 .any ((Rows.OpenSpec.upto Rows.partsJoinsSpec).preRow enc Tryd.prog Tryd.f3 Rows.partsJoinsUptoRow.domain false Rows.partsJoinsUptoRow.laid) (((Rows.OpenSpec.upto Rows.partsJoinsSpec).at F).post enc Tryd.prog Tryd.f3 false true false false) := by
  obtain ⟨places, hx⟩ := reads os enc
  refine returnsInHanded_of_row (C := Tryd.checked) (s := (Rows.OpenSpec.upto Rows.partsJoinsSpec)) own started (by kernel_rfl) Tryd.func3
    (witness_row_at (enc := enc) (C := Tryd.checked) false (laidWorld os) #[.slice none 0 0, .slice none 0 0] rfl (by kernel_rfl) (by kernel_rfl) (by kernel_rfl)
      (OpenSpec.preRow_of_cond 8 hx (by kernel_rfl) (fun k hk => by cases hk; kernel_rfl) (by kernel_rfl) (laid_met os))) ?_
  intro W base args ds gs before hval hW _ hcond hsz hlaid hsh _
  exact contract H enc W base args ds gs before hval hW hsz hcond (KO.gg_of_laid hlaid)
theorem said : Rows.PartsJoinsUptoSaid :=
  OpenClaim.holds_of_cond 3 Tryd.f3 rfl rfl rfl rfl rfl rfl rfl ⟨rfl, rfl, rfl, rfl, rfl⟩ rfl rfl rfl rfl rfl (by kernel_rfl) Tryd.func3 (by kernel_rfl)
    (of_decide_eq_true (by kernel_rfl)) (by unfold Func.isWrapper; first | (rw [if_pos (by decide +kernel)]; kernel_rfl) | (rw [if_neg (by decide +kernel)]; exact ⟨rfl, rfl⟩))
    (fun os started H enc _ F => by rw [OpenClaim.pre_eq_preRow]; exact lifted os started H enc F)
/-- No parameter wants a stand-in; the program's own looks are off: what the card asks. -/
theorem plain (f : FuncId) (fn : Func) (hf : Tryd.pinned.checked.prog.funcNamed "stowage/stowagelaw14.PartsJoins" = some f) (hfn : Tryd.pinned.checked.prog.funcs[f]? = some fn) :
    false = Tryd.pinned.checked.prog.looks [] ∧ ∀ (j : Nat) t, fn.params[j]? = some t → Tryd.pinned.checked.prog.wantsStandIn t = false := by
  obtain rfl : f = 3 := Option.some.inj ((show Tryd.prog.funcNamed "stowage/stowagelaw14.PartsJoins" = some 3 by kernel_rfl).symm.trans hf) |>.symm
  obtain rfl : fn = Tryd.f3 := (Option.some.inj (Tryd.func3.symm.trans hfn)).symm
  refine ⟨by kernel_rfl, fun j t ht => ?_⟩
  rw [Tryd.params3] at ht
  have hm := Array.mem_of_getElem? ht
  simp only [List.mem_toArray, List.mem_cons, List.not_mem_nil, or_false] at hm
  rcases hm with rfl | rfl
  · exact (show Tryd.prog.wantsStandIn 22 = false by kernel_rfl)
  · exact (show Tryd.prog.wantsStandIn 23 = false by kernel_rfl)
/-- The card. -/
theorem card : Rows.PartsJoinsUptoCardSaid :=
  Claim7.holds_tied_plain_at .later [] _ _ _ _ said (fun _ h => by cases h) (by kernel_rfl) (fun _ h => by cases h) partsJoinsUpto_row_tie rfl ⟨rfl, rfl⟩ (by kernel_rfl) rfl plain (by kernel_rfl)
end Go.Proofs.YtoiockmmlanimaaDoor.partsJoins
namespace Go.Proofs.YtoiockmmlanimaaDoor
theorem partsJoins_cardUpto : Rows.PartsJoinsUptoCardSaid := partsJoins.card
end Go.Proofs.YtoiockmmlanimaaDoor
end
