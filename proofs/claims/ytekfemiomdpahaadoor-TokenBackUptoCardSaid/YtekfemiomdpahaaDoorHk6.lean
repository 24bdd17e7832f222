-- Written for this claim by hyb.py, a driver of this session's over the kit's printer.
import Derived.Test.YtekfemiomdpahaaDoorHk0
import Derived.Lib.Hide
import Derived.IntWalk
import Derived.Deep.QuietTactic
import Derived.BigQuiet
import Derived.LoopN
import Derived.Test.YtekfemiomdpahaaDoorShelf
namespace Go.Proofs.YtekfemiomdpahaaDoor.Hk
open Go.RowKit Go.Proofs.YtekfemiomdpahaaDoorW.PrintWords Go.Proofs.YtekfemiomdpahaaDoorW.PrintLast Go.Proofs.YtekfemiomdpahaaDoorW.PrintMore
attribute [local go_sem] max2_int min2_int max_two min_two max_three min_three max_four min_four   -- for this text's walks alone
set_option linter.unusedVariables false
set_option linter.unusedSimpArgs false

/-! ### EXT token_find: function 22 -/
/-- The search itself: i and j as Go has them. -/
def token_find_bs (l : List (S31)) (t : ByteArray) : Nat → Nat → Nat → Nat
  | 0, i, _ => i
  | n + 1, i, j => if i < j then (if Lib.compareBytes (rd_T31 l (((i + j) / 2 : Nat) : Int)).f0.data.toList t.data.toList < 0 then token_find_bs l t n ((i + j) / 2 + 1) j else token_find_bs l t n i ((i + j) / 2)) else i
def token_find.f (l0 : List (S31)) (a1 : ByteArray) : Option (Int × Bool) :=
  if l0.length ≤ 4611686018427387904 then some ((token_find_bs l0 a1 l0.length 0 l0.length : Nat), decide (token_find_bs l0 a1 l0.length 0 l0.length < l0.length) && Lib.compareBytes (rd_T31 l0 ((token_find_bs l0 a1 l0.length 0 l0.length : Nat) : Int)).f0.data.toList a1.data.toList == 0) else none
set_option maxHeartbeats 1000000 in
theorem token_find_cmp (x : S31) (t : ByteArray) (w : World) :
    Calls Tryd.prog 43 #[.agg #[.string x.f0, .string x.f1, .string x.f2, .int .i64 x.f3], .string t] w fun e w' => e = .returned (.int .i64 (Lib.compareBytes x.f0.data.toList t.data.toList)) ∧ Below w.heap.size w w' := by
  go_enter Tryd.func43, Tryd.ntmps43
  go_wp2_with (go_at_call 44; refine (Tryd.strings_Compare _ _ _).mono ?_; rintro e w' ⟨rfl, rfl⟩)
  go_ret
  exact ⟨rfl, (Below.refl _ _).alloc (Nat.le_refl _) _⟩
theorem token_find_bs_stop (l : List (S31)) (t : ByteArray) (n i : Nat) : token_find_bs l t n i i = i := by
  cases n with
  | zero => rfl
  | succ n => rw [token_find_bs, if_neg (Nat.lt_irrefl i)]
set_option maxRecDepth 100000 in
set_option maxHeartbeats 4000000 in
theorem token_find_search (A0 : Option Addr) (c0 : Nat) (l0 : List (S31)) (t : ByteArray) (w : World) (hr0 : Kd.C k31 w A0 l0.length l0) (hc0 : l0.length ≤ c0) (hl : l0.length ≤ 4611686018427387904) (R : Nat) (hR : token_find_bs l0 t l0.length 0 l0.length = R) :
    Calls Tryd.prog 42 #[.slice A0 l0.length c0, .string t, .func (.func 43) #[] #[]] w fun e w' => e = .returned (.tuple #[.int .i64 (R : Nat), .bool (decide (R < l0.length) && Lib.compareBytes (rd_T31 l0 ((R : Nat) : Int)).f0.data.toList t.data.toList == 0)]) ∧ Below w.heap.size w w' := by
  have HRR := Lib.hid hR
  have HC := Lib.hid hr0
  clear hR hr0
  go_enter Tryd.func42, Tryd.ntmps42
  go_wp2
  go_loopg [9, 10] l0.length (fun kq v9 v10 w' => ∃ (i j : Nat), v9 = .int .i64 (i : Int) ∧ v10 = .int .i64 (j : Int) ∧ i ≤ j ∧ j ≤ l0.length ∧ j - i ≤ kq ∧ Hid (token_find_bs l0 t kq i j = R) ∧ Hid (Below w.heap.size w w'))
  case atStart => exact ⟨0, l0.length, rfl, rfl, Nat.zero_le _, Nat.le_refl _, by omega, HRR, Lib.hid (Below.refl _ _)⟩
  case round =>
    obtain ⟨i, j, rfl, rfl, hij, hjn, hk, HA, HB⟩ := hrel
    by_cases hlt : i < j
    · cases gk with
      | zero => exact absurd hk (by omega)
      | succ k1 =>
        have e1 : decide ((i : Int) < (j : Int)) = true := decide_eq_true (by omega)
        have H := HA.out
        rw [token_find_bs, if_pos hlt] at H
        have e2 : IntKind.i64.wrap ((i : Int) + (j : Int)) = ((i + j : Nat) : Int) := by rw [IntWalk.i64_in _ (by omega)]; omega
        rw [show (((i + j) / 2 : Nat) : Int) = ((i : Int) + (j : Int)) / 2 by omega] at H
        obtain ⟨c, hc⟩ : ∃ c, Lib.compareBytes (rd_T31 l0 (((i : Int) + (j : Int)) / 2)).f0.data.toList t.data.toList = c := ⟨_, rfl⟩
        rw [hc] at H
        have HA := Lib.hid H
        have hc := Lib.hid hc
        clear H
        have hh1 : i ≤ (i + j) / 2 := by omega
        have hh2 : (i + j) / 2 < j := by omega
        obtain ⟨ad, e, x0, x1, x2, x3⟩ := at_T31 HC.out (((i + j) / 2 : Nat) : Int) (by omega) (by omega)
        rw [Int.toNat_natCast] at x0 x1 x2 x3
        cases e
        replace x0 := (HB.out.cell (World.block_lt_of_cell? w _ x0)).trans x0
        replace x1 := (HB.out.cell (World.block_lt_of_cell? w _ x1)).trans x1
        replace x2 := (HB.out.cell (World.block_lt_of_cell? w _ x2)).trans x2
        replace x3 := (HB.out.cell (World.block_lt_of_cell? w _ x3)).trans x3
        go_wp2_with (go_at_call 43; refine (token_find_cmp (rd_T31 l0 (((i : Int) + (j : Int)) / 2)) t _).mono ?_; rw [hc.out]; rintro e w' ⟨rfl, hb⟩)
        · have H := HA.out
          have hlt : c < 0 := by assumption
          rw [if_pos hlt] at H
          go_roundg k1
          case measure => omega
          case rel => exact ⟨(i + j) / 2 + 1, j, congrArg (Value.int .i64) (by omega), rfl, by omega, hjn, by omega, Lib.hid H, Lib.hid (HB.out.trans (hb.mono HB.out.size))⟩
        · have H := HA.out
          have hlt : ¬ c < 0 := by omega
          rw [if_neg hlt] at H
          go_roundg k1
          case measure => omega
          case rel => exact ⟨i, (i + j) / 2, rfl, congrArg (Value.int .i64) (by omega), by omega, by omega, by omega, Lib.hid H, Lib.hid (HB.out.trans (hb.mono HB.out.size))⟩
    · have e1 : decide ((i : Int) < (j : Int)) = false := decide_eq_false (by omega)
      obtain rfl : i = j := by omega
      have H := HA.out
      rw [token_find_bs_stop] at H
      subst H
      by_cases hi : i < l0.length
      · obtain ⟨ad, e, x0, x1, x2, x3⟩ := at_T31 HC.out (i : Int) (by omega) (by omega)
        rw [Int.toNat_natCast] at x0 x1 x2 x3
        cases e
        replace x0 := (HB.out.cell (World.block_lt_of_cell? w _ x0)).trans x0
        replace x1 := (HB.out.cell (World.block_lt_of_cell? w _ x1)).trans x1
        replace x2 := (HB.out.cell (World.block_lt_of_cell? w _ x2)).trans x2
        replace x3 := (HB.out.cell (World.block_lt_of_cell? w _ x3)).trans x3
        have hd : decide (i < l0.length) = true := decide_eq_true hi
        go_wp2_with (go_at_call 43; refine (token_find_cmp (rd_T31 l0 (i : Int)) t _).mono ?_; rintro e w' ⟨rfl, hb⟩)
        go_ret2
        refine ⟨?_, HB.out.trans (hb.mono HB.out.size)⟩
        simp [hi]
      · have hd : decide (i < l0.length) = false := decide_eq_false hi
        go_wp2
        go_ret2
        refine ⟨?_, HB.out⟩
        simp [hi]
theorem token_find.calls (A0 : Option Addr) (c0 : Nat) (l0 : List (S31)) (a1 : ByteArray) (r1 : Int) (r2 : Bool) (w : World) (hr0 : Kd.C k31 w A0 l0.length l0) (hc0 : l0.length ≤ c0) (h : token_find.f l0 a1 = some (r1, r2)) :
    Calls Tryd.prog 22 #[.slice A0 l0.length c0, .string a1] w fun e w' => e = .returned (.tuple #[.int .i64 r1, .bool r2]) ∧ Below w.heap.size w w' := by
  unfold token_find.f at h
  split at h
  · rename_i hl
    cases h
    have hS := token_find_search A0 c0 l0 a1 w hr0 hc0 hl _ rfl
    obtain ⟨R, hR⟩ : ∃ R, token_find_bs l0 a1 l0.length 0 l0.length = R := ⟨_, rfl⟩
    rw [hR] at hS ⊢
    clear hR
    obtain ⟨B, hB⟩ : ∃ B, (decide (R < l0.length) && Lib.compareBytes (rd_T31 l0 ((R : Nat) : Int)).f0.data.toList a1.data.toList == 0) = B := ⟨_, rfl⟩
    rw [hB] at hS ⊢
    clear hB
    go_enter Tryd.func22, Tryd.ntmps22
    go_wp2_with (go_at_call 42; refine hS.mono ?_; rintro e w' ⟨rfl, hb⟩)
    go_ret2
    exact ⟨rfl, hb⟩
  · cases h

end Go.Proofs.YtekfemiomdpahaaDoor.Hk
