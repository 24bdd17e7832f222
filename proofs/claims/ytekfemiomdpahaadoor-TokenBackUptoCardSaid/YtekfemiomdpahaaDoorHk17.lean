-- Written for this claim by hyb.py, a driver of this session's over the kit's printer.
import Derived.Test.YtekfemiomdpahaaDoorHk0
import Derived.Test.YtekfemiomdpahaaDoorHk14
import Derived.Lib.Hide
import Derived.IntWalk
import Derived.Deep.QuietTactic
import Derived.BigQuiet
import Derived.OwnWalk
import Derived.Lib.Walk
import Derived.Deep.RegionWith
namespace Go.Proofs.YtekfemiomdpahaaDoor.Hk
open Go.RowKit Go.Proofs.YtekfemiomdpahaaDoorW.PrintWords Go.Proofs.YtekfemiomdpahaaDoorW.PrintLast Go.Proofs.YtekfemiomdpahaaDoorW.PrintMore
attribute [local go_sem] max2_int min2_int max_two min_two max_three min_three max_four min_four   -- for this text's walks alone
set_option linter.unusedVariables false
set_option linter.unusedSimpArgs false

/-! ### EXT octet_Reader_End: function 38 -/
def octet_Reader_End.f (s0_0 : ByteArray) (s0_1 : Int) (s0_2 : Int) : Option (Int × ByteArray × Int × Int) := if s0_2 = 0 then (if s0_1 < (s0_0.size : Int) then some (2, s0_0, s0_1, 2) else some (0, s0_0, s0_1, 0)) else some (s0_2, s0_0, s0_1, s0_2)
set_option maxRecDepth 100000 in
set_option maxHeartbeats 1000000 in
theorem octet_Reader_End_err (g : Nat) (e0 : Int) (w : World) (h2 : w.cell? ⟨g, 2, none⟩ = some (.int .i64 e0)) :
    Calls Tryd.prog 52 #[.pointer (some ⟨g, 0, none⟩)] w fun e w' => e = .returned (.int .i64 e0) ∧ w' = w := by
  go_enter Tryd.func52, Tryd.ntmps52
  go_wp2
  go_ret
  exact ⟨rfl, rfl⟩
set_option maxRecDepth 100000 in
set_option maxHeartbeats 1000000 in
theorem octet_Reader_End_no (g : Nat) (e0 : Int) (w : World) (he : ¬ e0 = 0) (h2 : w.cell? ⟨g, 2, none⟩ = some (.int .i64 e0)) :
    Calls Tryd.prog 38 #[.pointer (some ⟨g, 0, none⟩)] w fun e w' => e = .returned (.int .i64 e0) ∧ ∃ n, w' = w.drewN n := by
  have mixed : Tryd.prog.follows Departure.mixedOrders = true := by kernel_rfl
  have hne : (e0 == 0) = false := beq_eq_false_iff_ne.2 he
  go_enter Tryd.func38, Tryd.ntmps38
  go_wp2
  go_quiet (first | (go_at_call 52; exact Calls.quiet_of_same (octet_Reader_End_err g e0 _ h2)))
  go_wp2_with (go_at_call 52; refine (octet_Reader_End_err g e0 _ (by exact h2)).mono ?_; rintro e w' ⟨rfl, rfl⟩)
  go_ret
  exact ⟨rfl, _, rfl⟩
set_option maxRecDepth 100000 in
set_option maxHeartbeats 1000000 in
theorem octet_Reader_End_end (g : Nat) (s : ByteArray) (a : Int) (w : World) (ha : ¬ a < (s.size : Int)) (h0 : w.cell? ⟨g, 0, none⟩ = some (.string s)) (h1 : w.cell? ⟨g, 1, none⟩ = some (.int .i64 a)) (h2 : w.cell? ⟨g, 2, none⟩ = some (.int .i64 0)) :
    Calls Tryd.prog 38 #[.pointer (some ⟨g, 0, none⟩)] w fun e w' => e = .returned (.int .i64 0) ∧ ∃ n, w' = w.drewN n := by
  have mixed : Tryd.prog.follows Departure.mixedOrders = true := by kernel_rfl
  have hne : decide (a < (s.size : Int)) = false := decide_eq_false ha
  go_enter Tryd.func38, Tryd.ntmps38
  go_wp2
  go_quiet (first | (go_at_call 52; exact Calls.quiet_of_same (octet_Reader_End_err g 0 _ h2)))
  go_wp2_with (go_at_call 52; refine (octet_Reader_End_err g 0 _ (by exact h2)).mono ?_; rintro e w' ⟨rfl, rfl⟩)
  go_ret
  exact ⟨rfl, _, rfl⟩
set_option maxRecDepth 100000 in
set_option maxHeartbeats 1000000 in
theorem octet_Reader_End_long (g : Nat) (s : ByteArray) (a : Int) (w : World) (ha : a < (s.size : Int)) (h0 : w.cell? ⟨g, 0, none⟩ = some (.string s)) (h1 : w.cell? ⟨g, 1, none⟩ = some (.int .i64 a)) (h2 : w.cell? ⟨g, 2, none⟩ = some (.int .i64 0)) (hz : w.frozen? ⟨g, 2, none⟩ = false) :
    Calls Tryd.prog 38 #[.pointer (some ⟨g, 0, none⟩)] w fun e w' => e = .returned (.int .i64 2) ∧ ∃ n, w' = (w.drewN n).setCell ⟨g, 2, none⟩ (.int .i64 2) := by
  have mixed : Tryd.prog.follows Departure.mixedOrders = true := by kernel_rfl
  have hne : decide (a < (s.size : Int)) = true := decide_eq_true ha
  go_enter Tryd.func38, Tryd.ntmps38
  go_wp2
  go_quiet (first | (go_at_call 52; exact Calls.quiet_of_same (octet_Reader_End_err g 0 _ h2)))
  go_wp2_with (go_at_call 52; refine (octet_Reader_End_err g 2 _ ?_).mono ?_; rotate_left; rintro e w' ⟨rfl, rfl⟩)
  · go_ret
    exact ⟨rfl, _, rfl⟩
  · exact World.cell?_setCell_same _ _ _ (u := .int .i64 0) (by exact h2)
theorem octet_Reader_End.calls (g : Nat) (s0_0 : ByteArray) (s0_1 : Int) (s0_2 : Int) (r1 : Int) (r2 : ByteArray) (r3 : Int) (r4 : Int) (w0 w : World) (hI : IsS88 w0 w g s0_0 s0_1 s0_2) (hB : Below w0.heap.size w0 w) (h : octet_Reader_End.f s0_0 s0_1 s0_2 = some (r1, r2, r3, r4)) :
    Calls Tryd.prog 38 #[.pointer (some ⟨g, 0, none⟩)] w fun e w' => e = .returned (.int .i64 r1) ∧ IsS88 w0 w' g r2 r3 r4 ∧ Below w0.heap.size w0 w' ∧ KeepBut w w' g none := by
  have c0 := cellS88_0 hI.1
  have c1 := cellS88_1 hI.1
  have c2 := cellS88_2 hI.1
  have cz := blk_frozen hI.1 2
  unfold octet_Reader_End.f at h
  split at h
  · rename_i he
    subst he
    split at h
    · rename_i ha
      cases h
      exact (octet_Reader_End_long g _ _ w ha c0 c1 c2 cz).mono fun e w' ⟨h1, n, h2⟩ => ⟨h1, by rw [h2]; exact (hI.drewN n).set_2 2, by rw [h2]; exact (pw_below_drewN hB n).setCell hI.2 _, by rw [h2]; exact (keep_drewN (KeepBut.refl _ _ _) n).set_ 2 _⟩
    · rename_i ha
      cases h
      exact (octet_Reader_End_end g _ _ w ha c0 c1 c2).mono fun e w' ⟨h1, n, h2⟩ => ⟨h1, by rw [h2]; exact hI.drewN n, by rw [h2]; exact pw_below_drewN hB n, by rw [h2]; exact keep_drewN (KeepBut.refl _ _ _) n⟩
  · rename_i he
    cases h
    exact (octet_Reader_End_no g _ w he c2).mono fun e w' ⟨h1, n, h2⟩ => ⟨h1, by rw [h2]; exact hI.drewN n, by rw [h2]; exact pw_below_drewN hB n, by rw [h2]; exact keep_drewN (KeepBut.refl _ _ _) n⟩

end Go.Proofs.YtekfemiomdpahaaDoor.Hk
