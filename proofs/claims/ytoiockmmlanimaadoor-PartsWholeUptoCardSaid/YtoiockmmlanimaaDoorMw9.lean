/- Merged of several texts of this session's by merge.py. -/
import Derived.Test.YtoiockmmlanimaaDoorMw3
import Derived.Test.YtoiockmmlanimaaDoorMw4
import Derived.Test.YtoiockmmlanimaaDoorMw8
-- Written for this claim by hyb.py, a driver of this session's over the kit's printer.
namespace Go.Proofs.YtoiockmmlanimaaDoor.Hw
open Go.RowKit Go.Proofs.YtoiockmmlanimaaDoorW.PrintWords Go.Proofs.YtoiockmmlanimaaDoorW.PrintLast Go.Proofs.YtoiockmmlanimaaDoorW.PrintMore
attribute [local go_sem] max2_int min2_int max_two min_two max_three min_three max_four min_four   -- for this text's walks alone
set_option linter.unusedVariables false
set_option linter.unusedSimpArgs false

attribute [local go_sem high] eqA63
/-! ### stowagelaw14_PartsWhole: function 6 -/
mutual
def stowagelaw14_PartsWhole.l0 : Nat → List (S46) → List (S61) → Int → Int → Int → Int → Int → Bool → Int → ByteArray → List (S63) → Option (Bool)
 | 0, _, _, _, _, _, _, _, _, _, _, _ => none
 | k + 1, x0, x1, x2, x9, x10, x11, x201000, x201001, x201002, x201003, x201004 => if x11 < (x0.length : Int) then (stowagelaw14_PartsWhole.l1 k x0 x1 x2 x9 x10 x11 false 0 x201000 x201001 x201002 x201003 x201004) else ((stowagelaw14_awake.f k).bind fun t202 => (if t202 = true then (if x9 = x201002 then (if x10 = (x201004.length : Int) then ((chain_Check.f k x2 x201001 x201002 x201003 x201004).bind fun t203 => (if x2 ≥ 1 then (some ((t203 == 0) == (decide (x2 ≤ 1099511627776)))) else (some ((t203 == 0) == false)))) else (some false)) else (some false)) else (some false)))
def stowagelaw14_PartsWhole.l1 : Nat → List (S46) → List (S61) → Int → Int → Int → Int → Bool → Int → Int → Bool → Int → ByteArray → List (S63) → Option (Bool)
 | 0, _, _, _, _, _, _, _, _, _, _, _, _, _ => none
 | k + 1, x0, x1, x2, x9, x10, x11, x12, x13, x201000, x201001, x201002, x201003, x201004 => if x13 < (x1.length : Int) then (if x12 = true then (stowagelaw14_PartsWhole.l1 k x0 x1 x2 x9 x10 x11 true (wrap64 (x13 + 1)) x201000 x201001 x201002 x201003 x201004) else (if 0 ≤ x13 then (if 0 ≤ x11 then (if x11 < (x0.length : Int) then (stowagelaw14_PartsWhole.l1 k x0 x1 x2 x9 x10 x11 (((rd_T61 x1 x13).f0) == ((rd_T46 x0 x11).f0)) (wrap64 (x13 + 1)) x201000 x201001 x201002 x201003 x201004) else (none)) else (none)) else (none))) else (if x12 = true then (if 0 ≤ x11 then (if x11 < (x0.length : Int) then (stowagelaw14_PartsWhole.l2 k x0 x1 x2 (wrap64 (x9 + ((rd_T46 x0 x11).f1))) x10 x11 0 x201000 x201001 x201002 x201003 x201004) else (none)) else (none)) else (stowagelaw14_PartsWhole.l0 k x0 x1 x2 x9 x10 (wrap64 (x11 + 1)) x201000 x201001 x201002 x201003 x201004))
def stowagelaw14_PartsWhole.l2 : Nat → List (S46) → List (S61) → Int → Int → Int → Int → Int → Int → Bool → Int → ByteArray → List (S63) → Option (Bool)
 | 0, _, _, _, _, _, _, _, _, _, _, _, _ => none
 | k + 1, x0, x1, x2, x9, x10, x11, x14, x201000, x201001, x201002, x201003, x201004 => if 0 ≤ x11 then (if x11 < (x0.length : Int) then (if x14 < (((rd_T46 x0 x11).f3).length : Int) then (if x10 ≥ (x201004.length : Int) then (some false) else (if 0 ≤ x10 then (if x10 < (x201004.length : Int) then (if 0 ≤ x14 then (if (!((((rd_T63 x201004 x10).f0).toList) == (((rd_T63 ((rd_T46 x0 x11).f3) x14).f0).toList)) || (!(((rd_T63 x201004 x10).f1) == ((rd_T63 ((rd_T46 x0 x11).f3) x14).f1)))) = true then (some false) else (stowagelaw14_PartsWhole.l2 k x0 x1 x2 x9 (wrap64 (x10 + 1)) x11 (wrap64 (x14 + 1)) x201000 x201001 x201002 x201003 x201004)) else (none)) else (none)) else (none))) else (stowagelaw14_PartsWhole.l0 k x0 x1 x2 x9 x10 (wrap64 (x11 + 1)) x201000 x201001 x201002 x201003 x201004)) else (none)) else (none)
end
def stowagelaw14_PartsWhole.f (k : Nat) (l0 : List (S46)) (l1 : List (S61)) (a2 : Int) : Option (Bool) := (parts_Join.f k l0 l1).bind fun bt192 => (if bt192.2.2.2.2.2 = 0 then (stowagelaw14_PartsWhole.l0 k l0 l1 a2 0 0 0 bt192.1 bt192.2.1 bt192.2.2.1 bt192.2.2.2.1 bt192.2.2.2.2.1) else ((stowagelaw14_awake.f k).bind fun t201 => (if t201 = true then (if bt192.2.2.1 = 0 then (some ((bt192.2.2.2.2.1.length : Int) == 0)) else (some false)) else (some false))))
theorem stowagelaw14_PartsWhole.mono_l : ∀ k, (∀ y0 y1 y2 y3 y4 y5 y6 y7 y8 y9 y10, LeO (stowagelaw14_PartsWhole.l0 k y0 y1 y2 y3 y4 y5 y6 y7 y8 y9 y10) (stowagelaw14_PartsWhole.l0 (k + 1) y0 y1 y2 y3 y4 y5 y6 y7 y8 y9 y10)) ∧ (∀ y0 y1 y2 y3 y4 y5 y6 y7 y8 y9 y10 y11 y12, LeO (stowagelaw14_PartsWhole.l1 k y0 y1 y2 y3 y4 y5 y6 y7 y8 y9 y10 y11 y12) (stowagelaw14_PartsWhole.l1 (k + 1) y0 y1 y2 y3 y4 y5 y6 y7 y8 y9 y10 y11 y12)) ∧ (∀ y0 y1 y2 y3 y4 y5 y6 y7 y8 y9 y10 y11, LeO (stowagelaw14_PartsWhole.l2 k y0 y1 y2 y3 y4 y5 y6 y7 y8 y9 y10 y11) (stowagelaw14_PartsWhole.l2 (k + 1) y0 y1 y2 y3 y4 y5 y6 y7 y8 y9 y10 y11))
 | 0 => ⟨fun _ _ _ _ _ _ _ _ _ _ _ r h => by simp [stowagelaw14_PartsWhole.l0] at h, fun _ _ _ _ _ _ _ _ _ _ _ _ _ r h => by simp [stowagelaw14_PartsWhole.l1] at h, fun _ _ _ _ _ _ _ _ _ _ _ _ r h => by simp [stowagelaw14_PartsWhole.l2] at h⟩
 | k + 1 => by
  obtain ⟨ih0, ih1, ih2⟩ := stowagelaw14_PartsWhole.mono_l k
  refine ⟨?_, ?_, ?_⟩
  ·
   intro y0 y1 y2 y3 y4 y5 y6 y7 y8 y9 y10
   unfold stowagelaw14_PartsWhole.l0
   repeat' first
   | (with_reducible exact ih0 _ _ _ _ _ _ _ _ _ _ _)
   | (with_reducible exact ih1 _ _ _ _ _ _ _ _ _ _ _ _ _)
   | (with_reducible exact ih2 _ _ _ _ _ _ _ _ _ _ _ _)
   | (with_reducible exact chain_Check.mono _ _ _ _ _ _)
   | (with_reducible exact parts_Join.mono _ _ _)
   | (with_reducible exact stowagelaw14_awake.mono _)
   | (with_reducible exact LeO.refl _)
   | (with_reducible exact LeO.none _)
   | (with_reducible refine LeO.ite ?_ ?_)
   | (with_reducible refine LeO.bind ?_ (fun _ => ?_))
   | exact ih0 _ _ _ _ _ _ _ _ _ _ _
   | exact ih1 _ _ _ _ _ _ _ _ _ _ _ _ _
   | exact ih2 _ _ _ _ _ _ _ _ _ _ _ _
   | exact chain_Check.mono _ _ _ _ _ _
   | exact parts_Join.mono _ _ _
   | exact stowagelaw14_awake.mono _
   | exact LeO.none _
   | refine LeO.ite ?_ ?_
   | refine LeO.bind ?_ (fun _ => ?_)
  ·
   intro y0 y1 y2 y3 y4 y5 y6 y7 y8 y9 y10 y11 y12
   unfold stowagelaw14_PartsWhole.l1
   repeat' first
   | (with_reducible exact ih0 _ _ _ _ _ _ _ _ _ _ _)
   | (with_reducible exact ih1 _ _ _ _ _ _ _ _ _ _ _ _ _)
   | (with_reducible exact ih2 _ _ _ _ _ _ _ _ _ _ _ _)
   | (with_reducible exact chain_Check.mono _ _ _ _ _ _)
   | (with_reducible exact parts_Join.mono _ _ _)
   | (with_reducible exact stowagelaw14_awake.mono _)
   | (with_reducible exact LeO.refl _)
   | (with_reducible exact LeO.none _)
   | (with_reducible refine LeO.ite ?_ ?_)
   | (with_reducible refine LeO.bind ?_ (fun _ => ?_))
   | exact ih0 _ _ _ _ _ _ _ _ _ _ _
   | exact ih1 _ _ _ _ _ _ _ _ _ _ _ _ _
   | exact ih2 _ _ _ _ _ _ _ _ _ _ _ _
   | exact chain_Check.mono _ _ _ _ _ _
   | exact parts_Join.mono _ _ _
   | exact stowagelaw14_awake.mono _
   | exact LeO.none _
   | refine LeO.ite ?_ ?_
   | refine LeO.bind ?_ (fun _ => ?_)
  ·
   intro y0 y1 y2 y3 y4 y5 y6 y7 y8 y9 y10 y11
   unfold stowagelaw14_PartsWhole.l2
   repeat' first
   | (with_reducible exact ih0 _ _ _ _ _ _ _ _ _ _ _)
   | (with_reducible exact ih1 _ _ _ _ _ _ _ _ _ _ _ _ _)
   | (with_reducible exact ih2 _ _ _ _ _ _ _ _ _ _ _ _)
   | (with_reducible exact chain_Check.mono _ _ _ _ _ _)
   | (with_reducible exact parts_Join.mono _ _ _)
   | (with_reducible exact stowagelaw14_awake.mono _)
   | (with_reducible exact LeO.refl _)
   | (with_reducible exact LeO.none _)
   | (with_reducible refine LeO.ite ?_ ?_)
   | (with_reducible refine LeO.bind ?_ (fun _ => ?_))
   | exact ih0 _ _ _ _ _ _ _ _ _ _ _
   | exact ih1 _ _ _ _ _ _ _ _ _ _ _ _ _
   | exact ih2 _ _ _ _ _ _ _ _ _ _ _ _
   | exact chain_Check.mono _ _ _ _ _ _
   | exact parts_Join.mono _ _ _
   | exact stowagelaw14_awake.mono _
   | exact LeO.none _
   | refine LeO.ite ?_ ?_
   | refine LeO.bind ?_ (fun _ => ?_)
theorem stowagelaw14_PartsWhole.mono : ∀ a0 a1 a2 k, LeO (stowagelaw14_PartsWhole.f k a0 a1 a2) (stowagelaw14_PartsWhole.f (k + 1) a0 a1 a2) := by
 intro a0 a1 a2 k
 obtain ⟨ih0, ih1, ih2⟩ := stowagelaw14_PartsWhole.mono_l k
 unfold stowagelaw14_PartsWhole.f
 repeat' first
   | (with_reducible exact ih0 _ _ _ _ _ _ _ _ _ _ _)
   | (with_reducible exact ih1 _ _ _ _ _ _ _ _ _ _ _ _ _)
   | (with_reducible exact ih2 _ _ _ _ _ _ _ _ _ _ _ _)
   | (with_reducible exact chain_Check.mono _ _ _ _ _ _)
   | (with_reducible exact parts_Join.mono _ _ _)
   | (with_reducible exact stowagelaw14_awake.mono _)
   | (with_reducible exact LeO.refl _)
   | (with_reducible exact LeO.none _)
   | (with_reducible refine LeO.ite ?_ ?_)
   | (with_reducible refine LeO.bind ?_ (fun _ => ?_))
   | exact ih0 _ _ _ _ _ _ _ _ _ _ _
   | exact ih1 _ _ _ _ _ _ _ _ _ _ _ _ _
   | exact ih2 _ _ _ _ _ _ _ _ _ _ _ _
   | exact chain_Check.mono _ _ _ _ _ _
   | exact parts_Join.mono _ _ _
   | exact stowagelaw14_awake.mono _
   | exact LeO.none _
   | refine LeO.ite ?_ ?_
   | refine LeO.bind ?_ (fun _ => ?_)

end Go.Proofs.YtoiockmmlanimaaDoor.Hw
