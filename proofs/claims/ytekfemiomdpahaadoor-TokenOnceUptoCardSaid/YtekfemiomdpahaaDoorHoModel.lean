-- Written for this claim by hyb.py, a driver of this session's over the kit's printer.
import Derived.Test.YtekfemiomdpahaaDoorHo0
import Derived.Test.YtekfemiomdpahaaDoorHo6
import Derived.Test.YtekfemiomdpahaaDoorHo9
import Derived.Test.YtekfemiomdpahaaDoorHo11
import Derived.Test.YtekfemiomdpahaaDoorHo12
namespace Go.Proofs.YtekfemiomdpahaaDoor.Ho
open Go.RowKit Go.Proofs.YtekfemiomdpahaaDoorW.PrintWords Go.Proofs.YtekfemiomdpahaaDoorW.PrintLast Go.Proofs.YtekfemiomdpahaaDoorW.PrintMore
attribute [local go_sem] max2_int min2_int max_two min_two max_three min_three max_four min_four   -- for this text's walks alone
set_option linter.unusedVariables false
set_option linter.unusedSimpArgs false

/-! ### stowagelaw15_TokenOnce: function 5 -/
mutual
def stowagelaw15_TokenOnce.l0 : Nat → List (S31) → List Int → List (S31) → List (S31) → Int → Option (Bool)
  | 0, _, _, _, _, _ => none
  | k + 1, x0, x1, x5, x6, x7 => if x7 < (x0.length : Int) then (stowagelaw15_TokenOnce.j1 k x0 x1 x5 x6 x7 (decide (x7 < 120))) else (stowagelaw15_TokenOnce.j1 k x0 x1 x5 x6 x7 false)
def stowagelaw15_TokenOnce.j1 : Nat → List (S31) → List Int → List (S31) → List (S31) → Int → Bool → Option (Bool)
  | 0, _, _, _, _, _, _ => none
  | k + 1, x0, x1, x5, x6, x7, x28 => if x28 = true then (if 0 ≤ x7 then (if x7 < (x0.length : Int) then ((token_Note.f k x5 ((rd_T31 x0 x7).f0) ((rd_T31 x0 x7).f1) ((rd_T31 x0 x7).f2) ((rd_T31 x0 x7).f3)).bind fun bt132 => (stowagelaw15_TokenOnce.l1 k x0 x1 x5 x6 x7 bt132.1 bt132.2 false 0)) else (none)) else (none)) else (some true)
def stowagelaw15_TokenOnce.l1 : Nat → List (S31) → List Int → List (S31) → List (S31) → Int → List (S31) → Int → Bool → Int → Option (Bool)
  | 0, _, _, _, _, _, _, _, _, _ => none
  | k + 1, x0, x1, x5, x6, x7, x8, x9, x10, x11 => if x11 < (x6.length : Int) then (if x10 = true then (stowagelaw15_TokenOnce.l1 k x0 x1 x5 x6 x7 x8 x9 true (wrap64 (x11 + 1))) else (if 0 ≤ x11 then (if 0 ≤ x7 then (if x7 < (x0.length : Int) then (stowagelaw15_TokenOnce.l1 k x0 x1 x5 x6 x7 x8 x9 (((rd_T31 x6 x11).f0).toList == ((rd_T31 x0 x7).f0).toList) (wrap64 (x11 + 1))) else (none)) else (none)) else (none))) else (if x9 = 0 then (if x10 = true then (some false) else (if (x6.length : Int) ≥ 64 then (some false) else (if 0 ≤ x7 then (if x7 < (x0.length : Int) then (if x6.length < 2513169434916 then (stowagelaw15_TokenOnce.j3 k x0 x1 x8 (x6 ++ [(⟨(rd_T31 x0 x7).f0, (rd_T31 x0 x7).f1, (rd_T31 x0 x7).f2, (rd_T31 x0 x7).f3⟩ : S31)]) x7) else (none)) else (none)) else (none)))) else (if x10 = true then (if x9 = 71 then (if x9 = 131 then (if (x6.length : Int) < 64 then (some false) else (stowagelaw15_TokenOnce.j3 k x0 x1 x5 x6 x7)) else (stowagelaw15_TokenOnce.j3 k x0 x1 x5 x6 x7)) else (if x9 = 1 then (if x9 = 131 then (if (x6.length : Int) < 64 then (some false) else (stowagelaw15_TokenOnce.j3 k x0 x1 x5 x6 x7)) else (stowagelaw15_TokenOnce.j3 k x0 x1 x5 x6 x7)) else (some false))) else (if x9 = 71 then (some false) else (if x9 = 131 then (if (x6.length : Int) < 64 then (some false) else (stowagelaw15_TokenOnce.j3 k x0 x1 x5 x6 x7)) else (stowagelaw15_TokenOnce.j3 k x0 x1 x5 x6 x7)))))
def stowagelaw15_TokenOnce.j3 : Nat → List (S31) → List Int → List (S31) → List (S31) → Int → Option (Bool)
  | 0, _, _, _, _, _ => none
  | k + 1, x0, x1, x5, x6, x7 => if x7 < (x1.length : Int) then (if 0 ≤ x7 then (stowagelaw15_TokenOnce.j4 k x0 x1 x5 x6 x7 (decide ((rd x1 x7) > 0))) else (none)) else (stowagelaw15_TokenOnce.j4 k x0 x1 x5 x6 x7 false)
def stowagelaw15_TokenOnce.j4 : Nat → List (S31) → List Int → List (S31) → List (S31) → Int → Bool → Option (Bool)
  | 0, _, _, _, _, _, _ => none
  | k + 1, x0, x1, x5, x6, x7, x112 => if x112 = true then (if 0 ≤ x7 then (if x7 < (x1.length : Int) then ((token_Expire.f k x5 (rd x1 x7)).bind fun bt144 => (stowagelaw15_TokenOnce.l2 k x0 x1 bt144.1 x6 x7 ([] : List (S31)) 0)) else (none)) else (none)) else (stowagelaw15_TokenOnce.j6 k x0 x1 x5 x6 x7)
def stowagelaw15_TokenOnce.j6 : Nat → List (S31) → List Int → List (S31) → List (S31) → Int → Option (Bool)
  | 0, _, _, _, _, _ => none
  | k + 1, x0, x1, x5, x6, x7 => if (x5.length : Int) = (x6.length : Int) then (stowagelaw15_TokenOnce.l3 k x0 x1 x5 x6 x7 0) else (some false)
def stowagelaw15_TokenOnce.l3 : Nat → List (S31) → List Int → List (S31) → List (S31) → Int → Int → Option (Bool)
  | 0, _, _, _, _, _, _ => none
  | k + 1, x0, x1, x5, x6, x7, x14 => if x14 < (x6.length : Int) then (if 0 ≤ x14 then ((token_Look.f k x5 ((rd_T31 x6 x14).f0) ((rd_T31 x6 x14).f1)).bind fun bt156 => (if ((rd_T31 x6 x14).f1).size + 1 ≤ 9223372036854775807 then ((token_Look.f k x5 ((rd_T31 x6 x14).f0) (((rd_T31 x6 x14).f1) ++ (⟨#[48]⟩ : ByteArray))).bind fun bt160 => (if bt156.1 = 1 then (if bt156.2.toList = ((rd_T31 x6 x14).f2).toList then (if bt160.1 = 2 then (stowagelaw15_TokenOnce.l3 k x0 x1 x5 x6 x7 (wrap64 (x14 + 1))) else (some false)) else (some false)) else (some false))) else (none))) else (none)) else (stowagelaw15_TokenOnce.l0 k x0 x1 x5 x6 (wrap64 (x7 + 1)))
def stowagelaw15_TokenOnce.l2 : Nat → List (S31) → List Int → List (S31) → List (S31) → Int → List (S31) → Int → Option (Bool)
  | 0, _, _, _, _, _, _, _ => none
  | k + 1, x0, x1, x5, x6, x7, x12, x13 => if x13 < (x6.length : Int) then (if 0 ≤ x13 then (if 0 ≤ x7 then (if x7 < (x1.length : Int) then (if ((rd_T31 x6 x13).f3) > (rd x1 x7) then (if x12.length < 2513169434916 then (stowagelaw15_TokenOnce.l2 k x0 x1 x5 x6 x7 (x12 ++ [(⟨(rd_T31 x6 x13).f0, (rd_T31 x6 x13).f1, (rd_T31 x6 x13).f2, (rd_T31 x6 x13).f3⟩ : S31)]) (wrap64 (x13 + 1))) else (none)) else (stowagelaw15_TokenOnce.l2 k x0 x1 x5 x6 x7 x12 (wrap64 (x13 + 1)))) else (none)) else (none)) else (none)) else (stowagelaw15_TokenOnce.j6 k x0 x1 x5 x12 x7)
end
def stowagelaw15_TokenOnce.f (k : Nat) (l0 : List (S31)) (l1 : List Int) : Option (Bool) := (stowagelaw15_awake.f k).bind fun t130 => (if t130 = true then (stowagelaw15_TokenOnce.l0 k l0 l1 ([] : List (S31)) ([] : List (S31)) 0) else (some false))
theorem stowagelaw15_TokenOnce.mono_l : ∀ k, (∀ y0 y1 y2 y3 y4, LeO (stowagelaw15_TokenOnce.l0 k y0 y1 y2 y3 y4) (stowagelaw15_TokenOnce.l0 (k + 1) y0 y1 y2 y3 y4)) ∧ (∀ y0 y1 y2 y3 y4 y5, LeO (stowagelaw15_TokenOnce.j1 k y0 y1 y2 y3 y4 y5) (stowagelaw15_TokenOnce.j1 (k + 1) y0 y1 y2 y3 y4 y5)) ∧ (∀ y0 y1 y2 y3 y4 y5 y6 y7 y8, LeO (stowagelaw15_TokenOnce.l1 k y0 y1 y2 y3 y4 y5 y6 y7 y8) (stowagelaw15_TokenOnce.l1 (k + 1) y0 y1 y2 y3 y4 y5 y6 y7 y8)) ∧ (∀ y0 y1 y2 y3 y4, LeO (stowagelaw15_TokenOnce.j3 k y0 y1 y2 y3 y4) (stowagelaw15_TokenOnce.j3 (k + 1) y0 y1 y2 y3 y4)) ∧ (∀ y0 y1 y2 y3 y4 y5, LeO (stowagelaw15_TokenOnce.j4 k y0 y1 y2 y3 y4 y5) (stowagelaw15_TokenOnce.j4 (k + 1) y0 y1 y2 y3 y4 y5)) ∧ (∀ y0 y1 y2 y3 y4, LeO (stowagelaw15_TokenOnce.j6 k y0 y1 y2 y3 y4) (stowagelaw15_TokenOnce.j6 (k + 1) y0 y1 y2 y3 y4)) ∧ (∀ y0 y1 y2 y3 y4 y5, LeO (stowagelaw15_TokenOnce.l3 k y0 y1 y2 y3 y4 y5) (stowagelaw15_TokenOnce.l3 (k + 1) y0 y1 y2 y3 y4 y5)) ∧ (∀ y0 y1 y2 y3 y4 y5 y6, LeO (stowagelaw15_TokenOnce.l2 k y0 y1 y2 y3 y4 y5 y6) (stowagelaw15_TokenOnce.l2 (k + 1) y0 y1 y2 y3 y4 y5 y6))
  | 0 => ⟨fun _ _ _ _ _ r h => by simp [stowagelaw15_TokenOnce.l0] at h, fun _ _ _ _ _ _ r h => by simp [stowagelaw15_TokenOnce.j1] at h, fun _ _ _ _ _ _ _ _ _ r h => by simp [stowagelaw15_TokenOnce.l1] at h, fun _ _ _ _ _ r h => by simp [stowagelaw15_TokenOnce.j3] at h, fun _ _ _ _ _ _ r h => by simp [stowagelaw15_TokenOnce.j4] at h, fun _ _ _ _ _ r h => by simp [stowagelaw15_TokenOnce.j6] at h, fun _ _ _ _ _ _ r h => by simp [stowagelaw15_TokenOnce.l3] at h, fun _ _ _ _ _ _ _ r h => by simp [stowagelaw15_TokenOnce.l2] at h⟩
  | k + 1 => by
    obtain ⟨ih0, ih1, ih2, ih3, ih4, ih5, ih6, ih7⟩ := stowagelaw15_TokenOnce.mono_l k
    refine ⟨?_, ?_, ?_, ?_, ?_, ?_, ?_, ?_⟩
    · intro y0 y1 y2 y3 y4
      unfold stowagelaw15_TokenOnce.l0
      repeat' first
      | (with_reducible exact ih0 _ _ _ _ _)
      | (with_reducible exact ih1 _ _ _ _ _ _)
      | (with_reducible exact ih2 _ _ _ _ _ _ _ _ _)
      | (with_reducible exact ih3 _ _ _ _ _)
      | (with_reducible exact ih4 _ _ _ _ _ _)
      | (with_reducible exact ih5 _ _ _ _ _)
      | (with_reducible exact ih6 _ _ _ _ _ _)
      | (with_reducible exact ih7 _ _ _ _ _ _ _)
      | (with_reducible exact stowagelaw15_awake.mono _)
      | (with_reducible exact token_Expire.mono _ _ _)
      | (with_reducible exact token_Look.mono _ _ _ _)
      | (with_reducible exact token_Note.mono _ _ _ _ _ _)
      | (with_reducible exact LeO.refl _)
      | (with_reducible exact LeO.none _)
      | (with_reducible refine LeO.ite ?_ ?_)
      | (with_reducible refine LeO.bind ?_ (fun _ => ?_))
      | exact ih0 _ _ _ _ _
      | exact ih1 _ _ _ _ _ _
      | exact ih2 _ _ _ _ _ _ _ _ _
      | exact ih3 _ _ _ _ _
      | exact ih4 _ _ _ _ _ _
      | exact ih5 _ _ _ _ _
      | exact ih6 _ _ _ _ _ _
      | exact ih7 _ _ _ _ _ _ _
      | exact stowagelaw15_awake.mono _
      | exact token_Expire.mono _ _ _
      | exact token_Look.mono _ _ _ _
      | exact token_Note.mono _ _ _ _ _ _
      | exact LeO.none _
      | refine LeO.ite ?_ ?_
      | refine LeO.bind ?_ (fun _ => ?_)
    · intro y0 y1 y2 y3 y4 y5
      unfold stowagelaw15_TokenOnce.j1
      repeat' first
      | (with_reducible exact ih0 _ _ _ _ _)
      | (with_reducible exact ih1 _ _ _ _ _ _)
      | (with_reducible exact ih2 _ _ _ _ _ _ _ _ _)
      | (with_reducible exact ih3 _ _ _ _ _)
      | (with_reducible exact ih4 _ _ _ _ _ _)
      | (with_reducible exact ih5 _ _ _ _ _)
      | (with_reducible exact ih6 _ _ _ _ _ _)
      | (with_reducible exact ih7 _ _ _ _ _ _ _)
      | (with_reducible exact stowagelaw15_awake.mono _)
      | (with_reducible exact token_Expire.mono _ _ _)
      | (with_reducible exact token_Look.mono _ _ _ _)
      | (with_reducible exact token_Note.mono _ _ _ _ _ _)
      | (with_reducible exact LeO.refl _)
      | (with_reducible exact LeO.none _)
      | (with_reducible refine LeO.ite ?_ ?_)
      | (with_reducible refine LeO.bind ?_ (fun _ => ?_))
      | exact ih0 _ _ _ _ _
      | exact ih1 _ _ _ _ _ _
      | exact ih2 _ _ _ _ _ _ _ _ _
      | exact ih3 _ _ _ _ _
      | exact ih4 _ _ _ _ _ _
      | exact ih5 _ _ _ _ _
      | exact ih6 _ _ _ _ _ _
      | exact ih7 _ _ _ _ _ _ _
      | exact stowagelaw15_awake.mono _
      | exact token_Expire.mono _ _ _
      | exact token_Look.mono _ _ _ _
      | exact token_Note.mono _ _ _ _ _ _
      | exact LeO.none _
      | refine LeO.ite ?_ ?_
      | refine LeO.bind ?_ (fun _ => ?_)
    · intro y0 y1 y2 y3 y4 y5 y6 y7 y8
      unfold stowagelaw15_TokenOnce.l1
      repeat' first
      | (with_reducible exact ih0 _ _ _ _ _)
      | (with_reducible exact ih1 _ _ _ _ _ _)
      | (with_reducible exact ih2 _ _ _ _ _ _ _ _ _)
      | (with_reducible exact ih3 _ _ _ _ _)
      | (with_reducible exact ih4 _ _ _ _ _ _)
      | (with_reducible exact ih5 _ _ _ _ _)
      | (with_reducible exact ih6 _ _ _ _ _ _)
      | (with_reducible exact ih7 _ _ _ _ _ _ _)
      | (with_reducible exact stowagelaw15_awake.mono _)
      | (with_reducible exact token_Expire.mono _ _ _)
      | (with_reducible exact token_Look.mono _ _ _ _)
      | (with_reducible exact token_Note.mono _ _ _ _ _ _)
      | (with_reducible exact LeO.refl _)
      | (with_reducible exact LeO.none _)
      | (with_reducible refine LeO.ite ?_ ?_)
      | (with_reducible refine LeO.bind ?_ (fun _ => ?_))
      | exact ih0 _ _ _ _ _
      | exact ih1 _ _ _ _ _ _
      | exact ih2 _ _ _ _ _ _ _ _ _
      | exact ih3 _ _ _ _ _
      | exact ih4 _ _ _ _ _ _
      | exact ih5 _ _ _ _ _
      | exact ih6 _ _ _ _ _ _
      | exact ih7 _ _ _ _ _ _ _
      | exact stowagelaw15_awake.mono _
      | exact token_Expire.mono _ _ _
      | exact token_Look.mono _ _ _ _
      | exact token_Note.mono _ _ _ _ _ _
      | exact LeO.none _
      | refine LeO.ite ?_ ?_
      | refine LeO.bind ?_ (fun _ => ?_)
    · intro y0 y1 y2 y3 y4
      unfold stowagelaw15_TokenOnce.j3
      repeat' first
      | (with_reducible exact ih0 _ _ _ _ _)
      | (with_reducible exact ih1 _ _ _ _ _ _)
      | (with_reducible exact ih2 _ _ _ _ _ _ _ _ _)
      | (with_reducible exact ih3 _ _ _ _ _)
      | (with_reducible exact ih4 _ _ _ _ _ _)
      | (with_reducible exact ih5 _ _ _ _ _)
      | (with_reducible exact ih6 _ _ _ _ _ _)
      | (with_reducible exact ih7 _ _ _ _ _ _ _)
      | (with_reducible exact stowagelaw15_awake.mono _)
      | (with_reducible exact token_Expire.mono _ _ _)
      | (with_reducible exact token_Look.mono _ _ _ _)
      | (with_reducible exact token_Note.mono _ _ _ _ _ _)
      | (with_reducible exact LeO.refl _)
      | (with_reducible exact LeO.none _)
      | (with_reducible refine LeO.ite ?_ ?_)
      | (with_reducible refine LeO.bind ?_ (fun _ => ?_))
      | exact ih0 _ _ _ _ _
      | exact ih1 _ _ _ _ _ _
      | exact ih2 _ _ _ _ _ _ _ _ _
      | exact ih3 _ _ _ _ _
      | exact ih4 _ _ _ _ _ _
      | exact ih5 _ _ _ _ _
      | exact ih6 _ _ _ _ _ _
      | exact ih7 _ _ _ _ _ _ _
      | exact stowagelaw15_awake.mono _
      | exact token_Expire.mono _ _ _
      | exact token_Look.mono _ _ _ _
      | exact token_Note.mono _ _ _ _ _ _
      | exact LeO.none _
      | refine LeO.ite ?_ ?_
      | refine LeO.bind ?_ (fun _ => ?_)
    · intro y0 y1 y2 y3 y4 y5
      unfold stowagelaw15_TokenOnce.j4
      repeat' first
      | (with_reducible exact ih0 _ _ _ _ _)
      | (with_reducible exact ih1 _ _ _ _ _ _)
      | (with_reducible exact ih2 _ _ _ _ _ _ _ _ _)
      | (with_reducible exact ih3 _ _ _ _ _)
      | (with_reducible exact ih4 _ _ _ _ _ _)
      | (with_reducible exact ih5 _ _ _ _ _)
      | (with_reducible exact ih6 _ _ _ _ _ _)
      | (with_reducible exact ih7 _ _ _ _ _ _ _)
      | (with_reducible exact stowagelaw15_awake.mono _)
      | (with_reducible exact token_Expire.mono _ _ _)
      | (with_reducible exact token_Look.mono _ _ _ _)
      | (with_reducible exact token_Note.mono _ _ _ _ _ _)
      | (with_reducible exact LeO.refl _)
      | (with_reducible exact LeO.none _)
      | (with_reducible refine LeO.ite ?_ ?_)
      | (with_reducible refine LeO.bind ?_ (fun _ => ?_))
      | exact ih0 _ _ _ _ _
      | exact ih1 _ _ _ _ _ _
      | exact ih2 _ _ _ _ _ _ _ _ _
      | exact ih3 _ _ _ _ _
      | exact ih4 _ _ _ _ _ _
      | exact ih5 _ _ _ _ _
      | exact ih6 _ _ _ _ _ _
      | exact ih7 _ _ _ _ _ _ _
      | exact stowagelaw15_awake.mono _
      | exact token_Expire.mono _ _ _
      | exact token_Look.mono _ _ _ _
      | exact token_Note.mono _ _ _ _ _ _
      | exact LeO.none _
      | refine LeO.ite ?_ ?_
      | refine LeO.bind ?_ (fun _ => ?_)
    · intro y0 y1 y2 y3 y4
      unfold stowagelaw15_TokenOnce.j6
      repeat' first
      | (with_reducible exact ih0 _ _ _ _ _)
      | (with_reducible exact ih1 _ _ _ _ _ _)
      | (with_reducible exact ih2 _ _ _ _ _ _ _ _ _)
      | (with_reducible exact ih3 _ _ _ _ _)
      | (with_reducible exact ih4 _ _ _ _ _ _)
      | (with_reducible exact ih5 _ _ _ _ _)
      | (with_reducible exact ih6 _ _ _ _ _ _)
      | (with_reducible exact ih7 _ _ _ _ _ _ _)
      | (with_reducible exact stowagelaw15_awake.mono _)
      | (with_reducible exact token_Expire.mono _ _ _)
      | (with_reducible exact token_Look.mono _ _ _ _)
      | (with_reducible exact token_Note.mono _ _ _ _ _ _)
      | (with_reducible exact LeO.refl _)
      | (with_reducible exact LeO.none _)
      | (with_reducible refine LeO.ite ?_ ?_)
      | (with_reducible refine LeO.bind ?_ (fun _ => ?_))
      | exact ih0 _ _ _ _ _
      | exact ih1 _ _ _ _ _ _
      | exact ih2 _ _ _ _ _ _ _ _ _
      | exact ih3 _ _ _ _ _
      | exact ih4 _ _ _ _ _ _
      | exact ih5 _ _ _ _ _
      | exact ih6 _ _ _ _ _ _
      | exact ih7 _ _ _ _ _ _ _
      | exact stowagelaw15_awake.mono _
      | exact token_Expire.mono _ _ _
      | exact token_Look.mono _ _ _ _
      | exact token_Note.mono _ _ _ _ _ _
      | exact LeO.none _
      | refine LeO.ite ?_ ?_
      | refine LeO.bind ?_ (fun _ => ?_)
    · intro y0 y1 y2 y3 y4 y5
      unfold stowagelaw15_TokenOnce.l3
      repeat' first
      | (with_reducible exact ih0 _ _ _ _ _)
      | (with_reducible exact ih1 _ _ _ _ _ _)
      | (with_reducible exact ih2 _ _ _ _ _ _ _ _ _)
      | (with_reducible exact ih3 _ _ _ _ _)
      | (with_reducible exact ih4 _ _ _ _ _ _)
      | (with_reducible exact ih5 _ _ _ _ _)
      | (with_reducible exact ih6 _ _ _ _ _ _)
      | (with_reducible exact ih7 _ _ _ _ _ _ _)
      | (with_reducible exact stowagelaw15_awake.mono _)
      | (with_reducible exact token_Expire.mono _ _ _)
      | (with_reducible exact token_Look.mono _ _ _ _)
      | (with_reducible exact token_Note.mono _ _ _ _ _ _)
      | (with_reducible exact LeO.refl _)
      | (with_reducible exact LeO.none _)
      | (with_reducible refine LeO.ite ?_ ?_)
      | (with_reducible refine LeO.bind ?_ (fun _ => ?_))
      | exact ih0 _ _ _ _ _
      | exact ih1 _ _ _ _ _ _
      | exact ih2 _ _ _ _ _ _ _ _ _
      | exact ih3 _ _ _ _ _
      | exact ih4 _ _ _ _ _ _
      | exact ih5 _ _ _ _ _
      | exact ih6 _ _ _ _ _ _
      | exact ih7 _ _ _ _ _ _ _
      | exact stowagelaw15_awake.mono _
      | exact token_Expire.mono _ _ _
      | exact token_Look.mono _ _ _ _
      | exact token_Note.mono _ _ _ _ _ _
      | exact LeO.none _
      | refine LeO.ite ?_ ?_
      | refine LeO.bind ?_ (fun _ => ?_)
    · intro y0 y1 y2 y3 y4 y5 y6
      unfold stowagelaw15_TokenOnce.l2
      repeat' first
      | (with_reducible exact ih0 _ _ _ _ _)
      | (with_reducible exact ih1 _ _ _ _ _ _)
      | (with_reducible exact ih2 _ _ _ _ _ _ _ _ _)
      | (with_reducible exact ih3 _ _ _ _ _)
      | (with_reducible exact ih4 _ _ _ _ _ _)
      | (with_reducible exact ih5 _ _ _ _ _)
      | (with_reducible exact ih6 _ _ _ _ _ _)
      | (with_reducible exact ih7 _ _ _ _ _ _ _)
      | (with_reducible exact stowagelaw15_awake.mono _)
      | (with_reducible exact token_Expire.mono _ _ _)
      | (with_reducible exact token_Look.mono _ _ _ _)
      | (with_reducible exact token_Note.mono _ _ _ _ _ _)
      | (with_reducible exact LeO.refl _)
      | (with_reducible exact LeO.none _)
      | (with_reducible refine LeO.ite ?_ ?_)
      | (with_reducible refine LeO.bind ?_ (fun _ => ?_))
      | exact ih0 _ _ _ _ _
      | exact ih1 _ _ _ _ _ _
      | exact ih2 _ _ _ _ _ _ _ _ _
      | exact ih3 _ _ _ _ _
      | exact ih4 _ _ _ _ _ _
      | exact ih5 _ _ _ _ _
      | exact ih6 _ _ _ _ _ _
      | exact ih7 _ _ _ _ _ _ _
      | exact stowagelaw15_awake.mono _
      | exact token_Expire.mono _ _ _
      | exact token_Look.mono _ _ _ _
      | exact token_Note.mono _ _ _ _ _ _
      | exact LeO.none _
      | refine LeO.ite ?_ ?_
      | refine LeO.bind ?_ (fun _ => ?_)
theorem stowagelaw15_TokenOnce.mono : ∀ a0 a1 k, LeO (stowagelaw15_TokenOnce.f k a0 a1) (stowagelaw15_TokenOnce.f (k + 1) a0 a1) := by
  intro a0 a1 k
  obtain ⟨ih0, ih1, ih2, ih3, ih4, ih5, ih6, ih7⟩ := stowagelaw15_TokenOnce.mono_l k
  unfold stowagelaw15_TokenOnce.f
  repeat' first
      | (with_reducible exact ih0 _ _ _ _ _)
      | (with_reducible exact ih1 _ _ _ _ _ _)
      | (with_reducible exact ih2 _ _ _ _ _ _ _ _ _)
      | (with_reducible exact ih3 _ _ _ _ _)
      | (with_reducible exact ih4 _ _ _ _ _ _)
      | (with_reducible exact ih5 _ _ _ _ _)
      | (with_reducible exact ih6 _ _ _ _ _ _)
      | (with_reducible exact ih7 _ _ _ _ _ _ _)
      | (with_reducible exact stowagelaw15_awake.mono _)
      | (with_reducible exact token_Expire.mono _ _ _)
      | (with_reducible exact token_Look.mono _ _ _ _)
      | (with_reducible exact token_Note.mono _ _ _ _ _ _)
      | (with_reducible exact LeO.refl _)
      | (with_reducible exact LeO.none _)
      | (with_reducible refine LeO.ite ?_ ?_)
      | (with_reducible refine LeO.bind ?_ (fun _ => ?_))
      | exact ih0 _ _ _ _ _
      | exact ih1 _ _ _ _ _ _
      | exact ih2 _ _ _ _ _ _ _ _ _
      | exact ih3 _ _ _ _ _
      | exact ih4 _ _ _ _ _ _
      | exact ih5 _ _ _ _ _
      | exact ih6 _ _ _ _ _ _
      | exact ih7 _ _ _ _ _ _ _
      | exact stowagelaw15_awake.mono _
      | exact token_Expire.mono _ _ _
      | exact token_Look.mono _ _ _ _
      | exact token_Note.mono _ _ _ _ _ _
      | exact LeO.none _
      | refine LeO.ite ?_ ?_
      | refine LeO.bind ?_ (fun _ => ?_)

end Go.Proofs.YtekfemiomdpahaaDoor.Ho
