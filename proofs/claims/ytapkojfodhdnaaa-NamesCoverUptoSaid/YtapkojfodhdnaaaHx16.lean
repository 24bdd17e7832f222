-- Written for this claim by hyb.py, a driver of this session's over the kit's printer.
import Derived.Test.YtapkojfodhdnaaaHx0
import Derived.Test.YtapkojfodhdnaaaHx6
import Derived.Test.YtapkojfodhdnaaaHx9
namespace Go.Proofs.Ytapkojfodhdnaaa.Hx
open Go.RowKit Go.Proofs.YtapkojfodhdnaaaW.PrintWords Go.Proofs.YtapkojfodhdnaaaW.PrintLast Go.Proofs.YtapkojfodhdnaaaW.PrintMore
attribute [local go_sem] max2_int min2_int max_two min_two max_three min_three max_four min_four   -- for this text's walks alone
set_option linter.unusedVariables false
set_option linter.unusedSimpArgs false

/-! ### stowagelaw12_NamesCover: function 6 -/
mutual
def stowagelaw12_NamesCover.l0 : Nat → List ByteArray → ByteArray → ByteArray → List (S38) → Int → Option (Bool)
  | 0, _, _, _, _, _ => none
  | k + 1, x0, x1, x2, x7, x9 => if x9 < (x0.length : Int) then (if 0 ≤ x9 then (if ((rdOf ByteArray.empty x0 x9).size : Int) < (x1.size : Int) then (stowagelaw12_NamesCover.j1 k x0 x1 x2 x7 x9 (rdOf ByteArray.empty x0 x9) true) else (if 0 ≤ (x1.size : Int) then (if (x1.size : Int) ≤ ((rdOf ByteArray.empty x0 x9).size : Int) then (if ((rdOf ByteArray.empty x0 x9).extract 0 ((x1.size : Int) : Int).toNat).toList = x1.toList then (stowagelaw12_NamesCover.j1 k x0 x1 x2 x7 x9 (rdOf ByteArray.empty x0 x9) ((rdOf ByteArray.empty x0 x9).toList == ([] : List UInt8))) else (stowagelaw12_NamesCover.j1 k x0 x1 x2 x7 x9 (rdOf ByteArray.empty x0 x9) true)) else (none)) else (none))) else (none)) else (stowagelaw12_NamesCover.l2 k x0 x1 x2 x7 0)
def stowagelaw12_NamesCover.j1 : Nat → List ByteArray → ByteArray → ByteArray → List (S38) → Int → ByteArray → Bool → Option (Bool)
  | 0, _, _, _, _, _, _, _ => none
  | k + 1, x0, x1, x2, x7, x9, x10, x11 => stowagelaw12_NamesCover.l1 k x0 x1 x2 x7 x9 x10 x11 0
def stowagelaw12_NamesCover.l1 : Nat → List ByteArray → ByteArray → ByteArray → List (S38) → Int → ByteArray → Bool → Int → Option (Bool)
  | 0, _, _, _, _, _, _, _, _ => none
  | k + 1, x0, x1, x2, x7, x9, x10, x11, x12 => if x12 < (x7.length : Int) then (if 0 ≤ x12 then (if x11 = true then (stowagelaw12_NamesCover.l1 k x0 x1 x2 x7 x9 x10 true (wrap64 (x12 + 1))) else (if ((rd_T38 x7 x12).f1 = true) then (if (rd_T38 x7 x12).f1 = true then (if (((rd_T38 x7 x12).f0).size : Int) ≤ (x10.size : Int) then (if 0 ≤ (((rd_T38 x7 x12).f0).size : Int) then (stowagelaw12_NamesCover.l1 k x0 x1 x2 x7 x9 x10 ((x10.extract 0 ((((rd_T38 x7 x12).f0).size : Int) : Int).toNat).toList == ((rd_T38 x7 x12).f0).toList) (wrap64 (x12 + 1))) else (none)) else (stowagelaw12_NamesCover.l1 k x0 x1 x2 x7 x9 x10 false (wrap64 (x12 + 1)))) else (stowagelaw12_NamesCover.l1 k x0 x1 x2 x7 x9 x10 false (wrap64 (x12 + 1)))) else (if ((rd_T38 x7 x12).f0).toList = x10.toList then (stowagelaw12_NamesCover.l1 k x0 x1 x2 x7 x9 x10 true (wrap64 (x12 + 1))) else (if (rd_T38 x7 x12).f1 = true then (if (((rd_T38 x7 x12).f0).size : Int) ≤ (x10.size : Int) then (if 0 ≤ (((rd_T38 x7 x12).f0).size : Int) then (stowagelaw12_NamesCover.l1 k x0 x1 x2 x7 x9 x10 ((x10.extract 0 ((((rd_T38 x7 x12).f0).size : Int) : Int).toNat).toList == ((rd_T38 x7 x12).f0).toList) (wrap64 (x12 + 1))) else (none)) else (stowagelaw12_NamesCover.l1 k x0 x1 x2 x7 x9 x10 false (wrap64 (x12 + 1)))) else (stowagelaw12_NamesCover.l1 k x0 x1 x2 x7 x9 x10 false (wrap64 (x12 + 1))))))) else (none)) else (if x11 = true then (stowagelaw12_NamesCover.l0 k x0 x1 x2 x7 (wrap64 (x9 + 1))) else (some false))
def stowagelaw12_NamesCover.l2 : Nat → List ByteArray → ByteArray → ByteArray → List (S38) → Int → Option (Bool)
  | 0, _, _, _, _, _ => none
  | k + 1, x0, x1, x2, x7, x14 => if x14 < (x7.length : Int) then (if 0 ≤ x14 then (stowagelaw12_NamesCover.l3 k x0 x1 x2 x7 x14 ((rd_T38 x7 x14).f0) false 0) else (none)) else ((stowagelaw12_awake.f k).bind fun t255 => (some t255))
def stowagelaw12_NamesCover.l3 : Nat → List ByteArray → ByteArray → ByteArray → List (S38) → Int → ByteArray → Bool → Int → Option (Bool)
  | 0, _, _, _, _, _, _, _, _ => none
  | k + 1, x0, x1, x2, x7, x14, x15, x16, x17 => if x17 < (x0.length : Int) then (if x16 = true then (stowagelaw12_NamesCover.l3 k x0 x1 x2 x7 x14 x15 true (wrap64 (x17 + 1))) else (if 0 ≤ x17 then (if (rdOf ByteArray.empty x0 x17).toList = x15.toList then (stowagelaw12_NamesCover.l3 k x0 x1 x2 x7 x14 x15 true (wrap64 (x17 + 1))) else (if 0 ≤ x14 then (if x14 < (x7.length : Int) then (if (rd_T38 x7 x14).f1 = true then (if ((rdOf ByteArray.empty x0 x17).size : Int) ≥ (x15.size : Int) then (if 0 ≤ (x15.size : Int) then (if (x15.size : Int) ≤ ((rdOf ByteArray.empty x0 x17).size : Int) then (stowagelaw12_NamesCover.l3 k x0 x1 x2 x7 x14 x15 (((rdOf ByteArray.empty x0 x17).extract 0 ((x15.size : Int) : Int).toNat).toList == x15.toList) (wrap64 (x17 + 1))) else (none)) else (none)) else (stowagelaw12_NamesCover.l3 k x0 x1 x2 x7 x14 x15 false (wrap64 (x17 + 1)))) else (stowagelaw12_NamesCover.l3 k x0 x1 x2 x7 x14 x15 false (wrap64 (x17 + 1)))) else (none)) else (none))) else (none))) else (if x16 = true then (if (x15.size : Int) < (x1.size : Int) then (some false) else (if 0 ≤ (x1.size : Int) then (if (x1.size : Int) ≤ (x15.size : Int) then (if (x15.extract 0 ((x1.size : Int) : Int).toNat).toList = x1.toList then (if 0 ≤ x14 then (if x14 < (x7.length : Int) then (if x2.toList = ([] : List UInt8) then (if (((rd_T38 x7 x14).f1) != false) = true then (some false) else (stowagelaw12_NamesCover.l2 k x0 x1 x2 x7 (wrap64 (x14 + 1)))) else (if (x15.size : Int) ≥ (wrap64 ((x1.size : Int) + (x2.size : Int))) then (if 0 ≤ (wrap64 ((x15.size : Int) - (x2.size : Int))) then (if (wrap64 ((x15.size : Int) - (x2.size : Int))) ≤ (x15.size : Int) then (if (((rd_T38 x7 x14).f1) != ((x15.extract ((wrap64 ((x15.size : Int) - (x2.size : Int))) : Int).toNat x15.size).toList == x2.toList)) = true then (some false) else (stowagelaw12_NamesCover.l2 k x0 x1 x2 x7 (wrap64 (x14 + 1)))) else (none)) else (none)) else (if (((rd_T38 x7 x14).f1) != false) = true then (some false) else (stowagelaw12_NamesCover.l2 k x0 x1 x2 x7 (wrap64 (x14 + 1)))))) else (none)) else (none)) else (some false)) else (none)) else (none))) else (some false))
end
def stowagelaw12_NamesCover.f (k : Nat) (l0 : List ByteArray) (a1 : ByteArray) (a2 : ByteArray) : Option (Bool) := if (l0.length : Int) > 100 then ((stowagelaw12_awake.f k).bind fun t245 => (some t245)) else ((names_Fold.f l0 a1 a2 (⟨#[]⟩ : ByteArray) (wrap64 ((l0.length : Int) + 1))).bind fun bt246 => (if bt246.2 = true then (some false) else (stowagelaw12_NamesCover.l0 k l0 a1 a2 bt246.1 0)))
theorem stowagelaw12_NamesCover.mono_l : ∀ k, (∀ y0 y1 y2 y3 y4, LeO (stowagelaw12_NamesCover.l0 k y0 y1 y2 y3 y4) (stowagelaw12_NamesCover.l0 (k + 1) y0 y1 y2 y3 y4)) ∧ (∀ y0 y1 y2 y3 y4 y5 y6, LeO (stowagelaw12_NamesCover.j1 k y0 y1 y2 y3 y4 y5 y6) (stowagelaw12_NamesCover.j1 (k + 1) y0 y1 y2 y3 y4 y5 y6)) ∧ (∀ y0 y1 y2 y3 y4 y5 y6 y7, LeO (stowagelaw12_NamesCover.l1 k y0 y1 y2 y3 y4 y5 y6 y7) (stowagelaw12_NamesCover.l1 (k + 1) y0 y1 y2 y3 y4 y5 y6 y7)) ∧ (∀ y0 y1 y2 y3 y4, LeO (stowagelaw12_NamesCover.l2 k y0 y1 y2 y3 y4) (stowagelaw12_NamesCover.l2 (k + 1) y0 y1 y2 y3 y4)) ∧ (∀ y0 y1 y2 y3 y4 y5 y6 y7, LeO (stowagelaw12_NamesCover.l3 k y0 y1 y2 y3 y4 y5 y6 y7) (stowagelaw12_NamesCover.l3 (k + 1) y0 y1 y2 y3 y4 y5 y6 y7))
  | 0 => ⟨fun _ _ _ _ _ r h => by simp [stowagelaw12_NamesCover.l0] at h, fun _ _ _ _ _ _ _ r h => by simp [stowagelaw12_NamesCover.j1] at h, fun _ _ _ _ _ _ _ _ r h => by simp [stowagelaw12_NamesCover.l1] at h, fun _ _ _ _ _ r h => by simp [stowagelaw12_NamesCover.l2] at h, fun _ _ _ _ _ _ _ _ r h => by simp [stowagelaw12_NamesCover.l3] at h⟩
  | k + 1 => by
    obtain ⟨ih0, ih1, ih2, ih3, ih4⟩ := stowagelaw12_NamesCover.mono_l k
    refine ⟨?_, ?_, ?_, ?_, ?_⟩
    · intro y0 y1 y2 y3 y4
      unfold stowagelaw12_NamesCover.l0
      repeat' first
      | (with_reducible exact ih0 _ _ _ _ _)
      | (with_reducible exact ih1 _ _ _ _ _ _ _)
      | (with_reducible exact ih2 _ _ _ _ _ _ _ _)
      | (with_reducible exact ih3 _ _ _ _ _)
      | (with_reducible exact ih4 _ _ _ _ _ _ _ _)
      | (with_reducible exact stowagelaw12_awake.mono _)
      | (with_reducible exact LeO.refl _)
      | (with_reducible exact LeO.none _)
      | (with_reducible refine LeO.ite ?_ ?_)
      | (with_reducible refine LeO.bind ?_ (fun _ => ?_))
      | exact ih0 _ _ _ _ _
      | exact ih1 _ _ _ _ _ _ _
      | exact ih2 _ _ _ _ _ _ _ _
      | exact ih3 _ _ _ _ _
      | exact ih4 _ _ _ _ _ _ _ _
      | exact stowagelaw12_awake.mono _
      | exact LeO.none _
      | refine LeO.ite ?_ ?_
      | refine LeO.bind ?_ (fun _ => ?_)
    · intro y0 y1 y2 y3 y4 y5 y6
      unfold stowagelaw12_NamesCover.j1
      repeat' first
      | (with_reducible exact ih0 _ _ _ _ _)
      | (with_reducible exact ih1 _ _ _ _ _ _ _)
      | (with_reducible exact ih2 _ _ _ _ _ _ _ _)
      | (with_reducible exact ih3 _ _ _ _ _)
      | (with_reducible exact ih4 _ _ _ _ _ _ _ _)
      | (with_reducible exact stowagelaw12_awake.mono _)
      | (with_reducible exact LeO.refl _)
      | (with_reducible exact LeO.none _)
      | (with_reducible refine LeO.ite ?_ ?_)
      | (with_reducible refine LeO.bind ?_ (fun _ => ?_))
      | exact ih0 _ _ _ _ _
      | exact ih1 _ _ _ _ _ _ _
      | exact ih2 _ _ _ _ _ _ _ _
      | exact ih3 _ _ _ _ _
      | exact ih4 _ _ _ _ _ _ _ _
      | exact stowagelaw12_awake.mono _
      | exact LeO.none _
      | refine LeO.ite ?_ ?_
      | refine LeO.bind ?_ (fun _ => ?_)
    · intro y0 y1 y2 y3 y4 y5 y6 y7
      unfold stowagelaw12_NamesCover.l1
      repeat' first
      | (with_reducible exact ih0 _ _ _ _ _)
      | (with_reducible exact ih1 _ _ _ _ _ _ _)
      | (with_reducible exact ih2 _ _ _ _ _ _ _ _)
      | (with_reducible exact ih3 _ _ _ _ _)
      | (with_reducible exact ih4 _ _ _ _ _ _ _ _)
      | (with_reducible exact stowagelaw12_awake.mono _)
      | (with_reducible exact LeO.refl _)
      | (with_reducible exact LeO.none _)
      | (with_reducible refine LeO.ite ?_ ?_)
      | (with_reducible refine LeO.bind ?_ (fun _ => ?_))
      | exact ih0 _ _ _ _ _
      | exact ih1 _ _ _ _ _ _ _
      | exact ih2 _ _ _ _ _ _ _ _
      | exact ih3 _ _ _ _ _
      | exact ih4 _ _ _ _ _ _ _ _
      | exact stowagelaw12_awake.mono _
      | exact LeO.none _
      | refine LeO.ite ?_ ?_
      | refine LeO.bind ?_ (fun _ => ?_)
    · intro y0 y1 y2 y3 y4
      unfold stowagelaw12_NamesCover.l2
      repeat' first
      | (with_reducible exact ih0 _ _ _ _ _)
      | (with_reducible exact ih1 _ _ _ _ _ _ _)
      | (with_reducible exact ih2 _ _ _ _ _ _ _ _)
      | (with_reducible exact ih3 _ _ _ _ _)
      | (with_reducible exact ih4 _ _ _ _ _ _ _ _)
      | (with_reducible exact stowagelaw12_awake.mono _)
      | (with_reducible exact LeO.refl _)
      | (with_reducible exact LeO.none _)
      | (with_reducible refine LeO.ite ?_ ?_)
      | (with_reducible refine LeO.bind ?_ (fun _ => ?_))
      | exact ih0 _ _ _ _ _
      | exact ih1 _ _ _ _ _ _ _
      | exact ih2 _ _ _ _ _ _ _ _
      | exact ih3 _ _ _ _ _
      | exact ih4 _ _ _ _ _ _ _ _
      | exact stowagelaw12_awake.mono _
      | exact LeO.none _
      | refine LeO.ite ?_ ?_
      | refine LeO.bind ?_ (fun _ => ?_)
    · intro y0 y1 y2 y3 y4 y5 y6 y7
      unfold stowagelaw12_NamesCover.l3
      repeat' first
      | (with_reducible exact ih0 _ _ _ _ _)
      | (with_reducible exact ih1 _ _ _ _ _ _ _)
      | (with_reducible exact ih2 _ _ _ _ _ _ _ _)
      | (with_reducible exact ih3 _ _ _ _ _)
      | (with_reducible exact ih4 _ _ _ _ _ _ _ _)
      | (with_reducible exact stowagelaw12_awake.mono _)
      | (with_reducible exact LeO.refl _)
      | (with_reducible exact LeO.none _)
      | (with_reducible refine LeO.ite ?_ ?_)
      | (with_reducible refine LeO.bind ?_ (fun _ => ?_))
      | exact ih0 _ _ _ _ _
      | exact ih1 _ _ _ _ _ _ _
      | exact ih2 _ _ _ _ _ _ _ _
      | exact ih3 _ _ _ _ _
      | exact ih4 _ _ _ _ _ _ _ _
      | exact stowagelaw12_awake.mono _
      | exact LeO.none _
      | refine LeO.ite ?_ ?_
      | refine LeO.bind ?_ (fun _ => ?_)
theorem stowagelaw12_NamesCover.mono : ∀ a0 a1 a2 k, LeO (stowagelaw12_NamesCover.f k a0 a1 a2) (stowagelaw12_NamesCover.f (k + 1) a0 a1 a2) := by
  intro a0 a1 a2 k
  obtain ⟨ih0, ih1, ih2, ih3, ih4⟩ := stowagelaw12_NamesCover.mono_l k
  unfold stowagelaw12_NamesCover.f
  repeat' first
      | (with_reducible exact ih0 _ _ _ _ _)
      | (with_reducible exact ih1 _ _ _ _ _ _ _)
      | (with_reducible exact ih2 _ _ _ _ _ _ _ _)
      | (with_reducible exact ih3 _ _ _ _ _)
      | (with_reducible exact ih4 _ _ _ _ _ _ _ _)
      | (with_reducible exact stowagelaw12_awake.mono _)
      | (with_reducible exact LeO.refl _)
      | (with_reducible exact LeO.none _)
      | (with_reducible refine LeO.ite ?_ ?_)
      | (with_reducible refine LeO.bind ?_ (fun _ => ?_))
      | exact ih0 _ _ _ _ _
      | exact ih1 _ _ _ _ _ _ _
      | exact ih2 _ _ _ _ _ _ _ _
      | exact ih3 _ _ _ _ _
      | exact ih4 _ _ _ _ _ _ _ _
      | exact stowagelaw12_awake.mono _
      | exact LeO.none _
      | refine LeO.ite ?_ ?_
      | refine LeO.bind ?_ (fun _ => ?_)
set_option maxHeartbeats 8000000 in
set_option maxRecDepth 100000 in
theorem stowagelaw12_NamesCover.calls (k : Nat) (A0 : Option Addr) (c0 : Nat) (l0 : List ByteArray) (a1 : ByteArray) (a2 : ByteArray) (r : Bool) (w : World) (hr0 : Kd.C Kd.string w A0 l0.length l0) (hc0 : l0.length ≤ c0) (h : stowagelaw12_NamesCover.f k l0 a1 a2 = some r) (hG : GG w) :
    Calls Try.prog 6 #[.slice A0 l0.length c0, .string a1, .string a2] w fun e w' => e = .returned (.bool r) ∧ Below w.heap.size w w' := by
  have HG := Aside0.mk hG
  clear hG
  have HR0 := Aside0.mk hr0
  have HC0 := Aside0.mk hc0
  clear hr0 hc0
  have HB := Aside0.mk (Below.refl w.heap.size w)
  have H : (if (l0.length : Int) > 100 then ((stowagelaw12_awake.f k).bind fun t245 => (some t245)) else ((names_Fold.f l0 a1 a2 (⟨#[]⟩ : ByteArray) (wrap64 ((l0.length : Int) + 1))).bind fun bt246 => (if bt246.2 = true then (some false) else (stowagelaw12_NamesCover.l0 k l0 a1 a2 bt246.1 0)))) = some r := h
  clear h
  by_cases c4 : (l0.length : Int) > 100
  · rw [if_pos c4] at H
    have c4b0 : decide (100 < (l0.length : Int)) = true := decide_eq_true c4
    have c4b1 : decide (100 < l0.length) = true := decide_eq_true (by omega)
    clear c4
    replace H := Option.bind_eq_some_iff.mp H
    obtain ⟨t245, A50, H⟩ := H
    replace H : (some t245) = some r := H
    have A5 := Aside0.mk A50
    clear A50
    obtain rfl := Option.some.inj H
    go_enter Try.func6, Try.ntmps6
    go_wp2_with (first | (go_at_call 8; (with_reducible refine (stowagelaw12_awake.calls k  t245 _ A5.out ?sideG).mono ?_); (case sideG => first | exact HG.out | exact gg_below HG.out (by repeat (first | (with_reducible first | exact HB.out | apply below_alloc | apply pw_below_drewN | apply below_drew1) | exact HB.out))); rintro e w6 ⟨rfl, hb⟩; have n0_ := Aside0.mk (below_step (by repeat (first | (with_reducible first | exact HB.out | apply below_alloc | apply pw_below_drewN | apply below_drew1) | exact HB.out)) hb); clear HB; have HB := n0_; clear n0_; (try clear hb); (try clear hb2); (try clear hk); (try clear hi)))
    repeat (go_quiet (first | (go_at_call 8; (with_reducible refine (stowagelaw12_awake.calls k  t245 _ A5.out ?sideG).mono ?_); (case sideG => first | exact HG.out | exact gg_below HG.out (by repeat (first | (with_reducible first | exact HB.out | apply below_alloc | apply pw_below_drewN | apply below_drew1) | exact HB.out))); rintro e w6 ⟨rfl, hb⟩; have n0_ := Aside0.mk (below_step (by repeat (first | (with_reducible first | exact HB.out | apply below_alloc | apply pw_below_drewN | apply below_drew1) | exact HB.out)) hb); clear HB; have HB := n0_; clear n0_; (try clear hb); (try clear hb2); (try clear hk); (try clear hi))); try go_wp2_with (first | (go_at_call 8; (with_reducible refine (stowagelaw12_awake.calls k  t245 _ A5.out ?sideG).mono ?_); (case sideG => first | exact HG.out | exact gg_below HG.out (by repeat (first | (with_reducible first | exact HB.out | apply below_alloc | apply pw_below_drewN | apply below_drew1) | exact HB.out))); rintro e w6 ⟨rfl, hb⟩; have n0_ := Aside0.mk (below_step (by repeat (first | (with_reducible first | exact HB.out | apply below_alloc | apply pw_below_drewN | apply below_drew1) | exact HB.out)) hb); clear HB; have HB := n0_; clear n0_; (try clear hb); (try clear hb2); (try clear hk); (try clear hi))))
    go_ret
    exact ⟨by first | rfl | (simp [errW_none, errW_some] <;> rfl) | (simp [*, errW_none, errW_some] <;> rfl), by repeat (first | (with_reducible first | exact HB.out | apply below_alloc | apply pw_below_drewN | apply below_drew1) | exact HB.out)⟩
  · rw [if_neg c4] at H
    have c4b0 : decide (100 < (l0.length : Int)) = false := decide_eq_false c4
    have c4b1 : decide (100 < l0.length) = false := decide_eq_false (by omega)
    clear c4
    replace H := Option.bind_eq_some_iff.mp H
    obtain ⟨⟨t246, t249⟩, A70, H⟩ := H
    replace H : (if t249 = true then (some false) else (stowagelaw12_NamesCover.l0 k l0 a1 a2 t246 0)) = some r := H
    have A7 := Aside0.mk A70
    clear A70
    by_cases c8 : t249 = true
    · subst c8
      have H1 : (some false) = some r := by rw [if_pos rfl] at H; exact H
      clear H
      have H := H1
      clear H1
      obtain rfl := Option.some.inj H
      go_enter Try.func6, Try.ntmps6
      go_wp2_with (first | (go_at_call 9; (with_reducible refine (names_Fold.calls _ _ l0 a1 a2 (⟨#[]⟩ : ByteArray) (wrap64 ((l0.length : Int) + 1)) t246 true _ ?side1 ?side2 A7.out ?sideG).mono ?_); (case sideG => first | exact HG.out | exact gg_below HG.out (by repeat (first | (with_reducible first | exact HB.out | apply below_alloc | apply pw_below_drewN | apply below_drew1) | exact HB.out))); (case side1 => repeat (first | exact HR0.out | (with_reducible refine Kd.C_alloc ?_ _) | (with_reducible refine Kd.C_drewN ?_ _) | (with_reducible refine Kd.C_drew ?_))); (case side2 => exact HC0.out); rintro e w9 ⟨v247, rfl, ho0, hb⟩; have n0_ := Aside0.mk (Kd.V_lower (Kd.V_mono (ok' := fun k_ => True) ho0 (fun k_ hk_ => trivial)) (below_size (by repeat (first | (with_reducible first | exact HB.out | apply below_alloc | apply pw_below_drewN | apply below_drew1) | exact HB.out)))); have n1_ := Aside0.mk (below_step (by repeat (first | (with_reducible first | exact HB.out | apply below_alloc | apply pw_below_drewN | apply below_drew1) | exact HB.out)) hb); clear HB; have HO248 := n0_; have HB := n1_; clear n0_ n1_; (try clear hb); (try clear hb2); (try clear hk); (try clear hi); (try clear ho0)))
      repeat (go_quiet (first | (go_at_call 9; (with_reducible refine (names_Fold.calls _ _ l0 a1 a2 (⟨#[]⟩ : ByteArray) (wrap64 ((l0.length : Int) + 1)) t246 true _ ?side1 ?side2 A7.out ?sideG).mono ?_); (case sideG => first | exact HG.out | exact gg_below HG.out (by repeat (first | (with_reducible first | exact HB.out | apply below_alloc | apply pw_below_drewN | apply below_drew1) | exact HB.out))); (case side1 => repeat (first | exact HR0.out | (with_reducible refine Kd.C_alloc ?_ _) | (with_reducible refine Kd.C_drewN ?_ _) | (with_reducible refine Kd.C_drew ?_))); (case side2 => exact HC0.out); rintro e w9 ⟨v247, rfl, ho0, hb⟩; have n0_ := Aside0.mk (Kd.V_lower (Kd.V_mono (ok' := fun k_ => True) ho0 (fun k_ hk_ => trivial)) (below_size (by repeat (first | (with_reducible first | exact HB.out | apply below_alloc | apply pw_below_drewN | apply below_drew1) | exact HB.out)))); have n1_ := Aside0.mk (below_step (by repeat (first | (with_reducible first | exact HB.out | apply below_alloc | apply pw_below_drewN | apply below_drew1) | exact HB.out)) hb); clear HB; have HO248 := n0_; have HB := n1_; clear n0_ n1_; (try clear hb); (try clear hb2); (try clear hk); (try clear hi); (try clear ho0))); try go_wp2_with (first | (go_at_call 9; (with_reducible refine (names_Fold.calls _ _ l0 a1 a2 (⟨#[]⟩ : ByteArray) (wrap64 ((l0.length : Int) + 1)) t246 true _ ?side1 ?side2 A7.out ?sideG).mono ?_); (case sideG => first | exact HG.out | exact gg_below HG.out (by repeat (first | (with_reducible first | exact HB.out | apply below_alloc | apply pw_below_drewN | apply below_drew1) | exact HB.out))); (case side1 => repeat (first | exact HR0.out | (with_reducible refine Kd.C_alloc ?_ _) | (with_reducible refine Kd.C_drewN ?_ _) | (with_reducible refine Kd.C_drew ?_))); (case side2 => exact HC0.out); rintro e w9 ⟨v247, rfl, ho0, hb⟩; have n0_ := Aside0.mk (Kd.V_lower (Kd.V_mono (ok' := fun k_ => True) ho0 (fun k_ hk_ => trivial)) (below_size (by repeat (first | (with_reducible first | exact HB.out | apply below_alloc | apply pw_below_drewN | apply below_drew1) | exact HB.out)))); have n1_ := Aside0.mk (below_step (by repeat (first | (with_reducible first | exact HB.out | apply below_alloc | apply pw_below_drewN | apply below_drew1) | exact HB.out)) hb); clear HB; have HO248 := n0_; have HB := n1_; clear n0_ n1_; (try clear hb); (try clear hb2); (try clear hk); (try clear hi); (try clear ho0))))
      go_ret
      exact ⟨by first | rfl | (simp [errW_none, errW_some] <;> rfl) | (simp [*, errW_none, errW_some] <;> rfl), by repeat (first | (with_reducible first | exact HB.out | apply below_alloc | apply pw_below_drewN | apply below_drew1) | exact HB.out)⟩
    · replace c8 := Bool.eq_false_iff.mpr c8
      subst c8
      have H1 : (stowagelaw12_NamesCover.l0 k l0 a1 a2 t246 0) = some r := by rw [if_neg (show ¬ (false = true) by decide)] at H; exact H
      clear H
      have H := H1
      clear H1
      have H' := Aside0.mk H
      clear H
      go_enter Try.func6, Try.ntmps6
      go_wp2_with (first | (go_at_call 9; (with_reducible refine (names_Fold.calls _ _ l0 a1 a2 (⟨#[]⟩ : ByteArray) (wrap64 ((l0.length : Int) + 1)) t246 false _ ?side1 ?side2 A7.out ?sideG).mono ?_); (case sideG => first | exact HG.out | exact gg_below HG.out (by repeat (first | (with_reducible first | exact HB.out | apply below_alloc | apply pw_below_drewN | apply below_drew1) | exact HB.out))); (case side1 => repeat (first | exact HR0.out | (with_reducible refine Kd.C_alloc ?_ _) | (with_reducible refine Kd.C_drewN ?_ _) | (with_reducible refine Kd.C_drew ?_))); (case side2 => exact HC0.out); rintro e w10 ⟨v247, rfl, ho0, hb⟩; have n0_ := Aside0.mk (Kd.V_lower (Kd.V_mono (ok' := fun k_ => True) ho0 (fun k_ hk_ => trivial)) (below_size (by repeat (first | (with_reducible first | exact HB.out | apply below_alloc | apply pw_below_drewN | apply below_drew1) | exact HB.out)))); have n1_ := Aside0.mk (below_step (by repeat (first | (with_reducible first | exact HB.out | apply below_alloc | apply pw_below_drewN | apply below_drew1) | exact HB.out)) hb); clear HB; have HO248 := n0_; have HB := n1_; clear n0_ n1_; (try clear hb); (try clear hb2); (try clear hk); (try clear hi); (try clear ho0)))
      repeat (go_quiet (first | (go_at_call 9; (with_reducible refine (names_Fold.calls _ _ l0 a1 a2 (⟨#[]⟩ : ByteArray) (wrap64 ((l0.length : Int) + 1)) t246 false _ ?side1 ?side2 A7.out ?sideG).mono ?_); (case sideG => first | exact HG.out | exact gg_below HG.out (by repeat (first | (with_reducible first | exact HB.out | apply below_alloc | apply pw_below_drewN | apply below_drew1) | exact HB.out))); (case side1 => repeat (first | exact HR0.out | (with_reducible refine Kd.C_alloc ?_ _) | (with_reducible refine Kd.C_drewN ?_ _) | (with_reducible refine Kd.C_drew ?_))); (case side2 => exact HC0.out); rintro e w10 ⟨v247, rfl, ho0, hb⟩; have n0_ := Aside0.mk (Kd.V_lower (Kd.V_mono (ok' := fun k_ => True) ho0 (fun k_ hk_ => trivial)) (below_size (by repeat (first | (with_reducible first | exact HB.out | apply below_alloc | apply pw_below_drewN | apply below_drew1) | exact HB.out)))); have n1_ := Aside0.mk (below_step (by repeat (first | (with_reducible first | exact HB.out | apply below_alloc | apply pw_below_drewN | apply below_drew1) | exact HB.out)) hb); clear HB; have HO248 := n0_; have HB := n1_; clear n0_ n1_; (try clear hb); (try clear hb2); (try clear hk); (try clear hi); (try clear ho0))); try go_wp2_with (first | (go_at_call 9; (with_reducible refine (names_Fold.calls _ _ l0 a1 a2 (⟨#[]⟩ : ByteArray) (wrap64 ((l0.length : Int) + 1)) t246 false _ ?side1 ?side2 A7.out ?sideG).mono ?_); (case sideG => first | exact HG.out | exact gg_below HG.out (by repeat (first | (with_reducible first | exact HB.out | apply below_alloc | apply pw_below_drewN | apply below_drew1) | exact HB.out))); (case side1 => repeat (first | exact HR0.out | (with_reducible refine Kd.C_alloc ?_ _) | (with_reducible refine Kd.C_drewN ?_ _) | (with_reducible refine Kd.C_drew ?_))); (case side2 => exact HC0.out); rintro e w10 ⟨v247, rfl, ho0, hb⟩; have n0_ := Aside0.mk (Kd.V_lower (Kd.V_mono (ok' := fun k_ => True) ho0 (fun k_ hk_ => trivial)) (below_size (by repeat (first | (with_reducible first | exact HB.out | apply below_alloc | apply pw_below_drewN | apply below_drew1) | exact HB.out)))); have n1_ := Aside0.mk (below_step (by repeat (first | (with_reducible first | exact HB.out | apply below_alloc | apply pw_below_drewN | apply below_drew1) | exact HB.out)) hb); clear HB; have HO248 := n0_; have HB := n1_; clear n0_ n1_; (try clear hb); (try clear hb2); (try clear hk); (try clear hi); (try clear ho0))))
      go_loopg [9] k (fun kq v9 w' => ∃ (x9_1 : Int), v9 = .int .i64 x9_1 ∧ Aside0 (stowagelaw12_NamesCover.l0 kq l0 a1 a2 t246 x9_1 = some r) ∧ Aside0 (kq ≤ k) ∧ Aside0 (Kd.V k38 38 w' w.heap.size (fun _ => True) v247 t246) ∧ Aside0 (Below w.heap.size w w'))
      case atStart => exact ⟨(0), (by first | rfl | (simp; done) | (simp [*]; done)), H', ⟨Nat.le_refl _⟩, ⟨by (with_reducible repeat (first | apply Kd.V_alloc | apply Kd.V_drewN | apply Kd.V_drew)); exact HO248.out⟩, ⟨by repeat (first | (with_reducible first | exact HB.out | apply below_alloc | apply pw_below_drewN | apply below_drew1) | exact HB.out)⟩⟩
      case round =>
        clear H'
        try clear p2
        try clear c4
        try clear c4b0
        try clear c4b1
        try clear c6
        try clear p6
        try clear c8
        obtain ⟨x9_1, rfl, HA, HK1, HO_7, HB⟩ := hrel
        cases gk with
        | zero => exact absurd HA.out (by simp [stowagelaw12_NamesCover.l0])
        | succ k1 =>
          have H := HA.out
          clear HA
          simp only [stowagelaw12_NamesCover.l0] at H
          by_cases c11 : x9_1 < (l0.length : Int)
          · rw [if_pos c11] at H
            have c11b0 : decide (x9_1 < (l0.length : Int)) = true := decide_eq_true c11
            clear c11
            by_cases c12 : 0 ≤ x9_1
            · rw [if_pos c12] at H
              have c12b0 : decide (0 ≤ x9_1) = true := decide_eq_true c12
              clear c12
              have HC13 := Aside0.mk H
              clear H
              have p250 : 0 ≤ (x9_1 : Int) := of_decide_eq_true (by first | (with_reducible assumption) | assumption)
              have q250 : x9_1 < (l0.length : Int) := of_decide_eq_true (by first | (with_reducible assumption) | assumption)
              obtain ⟨ad250, e250, hx250_0⟩ := Kd.at_string HR0.out x9_1 p250 q250
              cases e250
              replace hx250_0 := (HB.out.cell (World.block_lt_of_cell? w _ hx250_0)).trans hx250_0
              replace p250 := eq_true p250
              replace q250 := eq_true q250
              go_upto_region 10 with (fail)
              repeat (go_quiet (fail); go_upto_region 10 with (fail))
              go_cut [11] (fun v11 wc => ∃ (kq : Nat) (x11_12 : Bool), v11 = .bool x11_12 ∧ Aside0 (stowagelaw12_NamesCover.j1 kq l0 a1 a2 t246 x9_1 (rdOf ByteArray.empty l0 x9_1) x11_12 = some r) ∧ Aside0 (kq ≤ k1) ∧ Aside0 (Kd.V k38 38 wc w.heap.size (fun _ => True) v247 t246) ∧ Aside0 (Below w.heap.size w wc))
              case first =>
                have H := HC13.out
                clear HC13
                by_cases c14 : ((rdOf ByteArray.empty l0 x9_1).size : Int) < (a1.size : Int)
                · rw [if_pos c14] at H
                  have c14b0 : decide (((rdOf ByteArray.empty l0 x9_1).size : Int) < (a1.size : Int)) = true := decide_eq_true c14
                  have c14b1 : decide ((rdOf ByteArray.empty l0 x9_1).size < a1.size) = true := decide_eq_true (Int.ofNat_lt.mp c14)
                  clear c14
                  (first | rw [c14b0] | (simp only [i64_w, i32_w]; rw [c14b0]) | skip)
                  have H' := Aside0.mk H
                  clear H
                  go_wp2
                  repeat (go_quiet (fail); try go_wp2)
                  go_meet
                  case rel => exact ⟨_, (true), (by first | rfl | (simp; done) | (simp [*]; done)), H', ⟨by have := HK1.out; first | omega | exact Nat.le_refl _⟩, ⟨by (with_reducible repeat (first | apply Kd.V_alloc | apply Kd.V_drewN | apply Kd.V_drew)); exact HO_7.out⟩, ⟨by repeat (first | (with_reducible first | exact HB.out | apply below_alloc | apply pw_below_drewN | apply below_drew1) | exact HB.out)⟩⟩
                · rw [if_neg c14] at H
                  have c14b0 : decide (((rdOf ByteArray.empty l0 x9_1).size : Int) < (a1.size : Int)) = false := decide_eq_false c14
                  have c14b1 : decide ((rdOf ByteArray.empty l0 x9_1).size < a1.size) = false := decide_eq_false (fun h => c14 (Int.ofNat_lt.mpr h))
                  clear c14
                  (first | rw [c14b0] | (simp only [i64_w, i32_w]; rw [c14b0]) | skip)
                  by_cases c15 : 0 ≤ (a1.size : Int)
                  · rw [if_pos c15] at H
                    have c15b0 := eq_true c15
                    have c15b1 : decide (0 ≤ (a1.size : Int)) = true := decide_eq_true c15
                    clear c15
                    by_cases c16 : (a1.size : Int) ≤ ((rdOf ByteArray.empty l0 x9_1).size : Int)
                    · rw [if_pos c16] at H
                      have c16b0 := eq_true c16
                      have c16b1 : decide ((a1.size : Int) ≤ ((rdOf ByteArray.empty l0 x9_1).size : Int)) = true := decide_eq_true c16
                      clear c16
                      by_cases c17 : ((rdOf ByteArray.empty l0 x9_1).extract 0 ((a1.size : Int) : Int).toNat).toList = a1.toList
                      · rw [if_pos c17] at H
                        have c17b0 : (((rdOf ByteArray.empty l0 x9_1).extract 0 ((a1.size : Int) : Int).toNat).toList == a1.toList) = true := beq_iff_eq.mpr c17
                        have c17x_ := beq_iff_eq.mp c17b0
                        (try simp only [Int.toNat_natCast] at c17x_)
                        have c17y_ := beq_iff_eq.mpr c17x_
                        have c17z_ := bne_eq_false_iff_eq.mpr c17x_
                        replace c17x_ := eq_true c17x_
                        have c17b1 : (((rdOf ByteArray.empty l0 x9_1).extract 0 ((a1.size : Int) : Int).toNat).toList != a1.toList) = false := bne_eq_false_iff_eq.mpr c17
                        clear c17
                        have H' := Aside0.mk H
                        clear H
                        go_wp2
                        repeat (go_quiet (fail); try go_wp2)
                        go_meet
                        case rel => exact ⟨_, (((rdOf ByteArray.empty l0 x9_1).toList == ([] : List UInt8))), (by first | rfl | (simp; done) | (simp [*]; done)), H', ⟨by have := HK1.out; first | omega | exact Nat.le_refl _⟩, ⟨by (with_reducible repeat (first | apply Kd.V_alloc | apply Kd.V_drewN | apply Kd.V_drew)); exact HO_7.out⟩, ⟨by repeat (first | (with_reducible first | exact HB.out | apply below_alloc | apply pw_below_drewN | apply below_drew1) | exact HB.out)⟩⟩
                      · rw [if_neg c17] at H
                        have c17b0 : (((rdOf ByteArray.empty l0 x9_1).extract 0 ((a1.size : Int) : Int).toNat).toList == a1.toList) = false := beq_eq_false_iff_ne.mpr c17
                        have c17x_ := beq_eq_false_iff_ne.mp c17b0
                        (try simp only [Int.toNat_natCast] at c17x_)
                        have c17y_ := beq_eq_false_iff_ne.mpr c17x_
                        have c17z_ := bne_iff_ne.mpr c17x_
                        have c17b1 : (((rdOf ByteArray.empty l0 x9_1).extract 0 ((a1.size : Int) : Int).toNat).toList != a1.toList) = true := bne_iff_ne.mpr c17
                        have H' := Aside0.mk H
                        clear H
                        go_wp2
                        repeat (go_quiet (fail); try go_wp2)
                        go_meet
                        case rel => exact ⟨_, (true), (by first | rfl | (simp; done) | (simp [*]; done)), H', ⟨by have := HK1.out; first | omega | exact Nat.le_refl _⟩, ⟨by (with_reducible repeat (first | apply Kd.V_alloc | apply Kd.V_drewN | apply Kd.V_drew)); exact HO_7.out⟩, ⟨by repeat (first | (with_reducible first | exact HB.out | apply below_alloc | apply pw_below_drewN | apply below_drew1) | exact HB.out)⟩⟩
                    · rw [if_neg c16] at H
                      exact absurd H (by simp)
                  · rw [if_neg c15] at H
                    exact absurd H (by simp)
              case rest =>
                clear HC13
                try clear c1
                try clear p2
                try clear q2
                try clear hx2
                try clear c4
                try clear c4b0
                try clear c4b1
                try clear c6
                try clear p6
                try clear c8
                try clear c11
                try clear c11b0
                try clear c12
                try clear c12b0
                try clear c14
                try clear c14b0
                try clear c14b1
                try clear c15
                try clear c15b0
                try clear c15b1
                try clear c16
                try clear c16b0
                try clear c16b1
                try clear c17
                try clear c17b0
                try clear c17b1
                try clear hx250_0
                try clear p2
                try clear p250
                try clear p6
                try clear q250
                obtain ⟨kq, x11_12, rfl, HA, HJ12, HO_7, HB⟩ := hcut
                cases kq with
                | zero => exact absurd HA.out (by simp [stowagelaw12_NamesCover.j1])
                | succ kj12 =>
                  have H := HA.out
                  clear HA
                  simp only [stowagelaw12_NamesCover.j1] at H
                  have H' := Aside0.mk H
                  clear H
                  go_wp2
                  repeat (go_quiet (fail); try go_wp2)
                  go_loopg [11, 12] kj12 (fun kq v11 v12 w' => ∃ (x11_3 : Bool) (x12_3 : Int), v11 = .bool x11_3 ∧ v12 = .int .i64 x12_3 ∧ Aside0 (stowagelaw12_NamesCover.l1 kq l0 a1 a2 t246 x9_1 (rdOf ByteArray.empty l0 x9_1) x11_3 x12_3 = some r) ∧ Aside0 (kq ≤ kj12) ∧ Aside0 (Kd.V k38 38 w' w.heap.size (fun _ => True) v247 t246) ∧ Aside0 (Below w.heap.size w w'))
                  case atStart => exact ⟨(x11_12), (0), (by first | rfl | (simp; done) | (simp [*]; done)), (by first | rfl | (simp; done) | (simp [*]; done)), H', ⟨Nat.le_refl _⟩, ⟨by (with_reducible repeat (first | apply Kd.V_alloc | apply Kd.V_drewN | apply Kd.V_drew)); exact HO_7.out⟩, ⟨by repeat (first | (with_reducible first | exact HB.out | apply below_alloc | apply pw_below_drewN | apply below_drew1) | exact HB.out)⟩⟩
                  case round =>
                    clear H'
                    try clear c1
                    try clear p2
                    try clear q2
                    try clear hx2
                    try clear c4
                    try clear c4b0
                    try clear c4b1
                    try clear c6
                    try clear p6
                    try clear c8
                    try clear c11
                    try clear c11b0
                    try clear c12
                    try clear c12b0
                    try clear c14
                    try clear c14b0
                    try clear c14b1
                    try clear c15
                    try clear c15b0
                    try clear c15b1
                    try clear c16
                    try clear c16b0
                    try clear c16b1
                    try clear c17
                    try clear c17b0
                    try clear c17b1
                    try clear hx250_0
                    try clear p2
                    try clear p250
                    try clear p6
                    try clear q2
                    try clear q250
                    obtain ⟨x11_3, x12_3, rfl, rfl, HA, HK3, HO_7, HB⟩ := hrel
                    cases gk with
                    | zero => exact absurd HA.out (by simp [stowagelaw12_NamesCover.l1])
                    | succ k3 =>
                      have H := HA.out
                      clear HA
                      simp only [stowagelaw12_NamesCover.l1] at H
                      by_cases c18 : x12_3 < (t246.length : Int)
                      · rw [if_pos c18] at H
                        have c18b0 : decide (x12_3 < (t246.length : Int)) = true := decide_eq_true c18
                        clear c18
                        by_cases c19 : 0 ≤ x12_3
                        · rw [if_pos c19] at H
                          have c19b0 : decide (0 ≤ x12_3) = true := decide_eq_true c19
                          clear c19
                          by_cases c20 : x11_3 = true
                          · subst c20
                            have H1 : (stowagelaw12_NamesCover.l1 k3 l0 a1 a2 t246 x9_1 (rdOf ByteArray.empty l0 x9_1) true (wrap64 (x12_3 + 1))) = some r := by rw [if_pos rfl] at H; exact H
                            clear H
                            have H := H1
                            clear H1
                            have H' := Aside0.mk H
                            clear H
                            obtain ⟨Ao21, co21, eo21⟩ := Kd.V_slice HO_7.out
                            subst eo21
                            have p251 : 0 ≤ (x12_3 : Int) := of_decide_eq_true (by first | (with_reducible assumption) | assumption)
                            have q251 : x12_3 < (t246.length : Int) := of_decide_eq_true (by first | (with_reducible assumption) | assumption)
                            obtain ⟨ad251, e251, hx251_0, hx251_1⟩ := at_T38 (Kd.V_reads' HO_7.out).2.2 x12_3 p251 q251
                            cases e251
                            replace p251 := eq_true p251
                            replace q251 := eq_true q251
                            go_wp2
                            repeat (go_quiet (fail); try go_wp2)
                            go_roundg k3
                            case measure => have := HK1.out; have := HJ12.out; have := HK3.out; omega
                            case rel => exact ⟨(true), (wrap64 (x12_3 + 1)), (by first | rfl | (simp; done) | (simp [*]; done)), (by first | rfl | (simp; done) | (simp [*]; done)), H', ⟨by have := HK1.out; have := HJ12.out; have := HK3.out; omega⟩, ⟨by (with_reducible repeat (first | apply Kd.V_alloc | apply Kd.V_drewN | apply Kd.V_drew)); exact HO_7.out⟩, ⟨by repeat (first | (with_reducible first | exact HB.out | apply below_alloc | apply pw_below_drewN | apply below_drew1) | exact HB.out)⟩⟩
                          · replace c20 := Bool.eq_false_iff.mpr c20
                            subst c20
                            have H1 : (if ((rd_T38 t246 x12_3).f1 = true) then (if (rd_T38 t246 x12_3).f1 = true then (if (((rd_T38 t246 x12_3).f0).size : Int) ≤ ((rdOf ByteArray.empty l0 x9_1).size : Int) then (if 0 ≤ (((rd_T38 t246 x12_3).f0).size : Int) then (stowagelaw12_NamesCover.l1 k3 l0 a1 a2 t246 x9_1 (rdOf ByteArray.empty l0 x9_1) (((rdOf ByteArray.empty l0 x9_1).extract 0 ((((rd_T38 t246 x12_3).f0).size : Int) : Int).toNat).toList == ((rd_T38 t246 x12_3).f0).toList) (wrap64 (x12_3 + 1))) else (none)) else (stowagelaw12_NamesCover.l1 k3 l0 a1 a2 t246 x9_1 (rdOf ByteArray.empty l0 x9_1) false (wrap64 (x12_3 + 1)))) else (stowagelaw12_NamesCover.l1 k3 l0 a1 a2 t246 x9_1 (rdOf ByteArray.empty l0 x9_1) false (wrap64 (x12_3 + 1)))) else (if ((rd_T38 t246 x12_3).f0).toList = (rdOf ByteArray.empty l0 x9_1).toList then (stowagelaw12_NamesCover.l1 k3 l0 a1 a2 t246 x9_1 (rdOf ByteArray.empty l0 x9_1) true (wrap64 (x12_3 + 1))) else (if (rd_T38 t246 x12_3).f1 = true then (if (((rd_T38 t246 x12_3).f0).size : Int) ≤ ((rdOf ByteArray.empty l0 x9_1).size : Int) then (if 0 ≤ (((rd_T38 t246 x12_3).f0).size : Int) then (stowagelaw12_NamesCover.l1 k3 l0 a1 a2 t246 x9_1 (rdOf ByteArray.empty l0 x9_1) (((rdOf ByteArray.empty l0 x9_1).extract 0 ((((rd_T38 t246 x12_3).f0).size : Int) : Int).toNat).toList == ((rd_T38 t246 x12_3).f0).toList) (wrap64 (x12_3 + 1))) else (none)) else (stowagelaw12_NamesCover.l1 k3 l0 a1 a2 t246 x9_1 (rdOf ByteArray.empty l0 x9_1) false (wrap64 (x12_3 + 1)))) else (stowagelaw12_NamesCover.l1 k3 l0 a1 a2 t246 x9_1 (rdOf ByteArray.empty l0 x9_1) false (wrap64 (x12_3 + 1)))))) = some r := by rw [if_neg (show ¬ (false = true) by decide)] at H; exact H
                            clear H
                            have H := H1
                            clear H1
                            obtain ⟨bq22, hbq22⟩ : ∃ b_ : Bool, b_ = ((rd_T38 t246 x12_3).f1) := ⟨_, rfl⟩
                            replace H : (if (bq22 = true) then (if bq22 = true then (if (((rd_T38 t246 x12_3).f0).size : Int) ≤ ((rdOf ByteArray.empty l0 x9_1).size : Int) then (if 0 ≤ (((rd_T38 t246 x12_3).f0).size : Int) then (stowagelaw12_NamesCover.l1 k3 l0 a1 a2 t246 x9_1 (rdOf ByteArray.empty l0 x9_1) (((rdOf ByteArray.empty l0 x9_1).extract 0 ((((rd_T38 t246 x12_3).f0).size : Int) : Int).toNat).toList == ((rd_T38 t246 x12_3).f0).toList) (wrap64 (x12_3 + 1))) else (none)) else (stowagelaw12_NamesCover.l1 k3 l0 a1 a2 t246 x9_1 (rdOf ByteArray.empty l0 x9_1) false (wrap64 (x12_3 + 1)))) else (stowagelaw12_NamesCover.l1 k3 l0 a1 a2 t246 x9_1 (rdOf ByteArray.empty l0 x9_1) false (wrap64 (x12_3 + 1)))) else (if ((rd_T38 t246 x12_3).f0).toList = (rdOf ByteArray.empty l0 x9_1).toList then (stowagelaw12_NamesCover.l1 k3 l0 a1 a2 t246 x9_1 (rdOf ByteArray.empty l0 x9_1) true (wrap64 (x12_3 + 1))) else (if bq22 = true then (if (((rd_T38 t246 x12_3).f0).size : Int) ≤ ((rdOf ByteArray.empty l0 x9_1).size : Int) then (if 0 ≤ (((rd_T38 t246 x12_3).f0).size : Int) then (stowagelaw12_NamesCover.l1 k3 l0 a1 a2 t246 x9_1 (rdOf ByteArray.empty l0 x9_1) (((rdOf ByteArray.empty l0 x9_1).extract 0 ((((rd_T38 t246 x12_3).f0).size : Int) : Int).toNat).toList == ((rd_T38 t246 x12_3).f0).toList) (wrap64 (x12_3 + 1))) else (none)) else (stowagelaw12_NamesCover.l1 k3 l0 a1 a2 t246 x9_1 (rdOf ByteArray.empty l0 x9_1) false (wrap64 (x12_3 + 1)))) else (stowagelaw12_NamesCover.l1 k3 l0 a1 a2 t246 x9_1 (rdOf ByteArray.empty l0 x9_1) false (wrap64 (x12_3 + 1)))))) = some r := by rw [← hbq22] at H; exact H
                            have Nbq22 := Aside0.mk hbq22
                            clear hbq22
                            by_cases c23 : (bq22 = true)
                            · subst c23
                              have H1 : (if true = true then (if (((rd_T38 t246 x12_3).f0).size : Int) ≤ ((rdOf ByteArray.empty l0 x9_1).size : Int) then (if 0 ≤ (((rd_T38 t246 x12_3).f0).size : Int) then (stowagelaw12_NamesCover.l1 k3 l0 a1 a2 t246 x9_1 (rdOf ByteArray.empty l0 x9_1) (((rdOf ByteArray.empty l0 x9_1).extract 0 ((((rd_T38 t246 x12_3).f0).size : Int) : Int).toNat).toList == ((rd_T38 t246 x12_3).f0).toList) (wrap64 (x12_3 + 1))) else (none)) else (stowagelaw12_NamesCover.l1 k3 l0 a1 a2 t246 x9_1 (rdOf ByteArray.empty l0 x9_1) false (wrap64 (x12_3 + 1)))) else (stowagelaw12_NamesCover.l1 k3 l0 a1 a2 t246 x9_1 (rdOf ByteArray.empty l0 x9_1) false (wrap64 (x12_3 + 1)))) = some r := by rw [if_pos rfl] at H; exact H
                              clear H
                              have H := H1
                              clear H1
                              by_cases c24 : true = true
                              · clear c24
                                have H1 : (if (((rd_T38 t246 x12_3).f0).size : Int) ≤ ((rdOf ByteArray.empty l0 x9_1).size : Int) then (if 0 ≤ (((rd_T38 t246 x12_3).f0).size : Int) then (stowagelaw12_NamesCover.l1 k3 l0 a1 a2 t246 x9_1 (rdOf ByteArray.empty l0 x9_1) (((rdOf ByteArray.empty l0 x9_1).extract 0 ((((rd_T38 t246 x12_3).f0).size : Int) : Int).toNat).toList == ((rd_T38 t246 x12_3).f0).toList) (wrap64 (x12_3 + 1))) else (none)) else (stowagelaw12_NamesCover.l1 k3 l0 a1 a2 t246 x9_1 (rdOf ByteArray.empty l0 x9_1) false (wrap64 (x12_3 + 1)))) = some r := by rw [if_pos rfl] at H; exact H
                                clear H
                                have H := H1
                                clear H1
                                by_cases c25 : (((rd_T38 t246 x12_3).f0).size : Int) ≤ ((rdOf ByteArray.empty l0 x9_1).size : Int)
                                · rw [if_pos c25] at H
                                  have c25b0 : decide ((((rd_T38 t246 x12_3).f0).size : Int) ≤ ((rdOf ByteArray.empty l0 x9_1).size : Int)) = true := decide_eq_true c25
                                  have c25b1 : decide (((rd_T38 t246 x12_3).f0).size ≤ (rdOf ByteArray.empty l0 x9_1).size) = true := decide_eq_true (Int.ofNat_le.mp c25)
                                  clear c25
                                  by_cases c26 : 0 ≤ (((rd_T38 t246 x12_3).f0).size : Int)
                                  · rw [if_pos c26] at H
                                    have c26b0 := eq_true c26
                                    have c26b1 : decide (0 ≤ (((rd_T38 t246 x12_3).f0).size : Int)) = true := decide_eq_true c26
                                    clear c26
                                    have c27b0 := eq_true (of_decide_eq_true (by first | (with_reducible assumption) | assumption) : (((rd_T38 t246 x12_3).f0).size : Int) ≤ ((rdOf ByteArray.empty l0 x9_1).size : Int))
                                    have H' := Aside0.mk H
                                    clear H
                                    obtain ⟨Ao28, co28, eo28⟩ := Kd.V_slice HO_7.out
                                    subst eo28
                                    have p251 : 0 ≤ (x12_3 : Int) := of_decide_eq_true (by first | (with_reducible assumption) | assumption)
                                    have q251 : x12_3 < (t246.length : Int) := of_decide_eq_true (by first | (with_reducible assumption) | assumption)
                                    obtain ⟨ad251, e251, hx251_0, hx251_1⟩ := at_T38 (Kd.V_reads' HO_7.out).2.2 x12_3 p251 q251
                                    (try rw [← Nbq22.out] at hx251_1)
                                    cases e251
                                    replace p251 := eq_true p251
                                    replace q251 := eq_true q251
                                    have p252 : 0 ≤ (x12_3 : Int) := of_decide_eq_true (by first | (with_reducible assumption) | assumption)
                                    have q252 : x12_3 < (t246.length : Int) := of_decide_eq_true (by first | (with_reducible assumption) | assumption)
                                    obtain ⟨ad252, e252, hx252_0, hx252_1⟩ := at_T38 (Kd.V_reads' HO_7.out).2.2 x12_3 p252 q252
                                    (try rw [← Nbq22.out] at hx252_1)
                                    obtain rfl : ad251 = ad252 := (by injection e252)
                                    replace p252 := eq_true p252
                                    replace q252 := eq_true q252
                                    have p253 : 0 ≤ (x12_3 : Int) := of_decide_eq_true (by first | (with_reducible assumption) | assumption)
                                    have q253 : x12_3 < (t246.length : Int) := of_decide_eq_true (by first | (with_reducible assumption) | assumption)
                                    obtain ⟨ad253, e253, hx253_0, hx253_1⟩ := at_T38 (Kd.V_reads' HO_7.out).2.2 x12_3 p253 q253
                                    (try rw [← Nbq22.out] at hx253_1)
                                    obtain rfl : ad251 = ad253 := (by injection e253)
                                    replace p253 := eq_true p253
                                    replace q253 := eq_true q253
                                    go_wp2
                                    repeat (go_quiet (fail); try go_wp2)
                                    go_roundg k3
                                    case measure => have := HK1.out; have := HJ12.out; have := HK3.out; omega
                                    case rel => exact ⟨((((rdOf ByteArray.empty l0 x9_1).extract 0 ((((rd_T38 t246 x12_3).f0).size : Int) : Int).toNat).toList == ((rd_T38 t246 x12_3).f0).toList)), (wrap64 (x12_3 + 1)), (by first | rfl | (simp; done) | (simp [*]; done)), (by first | rfl | (simp; done) | (simp [*]; done)), H', ⟨by have := HK1.out; have := HJ12.out; have := HK3.out; omega⟩, ⟨by (with_reducible repeat (first | apply Kd.V_alloc | apply Kd.V_drewN | apply Kd.V_drew)); exact HO_7.out⟩, ⟨by repeat (first | (with_reducible first | exact HB.out | apply below_alloc | apply pw_below_drewN | apply below_drew1) | exact HB.out)⟩⟩
                                  · rw [if_neg c26] at H
                                    exact absurd H (by simp)
                                · rw [if_neg c25] at H
                                  have c25b0 : decide ((((rd_T38 t246 x12_3).f0).size : Int) ≤ ((rdOf ByteArray.empty l0 x9_1).size : Int)) = false := decide_eq_false c25
                                  have c25b1 : decide (((rd_T38 t246 x12_3).f0).size ≤ (rdOf ByteArray.empty l0 x9_1).size) = false := decide_eq_false (fun h => c25 (Int.ofNat_le.mpr h))
                                  clear c25
                                  have H' := Aside0.mk H
                                  clear H
                                  obtain ⟨Ao29, co29, eo29⟩ := Kd.V_slice HO_7.out
                                  subst eo29
                                  have p251 : 0 ≤ (x12_3 : Int) := of_decide_eq_true (by first | (with_reducible assumption) | assumption)
                                  have q251 : x12_3 < (t246.length : Int) := of_decide_eq_true (by first | (with_reducible assumption) | assumption)
                                  obtain ⟨ad251, e251, hx251_0, hx251_1⟩ := at_T38 (Kd.V_reads' HO_7.out).2.2 x12_3 p251 q251
                                  (try rw [← Nbq22.out] at hx251_1)
                                  cases e251
                                  replace p251 := eq_true p251
                                  replace q251 := eq_true q251
                                  have p252 : 0 ≤ (x12_3 : Int) := of_decide_eq_true (by first | (with_reducible assumption) | assumption)
                                  have q252 : x12_3 < (t246.length : Int) := of_decide_eq_true (by first | (with_reducible assumption) | assumption)
                                  obtain ⟨ad252, e252, hx252_0, hx252_1⟩ := at_T38 (Kd.V_reads' HO_7.out).2.2 x12_3 p252 q252
                                  (try rw [← Nbq22.out] at hx252_1)
                                  obtain rfl : ad251 = ad252 := (by injection e252)
                                  replace p252 := eq_true p252
                                  replace q252 := eq_true q252
                                  have p253 : 0 ≤ (x12_3 : Int) := of_decide_eq_true (by first | (with_reducible assumption) | assumption)
                                  have q253 : x12_3 < (t246.length : Int) := of_decide_eq_true (by first | (with_reducible assumption) | assumption)
                                  obtain ⟨ad253, e253, hx253_0, hx253_1⟩ := at_T38 (Kd.V_reads' HO_7.out).2.2 x12_3 p253 q253
                                  (try rw [← Nbq22.out] at hx253_1)
                                  obtain rfl : ad251 = ad253 := (by injection e253)
                                  replace p253 := eq_true p253
                                  replace q253 := eq_true q253
                                  go_wp2
                                  repeat (go_quiet (fail); try go_wp2)
                                  go_roundg k3
                                  case measure => have := HK1.out; have := HJ12.out; have := HK3.out; omega
                                  case rel => exact ⟨(false), (wrap64 (x12_3 + 1)), (by first | rfl | (simp; done) | (simp [*]; done)), (by first | rfl | (simp; done) | (simp [*]; done)), H', ⟨by have := HK1.out; have := HJ12.out; have := HK3.out; omega⟩, ⟨by (with_reducible repeat (first | apply Kd.V_alloc | apply Kd.V_drewN | apply Kd.V_drew)); exact HO_7.out⟩, ⟨by repeat (first | (with_reducible first | exact HB.out | apply below_alloc | apply pw_below_drewN | apply below_drew1) | exact HB.out)⟩⟩
                              · exact absurd rfl c24
                            · replace c23 := Bool.eq_false_iff.mpr c23
                              subst c23
                              have H1 : (if ((rd_T38 t246 x12_3).f0).toList = (rdOf ByteArray.empty l0 x9_1).toList then (stowagelaw12_NamesCover.l1 k3 l0 a1 a2 t246 x9_1 (rdOf ByteArray.empty l0 x9_1) true (wrap64 (x12_3 + 1))) else (if false = true then (if (((rd_T38 t246 x12_3).f0).size : Int) ≤ ((rdOf ByteArray.empty l0 x9_1).size : Int) then (if 0 ≤ (((rd_T38 t246 x12_3).f0).size : Int) then (stowagelaw12_NamesCover.l1 k3 l0 a1 a2 t246 x9_1 (rdOf ByteArray.empty l0 x9_1) (((rdOf ByteArray.empty l0 x9_1).extract 0 ((((rd_T38 t246 x12_3).f0).size : Int) : Int).toNat).toList == ((rd_T38 t246 x12_3).f0).toList) (wrap64 (x12_3 + 1))) else (none)) else (stowagelaw12_NamesCover.l1 k3 l0 a1 a2 t246 x9_1 (rdOf ByteArray.empty l0 x9_1) false (wrap64 (x12_3 + 1)))) else (stowagelaw12_NamesCover.l1 k3 l0 a1 a2 t246 x9_1 (rdOf ByteArray.empty l0 x9_1) false (wrap64 (x12_3 + 1))))) = some r := by rw [if_neg (show ¬ (false = true) by decide)] at H; exact H
                              clear H
                              have H := H1
                              clear H1
                              by_cases c31 : ((rd_T38 t246 x12_3).f0).toList = (rdOf ByteArray.empty l0 x9_1).toList
                              · rw [if_pos c31] at H
                                have c31b0 : (((rd_T38 t246 x12_3).f0).toList == (rdOf ByteArray.empty l0 x9_1).toList) = true := beq_iff_eq.mpr c31
                                have c31b1 : (((rd_T38 t246 x12_3).f0).toList != (rdOf ByteArray.empty l0 x9_1).toList) = false := bne_eq_false_iff_eq.mpr c31
                                clear c31
                                have H' := Aside0.mk H
                                clear H
                                obtain ⟨Ao32, co32, eo32⟩ := Kd.V_slice HO_7.out
                                subst eo32
                                have p251 : 0 ≤ (x12_3 : Int) := of_decide_eq_true (by first | (with_reducible assumption) | assumption)
                                have q251 : x12_3 < (t246.length : Int) := of_decide_eq_true (by first | (with_reducible assumption) | assumption)
                                obtain ⟨ad251, e251, hx251_0, hx251_1⟩ := at_T38 (Kd.V_reads' HO_7.out).2.2 x12_3 p251 q251
                                (try rw [← Nbq22.out] at hx251_1)
                                cases e251
                                replace p251 := eq_true p251
                                replace q251 := eq_true q251
                                have p252 : 0 ≤ (x12_3 : Int) := of_decide_eq_true (by first | (with_reducible assumption) | assumption)
                                have q252 : x12_3 < (t246.length : Int) := of_decide_eq_true (by first | (with_reducible assumption) | assumption)
                                obtain ⟨ad252, e252, hx252_0, hx252_1⟩ := at_T38 (Kd.V_reads' HO_7.out).2.2 x12_3 p252 q252
                                (try rw [← Nbq22.out] at hx252_1)
                                obtain rfl : ad251 = ad252 := (by injection e252)
                                replace p252 := eq_true p252
                                replace q252 := eq_true q252
                                go_wp2
                                repeat (go_quiet (fail); try go_wp2)
                                go_roundg k3
                                case measure => have := HK1.out; have := HJ12.out; have := HK3.out; omega
                                case rel => exact ⟨(true), (wrap64 (x12_3 + 1)), (by first | rfl | (simp; done) | (simp [*]; done)), (by first | rfl | (simp; done) | (simp [*]; done)), H', ⟨by have := HK1.out; have := HJ12.out; have := HK3.out; omega⟩, ⟨by (with_reducible repeat (first | apply Kd.V_alloc | apply Kd.V_drewN | apply Kd.V_drew)); exact HO_7.out⟩, ⟨by repeat (first | (with_reducible first | exact HB.out | apply below_alloc | apply pw_below_drewN | apply below_drew1) | exact HB.out)⟩⟩
                              · rw [if_neg c31] at H
                                have c31b0 : (((rd_T38 t246 x12_3).f0).toList == (rdOf ByteArray.empty l0 x9_1).toList) = false := beq_eq_false_iff_ne.mpr c31
                                have c31b1 : (((rd_T38 t246 x12_3).f0).toList != (rdOf ByteArray.empty l0 x9_1).toList) = true := bne_iff_ne.mpr c31
                                by_cases c33 : false = true
                                · exact absurd c33 (by decide)
                                · clear c33
                                  have H1 : (stowagelaw12_NamesCover.l1 k3 l0 a1 a2 t246 x9_1 (rdOf ByteArray.empty l0 x9_1) false (wrap64 (x12_3 + 1))) = some r := by rw [if_neg (show ¬ (false = true) by decide)] at H; exact H
                                  clear H
                                  have H := H1
                                  clear H1
                                  have H' := Aside0.mk H
                                  clear H
                                  obtain ⟨Ao39, co39, eo39⟩ := Kd.V_slice HO_7.out
                                  subst eo39
                                  have p251 : 0 ≤ (x12_3 : Int) := of_decide_eq_true (by first | (with_reducible assumption) | assumption)
                                  have q251 : x12_3 < (t246.length : Int) := of_decide_eq_true (by first | (with_reducible assumption) | assumption)
                                  obtain ⟨ad251, e251, hx251_0, hx251_1⟩ := at_T38 (Kd.V_reads' HO_7.out).2.2 x12_3 p251 q251
                                  (try rw [← Nbq22.out] at hx251_1)
                                  cases e251
                                  replace p251 := eq_true p251
                                  replace q251 := eq_true q251
                                  have p252 : 0 ≤ (x12_3 : Int) := of_decide_eq_true (by first | (with_reducible assumption) | assumption)
                                  have q252 : x12_3 < (t246.length : Int) := of_decide_eq_true (by first | (with_reducible assumption) | assumption)
                                  obtain ⟨ad252, e252, hx252_0, hx252_1⟩ := at_T38 (Kd.V_reads' HO_7.out).2.2 x12_3 p252 q252
                                  (try rw [← Nbq22.out] at hx252_1)
                                  obtain rfl : ad251 = ad252 := (by injection e252)
                                  replace p252 := eq_true p252
                                  replace q252 := eq_true q252
                                  have p254 : 0 ≤ (x12_3 : Int) := of_decide_eq_true (by first | (with_reducible assumption) | assumption)
                                  have q254 : x12_3 < (t246.length : Int) := of_decide_eq_true (by first | (with_reducible assumption) | assumption)
                                  obtain ⟨ad254, e254, hx254_0, hx254_1⟩ := at_T38 (Kd.V_reads' HO_7.out).2.2 x12_3 p254 q254
                                  (try rw [← Nbq22.out] at hx254_1)
                                  obtain rfl : ad251 = ad254 := (by injection e254)
                                  replace p254 := eq_true p254
                                  replace q254 := eq_true q254
                                  go_wp2
                                  repeat (go_quiet (fail); try go_wp2)
                                  go_roundg k3
                                  case measure => have := HK1.out; have := HJ12.out; have := HK3.out; omega
                                  case rel => exact ⟨(false), (wrap64 (x12_3 + 1)), (by first | rfl | (simp; done) | (simp [*]; done)), (by first | rfl | (simp; done) | (simp [*]; done)), H', ⟨by have := HK1.out; have := HJ12.out; have := HK3.out; omega⟩, ⟨by (with_reducible repeat (first | apply Kd.V_alloc | apply Kd.V_drewN | apply Kd.V_drew)); exact HO_7.out⟩, ⟨by repeat (first | (with_reducible first | exact HB.out | apply below_alloc | apply pw_below_drewN | apply below_drew1) | exact HB.out)⟩⟩
                        · rw [if_neg c19] at H
                          exact absurd H (by simp)
                      · rw [if_neg c18] at H
                        have c18b0 : decide (x12_3 < (t246.length : Int)) = false := decide_eq_false c18
                        clear c18
                        by_cases c40 : x11_3 = true
                        · subst c40
                          have H1 : (stowagelaw12_NamesCover.l0 k3 l0 a1 a2 t246 (wrap64 (x9_1 + 1))) = some r := by rw [if_pos rfl] at H; exact H
                          clear H
                          have H := H1
                          clear H1
                          have H' := Aside0.mk H
                          clear H
                          obtain ⟨Ao41, co41, eo41⟩ := Kd.V_slice HO_7.out
                          subst eo41
                          go_wp2
                          repeat (go_quiet (fail); try go_wp2)
                          go_roundg k3
                          case measure => have := HK1.out; have := HJ12.out; have := HK3.out; omega
                          case rel => exact ⟨(wrap64 (x9_1 + 1)), (by first | rfl | (simp; done) | (simp [*]; done)), H', ⟨by have := HK1.out; have := HJ12.out; have := HK3.out; omega⟩, ⟨by (with_reducible repeat (first | apply Kd.V_alloc | apply Kd.V_drewN | apply Kd.V_drew)); exact HO_7.out⟩, ⟨by repeat (first | (with_reducible first | exact HB.out | apply below_alloc | apply pw_below_drewN | apply below_drew1) | exact HB.out)⟩⟩
                        · replace c40 := Bool.eq_false_iff.mpr c40
                          subst c40
                          have H1 : (some false) = some r := by rw [if_neg (show ¬ (false = true) by decide)] at H; exact H
                          clear H
                          have H := H1
                          clear H1
                          obtain rfl := Option.some.inj H
                          obtain ⟨Ao42, co42, eo42⟩ := Kd.V_slice HO_7.out
                          subst eo42
                          go_wp2
                          repeat (go_quiet (fail); try go_wp2)
                          go_ret
                          exact ⟨by first | rfl | (simp [errW_none, errW_some] <;> rfl) | (simp [*, errW_none, errW_some] <;> rfl), by repeat (first | (with_reducible first | exact HB.out | apply below_alloc | apply pw_below_drewN | apply below_drew1) | exact HB.out)⟩
            · rw [if_neg c12] at H
              exact absurd H (by simp)
          · rw [if_neg c11] at H
            have c11b0 : decide (x9_1 < (l0.length : Int)) = false := decide_eq_false c11
            clear c11
            have H' := Aside0.mk H
            clear H
            go_wp2
            repeat (go_quiet (fail); try go_wp2)
            go_loopg [14] k1 (fun kq v14 w' => ∃ (x14_2 : Int), v14 = .int .i64 x14_2 ∧ Aside0 (stowagelaw12_NamesCover.l2 kq l0 a1 a2 t246 x14_2 = some r) ∧ Aside0 (kq ≤ k1) ∧ Aside0 (Kd.V k38 38 w' w.heap.size (fun _ => True) v247 t246) ∧ Aside0 (Below w.heap.size w w'))
            case atStart => exact ⟨(0), (by first | rfl | (simp; done) | (simp [*]; done)), H', ⟨Nat.le_refl _⟩, ⟨by (with_reducible repeat (first | apply Kd.V_alloc | apply Kd.V_drewN | apply Kd.V_drew)); exact HO_7.out⟩, ⟨by repeat (first | (with_reducible first | exact HB.out | apply below_alloc | apply pw_below_drewN | apply below_drew1) | exact HB.out)⟩⟩
            case round =>
              clear H'
              try clear c1
              try clear c2
              try clear p2
              try clear q2
              try clear hx2
              try clear c3
              try clear c4
              try clear c4b0
              try clear c4b1
              try clear c6
              try clear p6
              try clear c8
              try clear c11
              try clear c11b0
              try clear c12
              try clear c12b0
              try clear c14
              try clear c14b0
              try clear c14b1
              try clear c15
              try clear c15b0
              try clear c15b1
              try clear c16
              try clear c16b0
              try clear c16b1
              try clear c17
              try clear c17b0
              try clear c17b1
              try clear c18
              try clear c18b0
              try clear c19
              try clear c19b0
              try clear c20
              try clear q22
              try clear c23
              try clear c24
              try clear c25
              try clear c25b0
              try clear c25b1
              try clear p25
              try clear q25
              try clear hx25
              try clear c26
              try clear c26b0
              try clear c26b1
              try clear c27
              try clear c27b0
              try clear c31
              try clear c31b0
              try clear c31b1
              try clear c33
              try clear c34
              try clear c34b0
              try clear c34b1
              try clear c35
              try clear c35b0
              try clear c35b1
              try clear c36
              try clear c36b0
              try clear c40
              try clear hx250_0
              try clear hx251_0
              try clear hx251_1
              try clear hx252_0
              try clear hx252_1
              try clear hx253_0
              try clear hx253_1
              try clear hx254_0
              try clear hx254_1
              try clear p2
              try clear p250
              try clear p251
              try clear p252
              try clear p253
              try clear p254
              try clear p6
              try clear q2
              try clear q250
              try clear q251
              try clear q252
              try clear q253
              try clear q254
              obtain ⟨x14_2, rfl, HA, HK2, HO_7, HB⟩ := hrel
              cases gk with
              | zero => exact absurd HA.out (by simp [stowagelaw12_NamesCover.l2])
              | succ k2 =>
                have H := HA.out
                clear HA
                simp only [stowagelaw12_NamesCover.l2] at H
                by_cases c43 : x14_2 < (t246.length : Int)
                · rw [if_pos c43] at H
                  have c43b0 : decide (x14_2 < (t246.length : Int)) = true := decide_eq_true c43
                  clear c43
                  by_cases c44 : 0 ≤ x14_2
                  · rw [if_pos c44] at H
                    have c44b0 : decide (0 ≤ x14_2) = true := decide_eq_true c44
                    clear c44
                    have H' := Aside0.mk H
                    clear H
                    obtain ⟨Ao45, co45, eo45⟩ := Kd.V_slice HO_7.out
                    subst eo45
                    have p256 : 0 ≤ (x14_2 : Int) := of_decide_eq_true (by first | (with_reducible assumption) | assumption)
                    have q256 : x14_2 < (t246.length : Int) := of_decide_eq_true (by first | (with_reducible assumption) | assumption)
                    obtain ⟨ad256, e256, hx256_0, hx256_1⟩ := at_T38 (Kd.V_reads' HO_7.out).2.2 x14_2 p256 q256
                    cases e256
                    replace p256 := eq_true p256
                    replace q256 := eq_true q256
                    go_wp2
                    repeat (go_quiet (fail); try go_wp2)
                    go_loopg [16, 17] k2 (fun kq v16 v17 w' => ∃ (x16_3 : Bool) (x17_3 : Int), v16 = .bool x16_3 ∧ v17 = .int .i64 x17_3 ∧ Aside0 (stowagelaw12_NamesCover.l3 kq l0 a1 a2 t246 x14_2 ((rd_T38 t246 x14_2).f0) x16_3 x17_3 = some r) ∧ Aside0 (kq ≤ k2) ∧ Aside0 (Kd.V k38 38 w' w.heap.size (fun _ => True) (.slice (some ad256) t246.length co45) t246) ∧ Aside0 (Below w.heap.size w w'))
                    case atStart => exact ⟨(false), (0), (by first | rfl | (simp; done) | (simp [*]; done)), (by first | rfl | (simp; done) | (simp [*]; done)), H', ⟨Nat.le_refl _⟩, ⟨by (with_reducible repeat (first | apply Kd.V_alloc | apply Kd.V_drewN | apply Kd.V_drew)); exact HO_7.out⟩, ⟨by repeat (first | (with_reducible first | exact HB.out | apply below_alloc | apply pw_below_drewN | apply below_drew1) | exact HB.out)⟩⟩
                    case round =>
                      clear H'
                      try clear c1
                      try clear c2
                      try clear p2
                      try clear q2
                      try clear hx2
                      try clear c3
                      try clear c4
                      try clear c4b0
                      try clear c4b1
                      try clear c6
                      try clear p6
                      try clear c8
                      try clear c11
                      try clear c11b0
                      try clear c12
                      try clear c12b0
                      try clear c14
                      try clear c14b0
                      try clear c14b1
                      try clear c15
                      try clear c15b0
                      try clear c15b1
                      try clear c16
                      try clear c16b0
                      try clear c16b1
                      try clear c17
                      try clear c17b0
                      try clear c17b1
                      try clear c18
                      try clear c18b0
                      try clear c19
                      try clear c19b0
                      try clear c20
                      try clear q22
                      try clear c23
                      try clear c24
                      try clear c25
                      try clear c25b0
                      try clear c25b1
                      try clear p25
                      try clear q25
                      try clear hx25
                      try clear c26
                      try clear c26b0
                      try clear c26b1
                      try clear c27
                      try clear c27b0
                      try clear c31
                      try clear c31b0
                      try clear c31b1
                      try clear c33
                      try clear c34
                      try clear c34b0
                      try clear c34b1
                      try clear c35
                      try clear c35b0
                      try clear c35b1
                      try clear c36
                      try clear c36b0
                      try clear c40
                      try clear c43
                      try clear c43b0
                      try clear c44
                      try clear c44b0
                      try clear hx250_0
                      try clear hx251_0
                      try clear hx251_1
                      try clear hx252_0
                      try clear hx252_1
                      try clear hx253_0
                      try clear hx253_1
                      try clear hx254_0
                      try clear hx254_1
                      try clear hx256_0
                      try clear hx256_1
                      try clear p2
                      try clear p25
                      try clear p250
                      try clear p251
                      try clear p252
                      try clear p253
                      try clear p254
                      try clear p256
                      try clear p6
                      try clear q2
                      try clear q22
                      try clear q25
                      try clear q250
                      try clear q251
                      try clear q252
                      try clear q253
                      try clear q254
                      try clear q256
                      obtain ⟨x16_3, x17_3, rfl, rfl, HA, HK3, HO_7, HB⟩ := hrel
                      cases gk with
                      | zero => exact absurd HA.out (by simp [stowagelaw12_NamesCover.l3])
                      | succ k3 =>
                        have H := HA.out
                        clear HA
                        simp only [stowagelaw12_NamesCover.l3] at H
                        by_cases c46 : x17_3 < (l0.length : Int)
                        · rw [if_pos c46] at H
                          have c46b0 : decide (x17_3 < (l0.length : Int)) = true := decide_eq_true c46
                          clear c46
                          by_cases c47 : x16_3 = true
                          · subst c47
                            have H1 : (stowagelaw12_NamesCover.l3 k3 l0 a1 a2 t246 x14_2 ((rd_T38 t246 x14_2).f0) true (wrap64 (x17_3 + 1))) = some r := by rw [if_pos rfl] at H; exact H
                            clear H
                            have H := H1
                            clear H1
                            have H' := Aside0.mk H
                            clear H
                            go_wp2
                            repeat (go_quiet (fail); try go_wp2)
                            go_roundg k3
                            case measure => have := HK1.out; have := HK2.out; have := HK3.out; omega
                            case rel => exact ⟨(true), (wrap64 (x17_3 + 1)), (by first | rfl | (simp; done) | (simp [*]; done)), (by first | rfl | (simp; done) | (simp [*]; done)), H', ⟨by have := HK1.out; have := HK2.out; have := HK3.out; omega⟩, ⟨by (with_reducible repeat (first | apply Kd.V_alloc | apply Kd.V_drewN | apply Kd.V_drew)); exact HO_7.out⟩, ⟨by repeat (first | (with_reducible first | exact HB.out | apply below_alloc | apply pw_below_drewN | apply below_drew1) | exact HB.out)⟩⟩
                          · replace c47 := Bool.eq_false_iff.mpr c47
                            subst c47
                            have H1 : (if 0 ≤ x17_3 then (if (rdOf ByteArray.empty l0 x17_3).toList = ((rd_T38 t246 x14_2).f0).toList then (stowagelaw12_NamesCover.l3 k3 l0 a1 a2 t246 x14_2 ((rd_T38 t246 x14_2).f0) true (wrap64 (x17_3 + 1))) else (if 0 ≤ x14_2 then (if x14_2 < (t246.length : Int) then (if (rd_T38 t246 x14_2).f1 = true then (if ((rdOf ByteArray.empty l0 x17_3).size : Int) ≥ (((rd_T38 t246 x14_2).f0).size : Int) then (if 0 ≤ (((rd_T38 t246 x14_2).f0).size : Int) then (if (((rd_T38 t246 x14_2).f0).size : Int) ≤ ((rdOf ByteArray.empty l0 x17_3).size : Int) then (stowagelaw12_NamesCover.l3 k3 l0 a1 a2 t246 x14_2 ((rd_T38 t246 x14_2).f0) (((rdOf ByteArray.empty l0 x17_3).extract 0 ((((rd_T38 t246 x14_2).f0).size : Int) : Int).toNat).toList == ((rd_T38 t246 x14_2).f0).toList) (wrap64 (x17_3 + 1))) else (none)) else (none)) else (stowagelaw12_NamesCover.l3 k3 l0 a1 a2 t246 x14_2 ((rd_T38 t246 x14_2).f0) false (wrap64 (x17_3 + 1)))) else (stowagelaw12_NamesCover.l3 k3 l0 a1 a2 t246 x14_2 ((rd_T38 t246 x14_2).f0) false (wrap64 (x17_3 + 1)))) else (none)) else (none))) else (none)) = some r := by rw [if_neg (show ¬ (false = true) by decide)] at H; exact H
                            clear H
                            have H := H1
                            clear H1
                            by_cases c48 : 0 ≤ x17_3
                            · rw [if_pos c48] at H
                              have c48b0 : decide (0 ≤ x17_3) = true := decide_eq_true c48
                              clear c48
                              by_cases c49 : (rdOf ByteArray.empty l0 x17_3).toList = ((rd_T38 t246 x14_2).f0).toList
                              · rw [if_pos c49] at H
                                have c49b0 : ((rdOf ByteArray.empty l0 x17_3).toList == ((rd_T38 t246 x14_2).f0).toList) = true := beq_iff_eq.mpr c49
                                have c49b1 : ((rdOf ByteArray.empty l0 x17_3).toList != ((rd_T38 t246 x14_2).f0).toList) = false := bne_eq_false_iff_eq.mpr c49
                                clear c49
                                have H' := Aside0.mk H
                                clear H
                                have p257 : 0 ≤ (x17_3 : Int) := of_decide_eq_true (by first | (with_reducible assumption) | assumption)
                                have q257 : x17_3 < (l0.length : Int) := of_decide_eq_true (by first | (with_reducible assumption) | assumption)
                                obtain ⟨ad257, e257, hx257_0⟩ := Kd.at_string HR0.out x17_3 p257 q257
                                cases e257
                                replace hx257_0 := (HB.out.cell (World.block_lt_of_cell? w _ hx257_0)).trans hx257_0
                                replace p257 := eq_true p257
                                replace q257 := eq_true q257
                                go_wp2
                                repeat (go_quiet (fail); try go_wp2)
                                go_roundg k3
                                case measure => have := HK1.out; have := HK2.out; have := HK3.out; omega
                                case rel => exact ⟨(true), (wrap64 (x17_3 + 1)), (by first | rfl | (simp; done) | (simp [*]; done)), (by first | rfl | (simp; done) | (simp [*]; done)), H', ⟨by have := HK1.out; have := HK2.out; have := HK3.out; omega⟩, ⟨by (with_reducible repeat (first | apply Kd.V_alloc | apply Kd.V_drewN | apply Kd.V_drew)); exact HO_7.out⟩, ⟨by repeat (first | (with_reducible first | exact HB.out | apply below_alloc | apply pw_below_drewN | apply below_drew1) | exact HB.out)⟩⟩
                              · rw [if_neg c49] at H
                                have c49b0 : ((rdOf ByteArray.empty l0 x17_3).toList == ((rd_T38 t246 x14_2).f0).toList) = false := beq_eq_false_iff_ne.mpr c49
                                have c49b1 : ((rdOf ByteArray.empty l0 x17_3).toList != ((rd_T38 t246 x14_2).f0).toList) = true := bne_iff_ne.mpr c49
                                by_cases c50 : 0 ≤ x14_2
                                · rw [if_pos c50] at H
                                  have c50b0 : decide (0 ≤ x14_2) = true := decide_eq_true c50
                                  clear c50
                                  by_cases c51 : x14_2 < (t246.length : Int)
                                  · rw [if_pos c51] at H
                                    have c51b0 : decide (x14_2 < (t246.length : Int)) = true := decide_eq_true c51
                                    clear c51
                                    obtain ⟨bq52, hbq52⟩ : ∃ b_ : Bool, b_ = ((rd_T38 t246 x14_2).f1) := ⟨_, rfl⟩
                                    replace H : (if bq52 = true then (if ((rdOf ByteArray.empty l0 x17_3).size : Int) ≥ (((rd_T38 t246 x14_2).f0).size : Int) then (if 0 ≤ (((rd_T38 t246 x14_2).f0).size : Int) then (if (((rd_T38 t246 x14_2).f0).size : Int) ≤ ((rdOf ByteArray.empty l0 x17_3).size : Int) then (stowagelaw12_NamesCover.l3 k3 l0 a1 a2 t246 x14_2 ((rd_T38 t246 x14_2).f0) (((rdOf ByteArray.empty l0 x17_3).extract 0 ((((rd_T38 t246 x14_2).f0).size : Int) : Int).toNat).toList == ((rd_T38 t246 x14_2).f0).toList) (wrap64 (x17_3 + 1))) else (none)) else (none)) else (stowagelaw12_NamesCover.l3 k3 l0 a1 a2 t246 x14_2 ((rd_T38 t246 x14_2).f0) false (wrap64 (x17_3 + 1)))) else (stowagelaw12_NamesCover.l3 k3 l0 a1 a2 t246 x14_2 ((rd_T38 t246 x14_2).f0) false (wrap64 (x17_3 + 1)))) = some r := by rw [← hbq52] at H; exact H
                                    have Nbq52 := Aside0.mk hbq52
                                    clear hbq52
                                    by_cases c53 : bq52 = true
                                    · subst c53
                                      have H1 : (if ((rdOf ByteArray.empty l0 x17_3).size : Int) ≥ (((rd_T38 t246 x14_2).f0).size : Int) then (if 0 ≤ (((rd_T38 t246 x14_2).f0).size : Int) then (if (((rd_T38 t246 x14_2).f0).size : Int) ≤ ((rdOf ByteArray.empty l0 x17_3).size : Int) then (stowagelaw12_NamesCover.l3 k3 l0 a1 a2 t246 x14_2 ((rd_T38 t246 x14_2).f0) (((rdOf ByteArray.empty l0 x17_3).extract 0 ((((rd_T38 t246 x14_2).f0).size : Int) : Int).toNat).toList == ((rd_T38 t246 x14_2).f0).toList) (wrap64 (x17_3 + 1))) else (none)) else (none)) else (stowagelaw12_NamesCover.l3 k3 l0 a1 a2 t246 x14_2 ((rd_T38 t246 x14_2).f0) false (wrap64 (x17_3 + 1)))) = some r := by rw [if_pos rfl] at H; exact H
                                      clear H
                                      have H := H1
                                      clear H1
                                      by_cases c54 : ((rdOf ByteArray.empty l0 x17_3).size : Int) ≥ (((rd_T38 t246 x14_2).f0).size : Int)
                                      · rw [if_pos c54] at H
                                        have c54b0 : decide ((((rd_T38 t246 x14_2).f0).size : Int) ≤ ((rdOf ByteArray.empty l0 x17_3).size : Int)) = true := decide_eq_true c54
                                        have c54b1 : decide (((rd_T38 t246 x14_2).f0).size ≤ (rdOf ByteArray.empty l0 x17_3).size) = true := decide_eq_true (Int.ofNat_le.mp c54)
                                        clear c54
                                        by_cases c55 : 0 ≤ (((rd_T38 t246 x14_2).f0).size : Int)
                                        · rw [if_pos c55] at H
                                          have c55b0 := eq_true c55
                                          have c55b1 : decide (0 ≤ (((rd_T38 t246 x14_2).f0).size : Int)) = true := decide_eq_true c55
                                          clear c55
                                          by_cases c56 : (((rd_T38 t246 x14_2).f0).size : Int) ≤ ((rdOf ByteArray.empty l0 x17_3).size : Int)
                                          · rw [if_pos c56] at H
                                            have c56b0 := eq_true c56
                                            have c56b1 : decide ((((rd_T38 t246 x14_2).f0).size : Int) ≤ ((rdOf ByteArray.empty l0 x17_3).size : Int)) = true := decide_eq_true c56
                                            clear c56
                                            have H' := Aside0.mk H
                                            clear H
                                            have p257 : 0 ≤ (x17_3 : Int) := of_decide_eq_true (by first | (with_reducible assumption) | assumption)
                                            have q257 : x17_3 < (l0.length : Int) := of_decide_eq_true (by first | (with_reducible assumption) | assumption)
                                            obtain ⟨ad257, e257, hx257_0⟩ := Kd.at_string HR0.out x17_3 p257 q257
                                            cases e257
                                            replace hx257_0 := (HB.out.cell (World.block_lt_of_cell? w _ hx257_0)).trans hx257_0
                                            replace p257 := eq_true p257
                                            replace q257 := eq_true q257
                                            have p258 : 0 ≤ (x14_2 : Int) := of_decide_eq_true (by first | (with_reducible assumption) | assumption)
                                            have q258 : x14_2 < (t246.length : Int) := of_decide_eq_true (by first | (with_reducible assumption) | assumption)
                                            obtain ⟨ad258, e258, hx258_0, hx258_1⟩ := at_T38 (Kd.V_reads' HO_7.out).2.2 x14_2 p258 q258
                                            (try rw [← Nbq52.out] at hx258_1)
                                            obtain rfl : ad256 = ad258 := (by injection e258)
                                            replace p258 := eq_true p258
                                            replace q258 := eq_true q258
                                            have p259 : 0 ≤ (x17_3 : Int) := of_decide_eq_true (by first | (with_reducible assumption) | assumption)
                                            have q259 : x17_3 < (l0.length : Int) := of_decide_eq_true (by first | (with_reducible assumption) | assumption)
                                            obtain ⟨ad259, e259, hx259_0⟩ := Kd.at_string HR0.out x17_3 p259 q259
                                            obtain rfl : ad257 = ad259 := (by injection e259)
                                            replace hx259_0 := (HB.out.cell (World.block_lt_of_cell? w _ hx259_0)).trans hx259_0
                                            replace p259 := eq_true p259
                                            replace q259 := eq_true q259
                                            have p260 : 0 ≤ (x17_3 : Int) := of_decide_eq_true (by first | (with_reducible assumption) | assumption)
                                            have q260 : x17_3 < (l0.length : Int) := of_decide_eq_true (by first | (with_reducible assumption) | assumption)
                                            obtain ⟨ad260, e260, hx260_0⟩ := Kd.at_string HR0.out x17_3 p260 q260
                                            obtain rfl : ad257 = ad260 := (by injection e260)
                                            replace hx260_0 := (HB.out.cell (World.block_lt_of_cell? w _ hx260_0)).trans hx260_0
                                            replace p260 := eq_true p260
                                            replace q260 := eq_true q260
                                            go_wp2
                                            repeat (go_quiet (fail); try go_wp2)
                                            go_roundg k3
                                            case measure => have := HK1.out; have := HK2.out; have := HK3.out; omega
                                            case rel => exact ⟨((((rdOf ByteArray.empty l0 x17_3).extract 0 ((((rd_T38 t246 x14_2).f0).size : Int) : Int).toNat).toList == ((rd_T38 t246 x14_2).f0).toList)), (wrap64 (x17_3 + 1)), (by first | rfl | (simp; done) | (simp [*]; done)), (by first | rfl | (simp; done) | (simp [*]; done)), H', ⟨by have := HK1.out; have := HK2.out; have := HK3.out; omega⟩, ⟨by (with_reducible repeat (first | apply Kd.V_alloc | apply Kd.V_drewN | apply Kd.V_drew)); exact HO_7.out⟩, ⟨by repeat (first | (with_reducible first | exact HB.out | apply below_alloc | apply pw_below_drewN | apply below_drew1) | exact HB.out)⟩⟩
                                          · rw [if_neg c56] at H
                                            exact absurd H (by simp)
                                        · rw [if_neg c55] at H
                                          exact absurd H (by simp)
                                      · rw [if_neg c54] at H
                                        have c54b0 : decide ((((rd_T38 t246 x14_2).f0).size : Int) ≤ ((rdOf ByteArray.empty l0 x17_3).size : Int)) = false := decide_eq_false c54
                                        have c54b1 : decide (((rd_T38 t246 x14_2).f0).size ≤ (rdOf ByteArray.empty l0 x17_3).size) = false := decide_eq_false (fun h => c54 (Int.ofNat_le.mpr h))
                                        clear c54
                                        have H' := Aside0.mk H
                                        clear H
                                        have p257 : 0 ≤ (x17_3 : Int) := of_decide_eq_true (by first | (with_reducible assumption) | assumption)
                                        have q257 : x17_3 < (l0.length : Int) := of_decide_eq_true (by first | (with_reducible assumption) | assumption)
                                        obtain ⟨ad257, e257, hx257_0⟩ := Kd.at_string HR0.out x17_3 p257 q257
                                        cases e257
                                        replace hx257_0 := (HB.out.cell (World.block_lt_of_cell? w _ hx257_0)).trans hx257_0
                                        replace p257 := eq_true p257
                                        replace q257 := eq_true q257
                                        have p258 : 0 ≤ (x14_2 : Int) := of_decide_eq_true (by first | (with_reducible assumption) | assumption)
                                        have q258 : x14_2 < (t246.length : Int) := of_decide_eq_true (by first | (with_reducible assumption) | assumption)
                                        obtain ⟨ad258, e258, hx258_0, hx258_1⟩ := at_T38 (Kd.V_reads' HO_7.out).2.2 x14_2 p258 q258
                                        (try rw [← Nbq52.out] at hx258_1)
                                        obtain rfl : ad256 = ad258 := (by injection e258)
                                        replace p258 := eq_true p258
                                        replace q258 := eq_true q258
                                        have p259 : 0 ≤ (x17_3 : Int) := of_decide_eq_true (by first | (with_reducible assumption) | assumption)
                                        have q259 : x17_3 < (l0.length : Int) := of_decide_eq_true (by first | (with_reducible assumption) | assumption)
                                        obtain ⟨ad259, e259, hx259_0⟩ := Kd.at_string HR0.out x17_3 p259 q259
                                        obtain rfl : ad257 = ad259 := (by injection e259)
                                        replace hx259_0 := (HB.out.cell (World.block_lt_of_cell? w _ hx259_0)).trans hx259_0
                                        replace p259 := eq_true p259
                                        replace q259 := eq_true q259
                                        go_wp2
                                        repeat (go_quiet (fail); try go_wp2)
                                        go_roundg k3
                                        case measure => have := HK1.out; have := HK2.out; have := HK3.out; omega
                                        case rel => exact ⟨(false), (wrap64 (x17_3 + 1)), (by first | rfl | (simp; done) | (simp [*]; done)), (by first | rfl | (simp; done) | (simp [*]; done)), H', ⟨by have := HK1.out; have := HK2.out; have := HK3.out; omega⟩, ⟨by (with_reducible repeat (first | apply Kd.V_alloc | apply Kd.V_drewN | apply Kd.V_drew)); exact HO_7.out⟩, ⟨by repeat (first | (with_reducible first | exact HB.out | apply below_alloc | apply pw_below_drewN | apply below_drew1) | exact HB.out)⟩⟩
                                    · replace c53 := Bool.eq_false_iff.mpr c53
                                      subst c53
                                      have H1 : (stowagelaw12_NamesCover.l3 k3 l0 a1 a2 t246 x14_2 ((rd_T38 t246 x14_2).f0) false (wrap64 (x17_3 + 1))) = some r := by rw [if_neg (show ¬ (false = true) by decide)] at H; exact H
                                      clear H
                                      have H := H1
                                      clear H1
                                      have H' := Aside0.mk H
                                      clear H
                                      have p257 : 0 ≤ (x17_3 : Int) := of_decide_eq_true (by first | (with_reducible assumption) | assumption)
                                      have q257 : x17_3 < (l0.length : Int) := of_decide_eq_true (by first | (with_reducible assumption) | assumption)
                                      obtain ⟨ad257, e257, hx257_0⟩ := Kd.at_string HR0.out x17_3 p257 q257
                                      cases e257
                                      replace hx257_0 := (HB.out.cell (World.block_lt_of_cell? w _ hx257_0)).trans hx257_0
                                      replace p257 := eq_true p257
                                      replace q257 := eq_true q257
                                      have p258 : 0 ≤ (x14_2 : Int) := of_decide_eq_true (by first | (with_reducible assumption) | assumption)
                                      have q258 : x14_2 < (t246.length : Int) := of_decide_eq_true (by first | (with_reducible assumption) | assumption)
                                      obtain ⟨ad258, e258, hx258_0, hx258_1⟩ := at_T38 (Kd.V_reads' HO_7.out).2.2 x14_2 p258 q258
                                      (try rw [← Nbq52.out] at hx258_1)
                                      obtain rfl : ad256 = ad258 := (by injection e258)
                                      replace p258 := eq_true p258
                                      replace q258 := eq_true q258
                                      go_wp2
                                      repeat (go_quiet (fail); try go_wp2)
                                      go_roundg k3
                                      case measure => have := HK1.out; have := HK2.out; have := HK3.out; omega
                                      case rel => exact ⟨(false), (wrap64 (x17_3 + 1)), (by first | rfl | (simp; done) | (simp [*]; done)), (by first | rfl | (simp; done) | (simp [*]; done)), H', ⟨by have := HK1.out; have := HK2.out; have := HK3.out; omega⟩, ⟨by (with_reducible repeat (first | apply Kd.V_alloc | apply Kd.V_drewN | apply Kd.V_drew)); exact HO_7.out⟩, ⟨by repeat (first | (with_reducible first | exact HB.out | apply below_alloc | apply pw_below_drewN | apply below_drew1) | exact HB.out)⟩⟩
                                  · rw [if_neg c51] at H
                                    exact absurd H (by simp)
                                · rw [if_neg c50] at H
                                  exact absurd H (by simp)
                            · rw [if_neg c48] at H
                              exact absurd H (by simp)
                        · rw [if_neg c46] at H
                          have c46b0 : decide (x17_3 < (l0.length : Int)) = false := decide_eq_false c46
                          clear c46
                          by_cases c57 : x16_3 = true
                          · subst c57
                            have H1 : (if (((rd_T38 t246 x14_2).f0).size : Int) < (a1.size : Int) then (some false) else (if 0 ≤ (a1.size : Int) then (if (a1.size : Int) ≤ (((rd_T38 t246 x14_2).f0).size : Int) then (if (((rd_T38 t246 x14_2).f0).extract 0 ((a1.size : Int) : Int).toNat).toList = a1.toList then (if 0 ≤ x14_2 then (if x14_2 < (t246.length : Int) then (if a2.toList = ([] : List UInt8) then (if (((rd_T38 t246 x14_2).f1) != false) = true then (some false) else (stowagelaw12_NamesCover.l2 k3 l0 a1 a2 t246 (wrap64 (x14_2 + 1)))) else (if (((rd_T38 t246 x14_2).f0).size : Int) ≥ (wrap64 ((a1.size : Int) + (a2.size : Int))) then (if 0 ≤ (wrap64 ((((rd_T38 t246 x14_2).f0).size : Int) - (a2.size : Int))) then (if (wrap64 ((((rd_T38 t246 x14_2).f0).size : Int) - (a2.size : Int))) ≤ (((rd_T38 t246 x14_2).f0).size : Int) then (if (((rd_T38 t246 x14_2).f1) != ((((rd_T38 t246 x14_2).f0).extract ((wrap64 ((((rd_T38 t246 x14_2).f0).size : Int) - (a2.size : Int))) : Int).toNat ((rd_T38 t246 x14_2).f0).size).toList == a2.toList)) = true then (some false) else (stowagelaw12_NamesCover.l2 k3 l0 a1 a2 t246 (wrap64 (x14_2 + 1)))) else (none)) else (none)) else (if (((rd_T38 t246 x14_2).f1) != false) = true then (some false) else (stowagelaw12_NamesCover.l2 k3 l0 a1 a2 t246 (wrap64 (x14_2 + 1)))))) else (none)) else (none)) else (some false)) else (none)) else (none))) = some r := by rw [if_pos rfl] at H; exact H
                            clear H
                            have H := H1
                            clear H1
                            by_cases c58 : (((rd_T38 t246 x14_2).f0).size : Int) < (a1.size : Int)
                            · rw [if_pos c58] at H
                              have c58b0 : decide ((((rd_T38 t246 x14_2).f0).size : Int) < (a1.size : Int)) = true := decide_eq_true c58
                              have c58b1 : decide (((rd_T38 t246 x14_2).f0).size < a1.size) = true := decide_eq_true (Int.ofNat_lt.mp c58)
                              clear c58
                              obtain rfl := Option.some.inj H
                              go_wp2
                              repeat (go_quiet (fail); try go_wp2)
                              go_ret
                              exact ⟨by first | rfl | (simp [errW_none, errW_some] <;> rfl) | (simp [*, errW_none, errW_some] <;> rfl), by repeat (first | (with_reducible first | exact HB.out | apply below_alloc | apply pw_below_drewN | apply below_drew1) | exact HB.out)⟩
                            · rw [if_neg c58] at H
                              have c58b0 : decide ((((rd_T38 t246 x14_2).f0).size : Int) < (a1.size : Int)) = false := decide_eq_false c58
                              have c58b1 : decide (((rd_T38 t246 x14_2).f0).size < a1.size) = false := decide_eq_false (fun h => c58 (Int.ofNat_lt.mpr h))
                              clear c58
                              by_cases c59 : 0 ≤ (a1.size : Int)
                              · rw [if_pos c59] at H
                                have c59b0 := eq_true c59
                                have c59b1 : decide (0 ≤ (a1.size : Int)) = true := decide_eq_true c59
                                clear c59
                                by_cases c60 : (a1.size : Int) ≤ (((rd_T38 t246 x14_2).f0).size : Int)
                                · rw [if_pos c60] at H
                                  have c60b0 := eq_true c60
                                  have c60b1 : decide ((a1.size : Int) ≤ (((rd_T38 t246 x14_2).f0).size : Int)) = true := decide_eq_true c60
                                  clear c60
                                  by_cases c61 : (((rd_T38 t246 x14_2).f0).extract 0 ((a1.size : Int) : Int).toNat).toList = a1.toList
                                  · rw [if_pos c61] at H
                                    have c61b0 : ((((rd_T38 t246 x14_2).f0).extract 0 ((a1.size : Int) : Int).toNat).toList == a1.toList) = true := beq_iff_eq.mpr c61
                                    have c61x_ := beq_iff_eq.mp c61b0
                                    (try simp only [Int.toNat_natCast] at c61x_)
                                    have c61y_ := beq_iff_eq.mpr c61x_
                                    have c61z_ := bne_eq_false_iff_eq.mpr c61x_
                                    replace c61x_ := eq_true c61x_
                                    have c61b1 : ((((rd_T38 t246 x14_2).f0).extract 0 ((a1.size : Int) : Int).toNat).toList != a1.toList) = false := bne_eq_false_iff_eq.mpr c61
                                    clear c61
                                    by_cases c62 : 0 ≤ x14_2
                                    · rw [if_pos c62] at H
                                      have c62b0 : decide (0 ≤ x14_2) = true := decide_eq_true c62
                                      clear c62
                                      by_cases c63 : x14_2 < (t246.length : Int)
                                      · rw [if_pos c63] at H
                                        have c63b0 : decide (x14_2 < (t246.length : Int)) = true := decide_eq_true c63
                                        clear c63
                                        by_cases c64 : a2.toList = ([] : List UInt8)
                                        · rw [if_pos c64] at H
                                          have c64b0 : (a2.toList == ([] : List UInt8)) = true := beq_iff_eq.mpr c64
                                          have c64b1 : (a2.toList != ([] : List UInt8)) = false := bne_eq_false_iff_eq.mpr c64
                                          clear c64
                                          by_cases c65 : (((rd_T38 t246 x14_2).f1) != false) = true
                                          · rw [if_pos c65] at H
                                            have c65b0 : (((rd_T38 t246 x14_2).f1) != false) = true := c65
                                            (try (have c65b1 : decide (((rd_T38 t246 x14_2).f1) = false) = false := by simpa using c65))
                                            (try (have c65b2 : (((rd_T38 t246 x14_2).f1) == false) = false := by simpa using c65))
                                            (try (have c65b3 : ¬ (((rd_T38 t246 x14_2).f1) = false) := by simpa using c65))
                                            clear c65
                                            obtain rfl := Option.some.inj H
                                            have p261 : 0 ≤ (x14_2 : Int) := of_decide_eq_true (by first | (with_reducible assumption) | assumption)
                                            have q261 : x14_2 < (t246.length : Int) := of_decide_eq_true (by first | (with_reducible assumption) | assumption)
                                            obtain ⟨ad261, e261, hx261_0, hx261_1⟩ := at_T38 (Kd.V_reads' HO_7.out).2.2 x14_2 p261 q261
                                            obtain rfl : ad256 = ad261 := (by injection e261)
                                            replace p261 := eq_true p261
                                            replace q261 := eq_true q261
                                            go_wp2
                                            repeat (go_quiet (fail); try go_wp2)
                                            go_ret
                                            exact ⟨by first | rfl | (simp [errW_none, errW_some] <;> rfl) | (simp [*, errW_none, errW_some] <;> rfl), by repeat (first | (with_reducible first | exact HB.out | apply below_alloc | apply pw_below_drewN | apply below_drew1) | exact HB.out)⟩
                                          · rw [if_neg c65] at H
                                            have c65b0 : (((rd_T38 t246 x14_2).f1) != false) = false := by simpa using c65
                                            (try (have c65b1 : decide (((rd_T38 t246 x14_2).f1) = false) = true := by simpa using c65))
                                            (try (have c65b2 : (((rd_T38 t246 x14_2).f1) == false) = true := by simpa using c65))
                                            clear c65
                                            have H' := Aside0.mk H
                                            clear H
                                            have p261 : 0 ≤ (x14_2 : Int) := of_decide_eq_true (by first | (with_reducible assumption) | assumption)
                                            have q261 : x14_2 < (t246.length : Int) := of_decide_eq_true (by first | (with_reducible assumption) | assumption)
                                            obtain ⟨ad261, e261, hx261_0, hx261_1⟩ := at_T38 (Kd.V_reads' HO_7.out).2.2 x14_2 p261 q261
                                            obtain rfl : ad256 = ad261 := (by injection e261)
                                            replace p261 := eq_true p261
                                            replace q261 := eq_true q261
                                            go_wp2
                                            repeat (go_quiet (fail); try go_wp2)
                                            go_roundg k3
                                            case measure => have := HK1.out; have := HK2.out; have := HK3.out; omega
                                            case rel => exact ⟨(wrap64 (x14_2 + 1)), (by first | rfl | (simp; done) | (simp [*]; done)), H', ⟨by have := HK1.out; have := HK2.out; have := HK3.out; omega⟩, ⟨by (with_reducible repeat (first | apply Kd.V_alloc | apply Kd.V_drewN | apply Kd.V_drew)); exact HO_7.out⟩, ⟨by repeat (first | (with_reducible first | exact HB.out | apply below_alloc | apply pw_below_drewN | apply below_drew1) | exact HB.out)⟩⟩
                                        · rw [if_neg c64] at H
                                          have c64b0 : (a2.toList == ([] : List UInt8)) = false := beq_eq_false_iff_ne.mpr c64
                                          have c64b1 : (a2.toList != ([] : List UInt8)) = true := bne_iff_ne.mpr c64
                                          by_cases c66 : (((rd_T38 t246 x14_2).f0).size : Int) ≥ (wrap64 ((a1.size : Int) + (a2.size : Int)))
                                          · rw [if_pos c66] at H
                                            have c66b0 : decide ((wrap64 ((a1.size : Int) + (a2.size : Int))) ≤ (((rd_T38 t246 x14_2).f0).size : Int)) = true := decide_eq_true c66
                                            clear c66
                                            obtain ⟨ji67, hji67⟩ : ∃ j_ : Int, (wrap64 ((((rd_T38 t246 x14_2).f0).size : Int) - (a2.size : Int))) = j_ := ⟨_, rfl⟩
                                            replace H : (if 0 ≤ (ji67) then (if (ji67) ≤ (((rd_T38 t246 x14_2).f0).size : Int) then (if (((rd_T38 t246 x14_2).f1) != ((((rd_T38 t246 x14_2).f0).extract ((ji67) : Int).toNat ((rd_T38 t246 x14_2).f0).size).toList == a2.toList)) = true then (some false) else (stowagelaw12_NamesCover.l2 k3 l0 a1 a2 t246 (wrap64 (x14_2 + 1)))) else (none)) else (none)) = some r := by first | (rw [hji67] at H; exact H) | (simp only [hji67] at H ⊢; exact H)
                                            have hji67w : (IntKind.i64.wrap ((((rd_T38 t246 x14_2).f0).size : Int) - (a2.size : Int))) = ji67 := (i64_w _).trans hji67
                                            by_cases c68 : 0 ≤ (ji67)
                                            · rw [if_pos c68] at H
                                              have c68b0 := eq_true c68
                                              have c68b1 : decide (0 ≤ (ji67)) = true := decide_eq_true c68
                                              clear c68
                                              by_cases c69 : (ji67) ≤ (((rd_T38 t246 x14_2).f0).size : Int)
                                              · rw [if_pos c69] at H
                                                have c69b0 := eq_true c69
                                                have c69b1 : decide ((ji67) ≤ (((rd_T38 t246 x14_2).f0).size : Int)) = true := decide_eq_true c69
                                                clear c69
                                                by_cases c70 : (((rd_T38 t246 x14_2).f1) != ((((rd_T38 t246 x14_2).f0).extract ((ji67) : Int).toNat ((rd_T38 t246 x14_2).f0).size).toList == a2.toList)) = true
                                                · rw [if_pos c70] at H
                                                  have c70b0 : (((rd_T38 t246 x14_2).f1) != ((((rd_T38 t246 x14_2).f0).extract ((ji67) : Int).toNat ((rd_T38 t246 x14_2).f0).size).toList == a2.toList)) = true := c70
                                                  (try (have c70b1 : decide (((rd_T38 t246 x14_2).f1) = ((((rd_T38 t246 x14_2).f0).extract ((ji67) : Int).toNat ((rd_T38 t246 x14_2).f0).size).toList == a2.toList)) = false := by simpa using c70))
                                                  (try (have c70b2 : (((rd_T38 t246 x14_2).f1) == ((((rd_T38 t246 x14_2).f0).extract ((ji67) : Int).toNat ((rd_T38 t246 x14_2).f0).size).toList == a2.toList)) = false := by simpa using c70))
                                                  (try (have c70b3 : ¬ (((rd_T38 t246 x14_2).f1) = ((((rd_T38 t246 x14_2).f0).extract ((ji67) : Int).toNat ((rd_T38 t246 x14_2).f0).size).toList == a2.toList)) := by simpa using c70))
                                                  clear c70
                                                  obtain rfl := Option.some.inj H
                                                  have p261 : 0 ≤ (x14_2 : Int) := of_decide_eq_true (by first | (with_reducible assumption) | assumption)
                                                  have q261 : x14_2 < (t246.length : Int) := of_decide_eq_true (by first | (with_reducible assumption) | assumption)
                                                  obtain ⟨ad261, e261, hx261_0, hx261_1⟩ := at_T38 (Kd.V_reads' HO_7.out).2.2 x14_2 p261 q261
                                                  obtain rfl : ad256 = ad261 := (by injection e261)
                                                  replace p261 := eq_true p261
                                                  replace q261 := eq_true q261
                                                  go_wp2
                                                  repeat (go_quiet (fail); try go_wp2)
                                                  go_ret
                                                  exact ⟨by first | rfl | (simp [errW_none, errW_some] <;> rfl) | (simp only [← hji67]; first | rfl | (simp [errW_none, errW_some] <;> rfl)) | (simp [*, errW_none, errW_some] <;> rfl), by repeat (first | (with_reducible first | exact HB.out | apply below_alloc | apply pw_below_drewN | apply below_drew1) | exact HB.out)⟩
                                                · rw [if_neg c70] at H
                                                  have c70b0 : (((rd_T38 t246 x14_2).f1) != ((((rd_T38 t246 x14_2).f0).extract ((ji67) : Int).toNat ((rd_T38 t246 x14_2).f0).size).toList == a2.toList)) = false := by simpa using c70
                                                  (try (have c70b1 : decide (((rd_T38 t246 x14_2).f1) = ((((rd_T38 t246 x14_2).f0).extract ((ji67) : Int).toNat ((rd_T38 t246 x14_2).f0).size).toList == a2.toList)) = true := by simpa using c70))
                                                  (try (have c70b2 : (((rd_T38 t246 x14_2).f1) == ((((rd_T38 t246 x14_2).f0).extract ((ji67) : Int).toNat ((rd_T38 t246 x14_2).f0).size).toList == a2.toList)) = true := by simpa using c70))
                                                  clear c70
                                                  have H' := Aside0.mk H
                                                  clear H
                                                  have p261 : 0 ≤ (x14_2 : Int) := of_decide_eq_true (by first | (with_reducible assumption) | assumption)
                                                  have q261 : x14_2 < (t246.length : Int) := of_decide_eq_true (by first | (with_reducible assumption) | assumption)
                                                  obtain ⟨ad261, e261, hx261_0, hx261_1⟩ := at_T38 (Kd.V_reads' HO_7.out).2.2 x14_2 p261 q261
                                                  obtain rfl : ad256 = ad261 := (by injection e261)
                                                  replace p261 := eq_true p261
                                                  replace q261 := eq_true q261
                                                  go_wp2
                                                  repeat (go_quiet (fail); try go_wp2)
                                                  go_roundg k3
                                                  case measure => have := HK1.out; have := HK2.out; have := HK3.out; omega
                                                  case rel => exact ⟨(wrap64 (x14_2 + 1)), (by first | rfl | (simp; done) | (simp [*]; done)), H', ⟨by have := HK1.out; have := HK2.out; have := HK3.out; omega⟩, ⟨by (with_reducible repeat (first | apply Kd.V_alloc | apply Kd.V_drewN | apply Kd.V_drew)); exact HO_7.out⟩, ⟨by repeat (first | (with_reducible first | exact HB.out | apply below_alloc | apply pw_below_drewN | apply below_drew1) | exact HB.out)⟩⟩
                                              · rw [if_neg c69] at H
                                                exact absurd H (by simp)
                                            · rw [if_neg c68] at H
                                              exact absurd H (by simp)
                                          · rw [if_neg c66] at H
                                            have c66b0 : decide ((wrap64 ((a1.size : Int) + (a2.size : Int))) ≤ (((rd_T38 t246 x14_2).f0).size : Int)) = false := decide_eq_false c66
                                            clear c66
                                            by_cases c71 : (((rd_T38 t246 x14_2).f1) != false) = true
                                            · rw [if_pos c71] at H
                                              have c71b0 : (((rd_T38 t246 x14_2).f1) != false) = true := c71
                                              (try (have c71b1 : decide (((rd_T38 t246 x14_2).f1) = false) = false := by simpa using c71))
                                              (try (have c71b2 : (((rd_T38 t246 x14_2).f1) == false) = false := by simpa using c71))
                                              (try (have c71b3 : ¬ (((rd_T38 t246 x14_2).f1) = false) := by simpa using c71))
                                              clear c71
                                              obtain rfl := Option.some.inj H
                                              have p261 : 0 ≤ (x14_2 : Int) := of_decide_eq_true (by first | (with_reducible assumption) | assumption)
                                              have q261 : x14_2 < (t246.length : Int) := of_decide_eq_true (by first | (with_reducible assumption) | assumption)
                                              obtain ⟨ad261, e261, hx261_0, hx261_1⟩ := at_T38 (Kd.V_reads' HO_7.out).2.2 x14_2 p261 q261
                                              obtain rfl : ad256 = ad261 := (by injection e261)
                                              replace p261 := eq_true p261
                                              replace q261 := eq_true q261
                                              go_wp2
                                              repeat (go_quiet (fail); try go_wp2)
                                              go_ret
                                              exact ⟨by first | rfl | (simp [errW_none, errW_some] <;> rfl) | (simp [*, errW_none, errW_some] <;> rfl), by repeat (first | (with_reducible first | exact HB.out | apply below_alloc | apply pw_below_drewN | apply below_drew1) | exact HB.out)⟩
                                            · rw [if_neg c71] at H
                                              have c71b0 : (((rd_T38 t246 x14_2).f1) != false) = false := by simpa using c71
                                              (try (have c71b1 : decide (((rd_T38 t246 x14_2).f1) = false) = true := by simpa using c71))
                                              (try (have c71b2 : (((rd_T38 t246 x14_2).f1) == false) = true := by simpa using c71))
                                              clear c71
                                              have H' := Aside0.mk H
                                              clear H
                                              have p261 : 0 ≤ (x14_2 : Int) := of_decide_eq_true (by first | (with_reducible assumption) | assumption)
                                              have q261 : x14_2 < (t246.length : Int) := of_decide_eq_true (by first | (with_reducible assumption) | assumption)
                                              obtain ⟨ad261, e261, hx261_0, hx261_1⟩ := at_T38 (Kd.V_reads' HO_7.out).2.2 x14_2 p261 q261
                                              obtain rfl : ad256 = ad261 := (by injection e261)
                                              replace p261 := eq_true p261
                                              replace q261 := eq_true q261
                                              go_wp2
                                              repeat (go_quiet (fail); try go_wp2)
                                              go_roundg k3
                                              case measure => have := HK1.out; have := HK2.out; have := HK3.out; omega
                                              case rel => exact ⟨(wrap64 (x14_2 + 1)), (by first | rfl | (simp; done) | (simp [*]; done)), H', ⟨by have := HK1.out; have := HK2.out; have := HK3.out; omega⟩, ⟨by (with_reducible repeat (first | apply Kd.V_alloc | apply Kd.V_drewN | apply Kd.V_drew)); exact HO_7.out⟩, ⟨by repeat (first | (with_reducible first | exact HB.out | apply below_alloc | apply pw_below_drewN | apply below_drew1) | exact HB.out)⟩⟩
                                      · rw [if_neg c63] at H
                                        exact absurd H (by simp)
                                    · rw [if_neg c62] at H
                                      exact absurd H (by simp)
                                  · rw [if_neg c61] at H
                                    have c61b0 : ((((rd_T38 t246 x14_2).f0).extract 0 ((a1.size : Int) : Int).toNat).toList == a1.toList) = false := beq_eq_false_iff_ne.mpr c61
                                    have c61x_ := beq_eq_false_iff_ne.mp c61b0
                                    (try simp only [Int.toNat_natCast] at c61x_)
                                    have c61y_ := beq_eq_false_iff_ne.mpr c61x_
                                    have c61z_ := bne_iff_ne.mpr c61x_
                                    have c61b1 : ((((rd_T38 t246 x14_2).f0).extract 0 ((a1.size : Int) : Int).toNat).toList != a1.toList) = true := bne_iff_ne.mpr c61
                                    obtain rfl := Option.some.inj H
                                    go_wp2
                                    repeat (go_quiet (fail); try go_wp2)
                                    go_ret
                                    exact ⟨by first | rfl | (simp [errW_none, errW_some] <;> rfl) | (simp [*, errW_none, errW_some] <;> rfl), by repeat (first | (with_reducible first | exact HB.out | apply below_alloc | apply pw_below_drewN | apply below_drew1) | exact HB.out)⟩
                                · rw [if_neg c60] at H
                                  exact absurd H (by simp)
                              · rw [if_neg c59] at H
                                exact absurd H (by simp)
                          · replace c57 := Bool.eq_false_iff.mpr c57
                            subst c57
                            have H1 : (some false) = some r := by rw [if_neg (show ¬ (false = true) by decide)] at H; exact H
                            clear H
                            have H := H1
                            clear H1
                            obtain rfl := Option.some.inj H
                            go_wp2
                            repeat (go_quiet (fail); try go_wp2)
                            go_ret
                            exact ⟨by first | rfl | (simp [errW_none, errW_some] <;> rfl) | (simp [*, errW_none, errW_some] <;> rfl), by repeat (first | (with_reducible first | exact HB.out | apply below_alloc | apply pw_below_drewN | apply below_drew1) | exact HB.out)⟩
                  · rw [if_neg c44] at H
                    exact absurd H (by simp)
                · rw [if_neg c43] at H
                  have c43b0 : decide (x14_2 < (t246.length : Int)) = false := decide_eq_false c43
                  clear c43
                  replace H := Option.bind_eq_some_iff.mp H
                  obtain ⟨t255, A720, H⟩ := H
                  replace H : (some t255) = some r := H
                  have A72 := Aside0.mk A720
                  clear A720
                  obtain rfl := Option.some.inj H
                  obtain ⟨Ao73, co73, eo73⟩ := Kd.V_slice HO_7.out
                  subst eo73
                  go_wp2_with (first | (go_at_call 8; (with_reducible refine (stowagelaw12_awake.calls k2  t255 _ A72.out ?sideG).mono ?_); (case sideG => first | exact HG.out | exact gg_below HG.out (by repeat (first | (with_reducible first | exact HB.out | apply below_alloc | apply pw_below_drewN | apply below_drew1) | exact HB.out))); rintro e w74 ⟨rfl, hb⟩; have n0_ := Aside0.mk (Kd.V_below (by (with_reducible repeat (first | apply Kd.V_alloc | apply Kd.V_drewN | apply Kd.V_drew)); exact HO_7.out) hb); have n1_ := Aside0.mk (below_step (by repeat (first | (with_reducible first | exact HB.out | apply below_alloc | apply pw_below_drewN | apply below_drew1) | exact HB.out)) hb); clear HO_7; clear HB; have HO_7 := n0_; have HB := n1_; clear n0_ n1_; (try clear hb); (try clear hb2); (try clear hk); (try clear hi)))
                  repeat (go_quiet (first | (go_at_call 8; (with_reducible refine (stowagelaw12_awake.calls k2  t255 _ A72.out ?sideG).mono ?_); (case sideG => first | exact HG.out | exact gg_below HG.out (by repeat (first | (with_reducible first | exact HB.out | apply below_alloc | apply pw_below_drewN | apply below_drew1) | exact HB.out))); rintro e w74 ⟨rfl, hb⟩; have n0_ := Aside0.mk (Kd.V_below (by (with_reducible repeat (first | apply Kd.V_alloc | apply Kd.V_drewN | apply Kd.V_drew)); exact HO_7.out) hb); have n1_ := Aside0.mk (below_step (by repeat (first | (with_reducible first | exact HB.out | apply below_alloc | apply pw_below_drewN | apply below_drew1) | exact HB.out)) hb); clear HO_7; clear HB; have HO_7 := n0_; have HB := n1_; clear n0_ n1_; (try clear hb); (try clear hb2); (try clear hk); (try clear hi))); try go_wp2_with (first | (go_at_call 8; (with_reducible refine (stowagelaw12_awake.calls k2  t255 _ A72.out ?sideG).mono ?_); (case sideG => first | exact HG.out | exact gg_below HG.out (by repeat (first | (with_reducible first | exact HB.out | apply below_alloc | apply pw_below_drewN | apply below_drew1) | exact HB.out))); rintro e w74 ⟨rfl, hb⟩; have n0_ := Aside0.mk (Kd.V_below (by (with_reducible repeat (first | apply Kd.V_alloc | apply Kd.V_drewN | apply Kd.V_drew)); exact HO_7.out) hb); have n1_ := Aside0.mk (below_step (by repeat (first | (with_reducible first | exact HB.out | apply below_alloc | apply pw_below_drewN | apply below_drew1) | exact HB.out)) hb); clear HO_7; clear HB; have HO_7 := n0_; have HB := n1_; clear n0_ n1_; (try clear hb); (try clear hb2); (try clear hk); (try clear hi))))
                  go_ret
                  exact ⟨by first | rfl | (simp [errW_none, errW_some] <;> rfl) | (simp [*, errW_none, errW_some] <;> rfl), by repeat (first | (with_reducible first | exact HB.out | apply below_alloc | apply pw_below_drewN | apply below_drew1) | exact HB.out)⟩

end Go.Proofs.Ytapkojfodhdnaaa.Hx
