-- Written for this claim by hyb.py, a driver of this session's over the kit's printer.
import Derived.Test.YtfagmfmpiicggaaDoorHx0
import Derived.Test.YtfagmfmpiicggaaDoorHx11
namespace Go.Proofs.YtfagmfmpiicggaaDoor.Hx
open Go.RowKit Go.Proofs.YtfagmfmpiicggaaDoorW.PrintWords Go.Proofs.YtfagmfmpiicggaaDoorW.PrintLast Go.Proofs.YtfagmfmpiicggaaDoorW.PrintMore
attribute [local go_sem] max2_int min2_int max_two min_two max_three min_three max_four min_four   -- for this text's walks alone
set_option linter.unusedVariables false
set_option linter.unusedSimpArgs false

/-! ### stowagelaw18_PercentPlain: function 4 -/
def stowagelaw18_PercentPlain.l0 : Nat → ByteArray → ByteArray → Int → Option (Bool)
  | 0, _, _, _ => none
  | k + 1, x0, x3, x4 => if x4 < (x3.size : Int) then (if 0 ≤ x4 then (if (bt x3 x4) ≥ 97 then (if (bt x3 x4) ≤ 122 then (stowagelaw18_PercentPlain.l0 k x0 x3 (wrap64 (x4 + 1))) else (if (bt x3 x4) ≥ 65 then (if (bt x3 x4) ≤ 90 then (stowagelaw18_PercentPlain.l0 k x0 x3 (wrap64 (x4 + 1))) else (if (bt x3 x4) ≥ 48 then (if (bt x3 x4) ≤ 57 then (stowagelaw18_PercentPlain.l0 k x0 x3 (wrap64 (x4 + 1))) else (if (bt x3 x4) = 45 then (stowagelaw18_PercentPlain.l0 k x0 x3 (wrap64 (x4 + 1))) else (if (bt x3 x4) = 46 then (stowagelaw18_PercentPlain.l0 k x0 x3 (wrap64 (x4 + 1))) else (if (bt x3 x4) = 95 then (stowagelaw18_PercentPlain.l0 k x0 x3 (wrap64 (x4 + 1))) else (if (bt x3 x4) = 126 then (stowagelaw18_PercentPlain.l0 k x0 x3 (wrap64 (x4 + 1))) else (if (bt x3 x4) = 47 then (stowagelaw18_PercentPlain.l0 k x0 x3 (wrap64 (x4 + 1))) else (if ((bt x3 x4) = 37) then (stowagelaw18_PercentPlain.l0 k x0 x3 (wrap64 (x4 + 1))) else (some false)))))))) else (if (bt x3 x4) = 45 then (stowagelaw18_PercentPlain.l0 k x0 x3 (wrap64 (x4 + 1))) else (if (bt x3 x4) = 46 then (stowagelaw18_PercentPlain.l0 k x0 x3 (wrap64 (x4 + 1))) else (if (bt x3 x4) = 95 then (stowagelaw18_PercentPlain.l0 k x0 x3 (wrap64 (x4 + 1))) else (if (bt x3 x4) = 126 then (stowagelaw18_PercentPlain.l0 k x0 x3 (wrap64 (x4 + 1))) else (if (bt x3 x4) = 47 then (stowagelaw18_PercentPlain.l0 k x0 x3 (wrap64 (x4 + 1))) else (if ((bt x3 x4) = 37) then (stowagelaw18_PercentPlain.l0 k x0 x3 (wrap64 (x4 + 1))) else (some false))))))))) else (if (bt x3 x4) ≥ 48 then (if (bt x3 x4) ≤ 57 then (stowagelaw18_PercentPlain.l0 k x0 x3 (wrap64 (x4 + 1))) else (if (bt x3 x4) = 45 then (stowagelaw18_PercentPlain.l0 k x0 x3 (wrap64 (x4 + 1))) else (if (bt x3 x4) = 46 then (stowagelaw18_PercentPlain.l0 k x0 x3 (wrap64 (x4 + 1))) else (if (bt x3 x4) = 95 then (stowagelaw18_PercentPlain.l0 k x0 x3 (wrap64 (x4 + 1))) else (if (bt x3 x4) = 126 then (stowagelaw18_PercentPlain.l0 k x0 x3 (wrap64 (x4 + 1))) else (if (bt x3 x4) = 47 then (stowagelaw18_PercentPlain.l0 k x0 x3 (wrap64 (x4 + 1))) else (if ((bt x3 x4) = 37) then (stowagelaw18_PercentPlain.l0 k x0 x3 (wrap64 (x4 + 1))) else (some false)))))))) else (if (bt x3 x4) = 45 then (stowagelaw18_PercentPlain.l0 k x0 x3 (wrap64 (x4 + 1))) else (if (bt x3 x4) = 46 then (stowagelaw18_PercentPlain.l0 k x0 x3 (wrap64 (x4 + 1))) else (if (bt x3 x4) = 95 then (stowagelaw18_PercentPlain.l0 k x0 x3 (wrap64 (x4 + 1))) else (if (bt x3 x4) = 126 then (stowagelaw18_PercentPlain.l0 k x0 x3 (wrap64 (x4 + 1))) else (if (bt x3 x4) = 47 then (stowagelaw18_PercentPlain.l0 k x0 x3 (wrap64 (x4 + 1))) else (if ((bt x3 x4) = 37) then (stowagelaw18_PercentPlain.l0 k x0 x3 (wrap64 (x4 + 1))) else (some false)))))))))) else (if (bt x3 x4) ≥ 65 then (if (bt x3 x4) ≤ 90 then (stowagelaw18_PercentPlain.l0 k x0 x3 (wrap64 (x4 + 1))) else (if (bt x3 x4) ≥ 48 then (if (bt x3 x4) ≤ 57 then (stowagelaw18_PercentPlain.l0 k x0 x3 (wrap64 (x4 + 1))) else (if (bt x3 x4) = 45 then (stowagelaw18_PercentPlain.l0 k x0 x3 (wrap64 (x4 + 1))) else (if (bt x3 x4) = 46 then (stowagelaw18_PercentPlain.l0 k x0 x3 (wrap64 (x4 + 1))) else (if (bt x3 x4) = 95 then (stowagelaw18_PercentPlain.l0 k x0 x3 (wrap64 (x4 + 1))) else (if (bt x3 x4) = 126 then (stowagelaw18_PercentPlain.l0 k x0 x3 (wrap64 (x4 + 1))) else (if (bt x3 x4) = 47 then (stowagelaw18_PercentPlain.l0 k x0 x3 (wrap64 (x4 + 1))) else (if ((bt x3 x4) = 37) then (stowagelaw18_PercentPlain.l0 k x0 x3 (wrap64 (x4 + 1))) else (some false)))))))) else (if (bt x3 x4) = 45 then (stowagelaw18_PercentPlain.l0 k x0 x3 (wrap64 (x4 + 1))) else (if (bt x3 x4) = 46 then (stowagelaw18_PercentPlain.l0 k x0 x3 (wrap64 (x4 + 1))) else (if (bt x3 x4) = 95 then (stowagelaw18_PercentPlain.l0 k x0 x3 (wrap64 (x4 + 1))) else (if (bt x3 x4) = 126 then (stowagelaw18_PercentPlain.l0 k x0 x3 (wrap64 (x4 + 1))) else (if (bt x3 x4) = 47 then (stowagelaw18_PercentPlain.l0 k x0 x3 (wrap64 (x4 + 1))) else (if ((bt x3 x4) = 37) then (stowagelaw18_PercentPlain.l0 k x0 x3 (wrap64 (x4 + 1))) else (some false))))))))) else (if (bt x3 x4) ≥ 48 then (if (bt x3 x4) ≤ 57 then (stowagelaw18_PercentPlain.l0 k x0 x3 (wrap64 (x4 + 1))) else (if (bt x3 x4) = 45 then (stowagelaw18_PercentPlain.l0 k x0 x3 (wrap64 (x4 + 1))) else (if (bt x3 x4) = 46 then (stowagelaw18_PercentPlain.l0 k x0 x3 (wrap64 (x4 + 1))) else (if (bt x3 x4) = 95 then (stowagelaw18_PercentPlain.l0 k x0 x3 (wrap64 (x4 + 1))) else (if (bt x3 x4) = 126 then (stowagelaw18_PercentPlain.l0 k x0 x3 (wrap64 (x4 + 1))) else (if (bt x3 x4) = 47 then (stowagelaw18_PercentPlain.l0 k x0 x3 (wrap64 (x4 + 1))) else (if ((bt x3 x4) = 37) then (stowagelaw18_PercentPlain.l0 k x0 x3 (wrap64 (x4 + 1))) else (some false)))))))) else (if (bt x3 x4) = 45 then (stowagelaw18_PercentPlain.l0 k x0 x3 (wrap64 (x4 + 1))) else (if (bt x3 x4) = 46 then (stowagelaw18_PercentPlain.l0 k x0 x3 (wrap64 (x4 + 1))) else (if (bt x3 x4) = 95 then (stowagelaw18_PercentPlain.l0 k x0 x3 (wrap64 (x4 + 1))) else (if (bt x3 x4) = 126 then (stowagelaw18_PercentPlain.l0 k x0 x3 (wrap64 (x4 + 1))) else (if (bt x3 x4) = 47 then (stowagelaw18_PercentPlain.l0 k x0 x3 (wrap64 (x4 + 1))) else (if ((bt x3 x4) = 37) then (stowagelaw18_PercentPlain.l0 k x0 x3 (wrap64 (x4 + 1))) else (some false)))))))))) else (none)) else ((stowagelaw18_awake.f k).bind fun t177 => (if t177 = true then (if (x3.size : Int) ≥ (x0.size : Int) then (some (decide ((x3.size : Int) ≤ (wrap64 (3 * (x0.size : Int)))))) else (some false)) else (some false)))
def stowagelaw18_PercentPlain.f (k : Nat) (a0 : ByteArray) : Option (Bool) := if (a0.size : Int) > 5000 then ((stowagelaw18_awake.f k).bind fun t175 => (some t175)) else ((percent_Path.f a0).bind fun t176 => (stowagelaw18_PercentPlain.l0 k a0 t176 0))
theorem stowagelaw18_PercentPlain.mono_l : ∀ k, (∀ y0 y1 y2, LeO (stowagelaw18_PercentPlain.l0 k y0 y1 y2) (stowagelaw18_PercentPlain.l0 (k + 1) y0 y1 y2))
  | 0 => fun _ _ _ r h => by simp [stowagelaw18_PercentPlain.l0] at h
  | k + 1 => by
    have ih0 := stowagelaw18_PercentPlain.mono_l k
    · intro y0 y1 y2
      unfold stowagelaw18_PercentPlain.l0
      repeat' first
      | (with_reducible exact ih0 _ _ _)
      | (with_reducible exact stowagelaw18_awake.mono _)
      | (with_reducible exact LeO.refl _)
      | (with_reducible exact LeO.none _)
      | (with_reducible refine LeO.ite ?_ ?_)
      | (with_reducible refine LeO.bind ?_ (fun _ => ?_))
      | exact ih0 _ _ _
      | exact stowagelaw18_awake.mono _
      | exact LeO.none _
      | refine LeO.ite ?_ ?_
      | refine LeO.bind ?_ (fun _ => ?_)
theorem stowagelaw18_PercentPlain.mono : ∀ a0 k, LeO (stowagelaw18_PercentPlain.f k a0) (stowagelaw18_PercentPlain.f (k + 1) a0) := by
  intro a0 k
  have ih0 := stowagelaw18_PercentPlain.mono_l k
  unfold stowagelaw18_PercentPlain.f
  repeat' first
      | (with_reducible exact ih0 _ _ _)
      | (with_reducible exact stowagelaw18_awake.mono _)
      | (with_reducible exact LeO.refl _)
      | (with_reducible exact LeO.none _)
      | (with_reducible refine LeO.ite ?_ ?_)
      | (with_reducible refine LeO.bind ?_ (fun _ => ?_))
      | exact ih0 _ _ _
      | exact stowagelaw18_awake.mono _
      | exact LeO.none _
      | refine LeO.ite ?_ ?_
      | refine LeO.bind ?_ (fun _ => ?_)
set_option maxHeartbeats 8000000 in
set_option maxRecDepth 100000 in
theorem stowagelaw18_PercentPlain.calls (k : Nat) (a0 : ByteArray) (r : Bool) (w : World) (h : stowagelaw18_PercentPlain.f k a0 = some r) :
    Calls Tryd.prog 4 #[.string a0] w fun e w' => e = .returned (.bool r) ∧ Below w.heap.size w w' := by
  have HB := Aside0.mk (Below.refl w.heap.size w)
  have H : (if (a0.size : Int) > 5000 then ((stowagelaw18_awake.f k).bind fun t175 => (some t175)) else ((percent_Path.f a0).bind fun t176 => (stowagelaw18_PercentPlain.l0 k a0 t176 0))) = some r := h
  clear h
  by_cases c2 : (a0.size : Int) > 5000
  · rw [if_pos c2] at H
    have c2b0 : decide (5000 < (a0.size : Int)) = true := decide_eq_true c2
    have c2b1 : decide (5000 < a0.size) = true := decide_eq_true (by omega)
    clear c2
    replace H := Option.bind_eq_some_iff.mp H
    obtain ⟨t175, A30, H⟩ := H
    replace H : (some t175) = some r := H
    have A3 := Aside0.mk A30
    clear A30
    obtain rfl := Option.some.inj H
    go_enter Tryd.func4, Tryd.ntmps4
    go_wp2_with (first | ((with_reducible refine gate_callee (f := 8) rfl ?_); refine goesL_ (some 9) rfl rfl Tryd.func8 (by kernel_rfl) rfl #[] rfl (by (try simp only [List.map_toArray, List.map_cons, List.map_nil]); first | done | rfl | (simp only [List.length_drop, List.length_take]; rfl)) ?_; (with_reducible refine (stowagelaw18_awake.calls k  t175 _ A3.out).mono ?_); rintro e w4 ⟨rfl, hb⟩; refine ⟨_, rfl, ?_⟩; have n0_ := Aside0.mk (below_step (by repeat (first | (with_reducible first | exact HB.out | apply below_alloc | apply pw_below_drewN | apply below_drew1) | exact HB.out)) hb); clear HB; have HB := n0_; clear n0_; (try clear hb); (try clear hb2); (try clear hk); (try clear hi)))
    go_ret
    exact ⟨by first | rfl | (simp [errW_none, errW_some] <;> rfl) | (simp [*, errW_none, errW_some] <;> rfl), by repeat (first | (with_reducible first | exact HB.out | apply below_alloc | apply pw_below_drewN | apply below_drew1) | exact HB.out)⟩
  · rw [if_neg c2] at H
    have c2b0 : decide (5000 < (a0.size : Int)) = false := decide_eq_false c2
    have c2b1 : decide (5000 < a0.size) = false := decide_eq_false (by omega)
    clear c2
    replace H := Option.bind_eq_some_iff.mp H
    obtain ⟨t176, A50, H⟩ := H
    replace H : (stowagelaw18_PercentPlain.l0 k a0 t176 0) = some r := H
    have A5 := Aside0.mk A50
    clear A50
    have H' := Aside0.mk H
    clear H
    go_enter Tryd.func4, Tryd.ntmps4
    go_wp2_with (first | ((with_reducible refine gate_callee (f := 13) rfl ?_); refine goesL_ (some 11) rfl rfl Tryd.func13 (by kernel_rfl) rfl #[.string a0] rfl (by (try simp only [List.map_toArray, List.map_cons, List.map_nil]); first | done | rfl | (simp only [List.length_drop, List.length_take]; rfl)) ?_; (with_reducible refine (percent_Path.calls a0 t176 _ A5.out).mono ?_); rintro e w6 ⟨rfl, hb⟩; refine ⟨_, rfl, ?_⟩; have n0_ := Aside0.mk (below_step (by repeat (first | (with_reducible first | exact HB.out | apply below_alloc | apply pw_below_drewN | apply below_drew1) | exact HB.out)) hb); clear HB; have HB := n0_; clear n0_; (try clear hb); (try clear hb2); (try clear hk); (try clear hi)))
    go_loopg [4] k (fun kq v4 w' => ∃ (x4_1 : Int), v4 = .int .i64 x4_1 ∧ Aside0 (stowagelaw18_PercentPlain.l0 kq a0 t176 x4_1 = some r) ∧ Aside0 (kq ≤ k) ∧ Aside0 (Below w.heap.size w w'))
    case atStart => exact ⟨(0), (by first | rfl | (simp; done) | (simp [*]; done)), H', ⟨Nat.le_refl _⟩, ⟨by repeat (first | (with_reducible first | exact HB.out | apply below_alloc | apply pw_below_drewN | apply below_drew1) | exact HB.out)⟩⟩
    case round =>
      clear H'
      try clear c1
      try clear c2
      try clear c2b0
      try clear c2b1
      try clear p2
      try clear c4
      obtain ⟨x4_1, rfl, HA, HK1, HB⟩ := hrel
      cases gk with
      | zero => exact absurd HA.out (by simp [stowagelaw18_PercentPlain.l0])
      | succ k1 =>
        have H := HA.out
        clear HA
        simp only [stowagelaw18_PercentPlain.l0] at H
        by_cases c7 : x4_1 < (t176.size : Int)
        · rw [if_pos c7] at H
          have c7b0 : decide (x4_1 < (t176.size : Int)) = true := decide_eq_true c7
          clear c7
          by_cases c8 : 0 ≤ x4_1
          · rw [if_pos c8] at H
            have c8b0 : decide (0 ≤ x4_1) = true := decide_eq_true c8
            clear c8
            by_cases c10 : (bt t176 x4_1) ≥ 97
            · rw [if_pos c10] at H
              have c10b0 : decide (97 ≤ (bt t176 x4_1)) = true := decide_eq_true c10
              clear c10
              by_cases c11 : (bt t176 x4_1) ≤ 122
              · rw [if_pos c11] at H
                have c11b0 : decide ((bt t176 x4_1) ≤ 122) = true := decide_eq_true c11
                clear c11
                have H' := Aside0.mk H
                clear H
                have p9 : 0 ≤ (x4_1 : Int) := of_decide_eq_true (by first | (with_reducible assumption) | assumption)
                have q9 : x4_1 < (t176.size : Int) := of_decide_eq_true (by first | (with_reducible assumption) | assumption)
                have hx9 := bt_at t176 x4_1
                replace p9 := eq_true p9
                replace q9 := eq_true q9
                go_wp2
                go_roundg k1
                case measure => have := HK1.out; omega
                case rel => exact ⟨(wrap64 (x4_1 + 1)), (by first | rfl | (simp; done) | (simp [*]; done)), H', ⟨by have := HK1.out; omega⟩, ⟨by repeat (first | (with_reducible first | exact HB.out | apply below_alloc | apply pw_below_drewN | apply below_drew1) | exact HB.out)⟩⟩
              · rw [if_neg c11] at H
                have c11b0 : decide ((bt t176 x4_1) ≤ 122) = false := decide_eq_false c11
                clear c11
                by_cases c12 : (bt t176 x4_1) ≥ 65
                · rw [if_pos c12] at H
                  have c12b0 : decide (65 ≤ (bt t176 x4_1)) = true := decide_eq_true c12
                  clear c12
                  by_cases c13 : (bt t176 x4_1) ≤ 90
                  · rw [if_pos c13] at H
                    have c13b0 : decide ((bt t176 x4_1) ≤ 90) = true := decide_eq_true c13
                    clear c13
                    have H' := Aside0.mk H
                    clear H
                    have p9 : 0 ≤ (x4_1 : Int) := of_decide_eq_true (by first | (with_reducible assumption) | assumption)
                    have q9 : x4_1 < (t176.size : Int) := of_decide_eq_true (by first | (with_reducible assumption) | assumption)
                    have hx9 := bt_at t176 x4_1
                    replace p9 := eq_true p9
                    replace q9 := eq_true q9
                    go_wp2
                    go_roundg k1
                    case measure => have := HK1.out; omega
                    case rel => exact ⟨(wrap64 (x4_1 + 1)), (by first | rfl | (simp; done) | (simp [*]; done)), H', ⟨by have := HK1.out; omega⟩, ⟨by repeat (first | (with_reducible first | exact HB.out | apply below_alloc | apply pw_below_drewN | apply below_drew1) | exact HB.out)⟩⟩
                  · rw [if_neg c13] at H
                    have c13b0 : decide ((bt t176 x4_1) ≤ 90) = false := decide_eq_false c13
                    clear c13
                    by_cases c14 : (bt t176 x4_1) ≥ 48
                    · rw [if_pos c14] at H
                      have c14b0 : decide (48 ≤ (bt t176 x4_1)) = true := decide_eq_true c14
                      clear c14
                      by_cases c15 : (bt t176 x4_1) ≤ 57
                      · rw [if_pos c15] at H
                        have c15b0 : decide ((bt t176 x4_1) ≤ 57) = true := decide_eq_true c15
                        clear c15
                        have H' := Aside0.mk H
                        clear H
                        have p9 : 0 ≤ (x4_1 : Int) := of_decide_eq_true (by first | (with_reducible assumption) | assumption)
                        have q9 : x4_1 < (t176.size : Int) := of_decide_eq_true (by first | (with_reducible assumption) | assumption)
                        have hx9 := bt_at t176 x4_1
                        replace p9 := eq_true p9
                        replace q9 := eq_true q9
                        go_wp2
                        go_roundg k1
                        case measure => have := HK1.out; omega
                        case rel => exact ⟨(wrap64 (x4_1 + 1)), (by first | rfl | (simp; done) | (simp [*]; done)), H', ⟨by have := HK1.out; omega⟩, ⟨by repeat (first | (with_reducible first | exact HB.out | apply below_alloc | apply pw_below_drewN | apply below_drew1) | exact HB.out)⟩⟩
                      · rw [if_neg c15] at H
                        have c15b0 : decide ((bt t176 x4_1) ≤ 57) = false := decide_eq_false c15
                        clear c15
                        by_cases c16 : (bt t176 x4_1) = 45
                        · rw [if_pos c16] at H
                          have c16b0 : ((bt t176 x4_1) == 45) = true := beq_iff_eq.mpr c16
                          have c16b1 : ((bt t176 x4_1) != 45) = false := bne_eq_false_iff_eq.mpr c16
                          clear c16
                          have H' := Aside0.mk H
                          clear H
                          have p9 : 0 ≤ (x4_1 : Int) := of_decide_eq_true (by first | (with_reducible assumption) | assumption)
                          have q9 : x4_1 < (t176.size : Int) := of_decide_eq_true (by first | (with_reducible assumption) | assumption)
                          have hx9 := bt_at t176 x4_1
                          replace p9 := eq_true p9
                          replace q9 := eq_true q9
                          go_wp2
                          go_roundg k1
                          case measure => have := HK1.out; omega
                          case rel => exact ⟨(wrap64 (x4_1 + 1)), (by first | rfl | (simp; done) | (simp [*]; done)), H', ⟨by have := HK1.out; omega⟩, ⟨by repeat (first | (with_reducible first | exact HB.out | apply below_alloc | apply pw_below_drewN | apply below_drew1) | exact HB.out)⟩⟩
                        · rw [if_neg c16] at H
                          have c16b0 : ((bt t176 x4_1) == 45) = false := beq_eq_false_iff_ne.mpr c16
                          have c16b1 : ((bt t176 x4_1) != 45) = true := bne_iff_ne.mpr c16
                          by_cases c17 : (bt t176 x4_1) = 46
                          · rw [if_pos c17] at H
                            have c17b0 : ((bt t176 x4_1) == 46) = true := beq_iff_eq.mpr c17
                            have c17b1 : ((bt t176 x4_1) != 46) = false := bne_eq_false_iff_eq.mpr c17
                            clear c17
                            have H' := Aside0.mk H
                            clear H
                            have p9 : 0 ≤ (x4_1 : Int) := of_decide_eq_true (by first | (with_reducible assumption) | assumption)
                            have q9 : x4_1 < (t176.size : Int) := of_decide_eq_true (by first | (with_reducible assumption) | assumption)
                            have hx9 := bt_at t176 x4_1
                            replace p9 := eq_true p9
                            replace q9 := eq_true q9
                            go_wp2
                            go_roundg k1
                            case measure => have := HK1.out; omega
                            case rel => exact ⟨(wrap64 (x4_1 + 1)), (by first | rfl | (simp; done) | (simp [*]; done)), H', ⟨by have := HK1.out; omega⟩, ⟨by repeat (first | (with_reducible first | exact HB.out | apply below_alloc | apply pw_below_drewN | apply below_drew1) | exact HB.out)⟩⟩
                          · rw [if_neg c17] at H
                            have c17b0 : ((bt t176 x4_1) == 46) = false := beq_eq_false_iff_ne.mpr c17
                            have c17b1 : ((bt t176 x4_1) != 46) = true := bne_iff_ne.mpr c17
                            by_cases c18 : (bt t176 x4_1) = 95
                            · rw [if_pos c18] at H
                              have c18b0 : ((bt t176 x4_1) == 95) = true := beq_iff_eq.mpr c18
                              have c18b1 : ((bt t176 x4_1) != 95) = false := bne_eq_false_iff_eq.mpr c18
                              clear c18
                              have H' := Aside0.mk H
                              clear H
                              have p9 : 0 ≤ (x4_1 : Int) := of_decide_eq_true (by first | (with_reducible assumption) | assumption)
                              have q9 : x4_1 < (t176.size : Int) := of_decide_eq_true (by first | (with_reducible assumption) | assumption)
                              have hx9 := bt_at t176 x4_1
                              replace p9 := eq_true p9
                              replace q9 := eq_true q9
                              go_wp2
                              go_roundg k1
                              case measure => have := HK1.out; omega
                              case rel => exact ⟨(wrap64 (x4_1 + 1)), (by first | rfl | (simp; done) | (simp [*]; done)), H', ⟨by have := HK1.out; omega⟩, ⟨by repeat (first | (with_reducible first | exact HB.out | apply below_alloc | apply pw_below_drewN | apply below_drew1) | exact HB.out)⟩⟩
                            · rw [if_neg c18] at H
                              have c18b0 : ((bt t176 x4_1) == 95) = false := beq_eq_false_iff_ne.mpr c18
                              have c18b1 : ((bt t176 x4_1) != 95) = true := bne_iff_ne.mpr c18
                              by_cases c19 : (bt t176 x4_1) = 126
                              · rw [if_pos c19] at H
                                have c19b0 : ((bt t176 x4_1) == 126) = true := beq_iff_eq.mpr c19
                                have c19b1 : ((bt t176 x4_1) != 126) = false := bne_eq_false_iff_eq.mpr c19
                                clear c19
                                have H' := Aside0.mk H
                                clear H
                                have p9 : 0 ≤ (x4_1 : Int) := of_decide_eq_true (by first | (with_reducible assumption) | assumption)
                                have q9 : x4_1 < (t176.size : Int) := of_decide_eq_true (by first | (with_reducible assumption) | assumption)
                                have hx9 := bt_at t176 x4_1
                                replace p9 := eq_true p9
                                replace q9 := eq_true q9
                                go_wp2
                                go_roundg k1
                                case measure => have := HK1.out; omega
                                case rel => exact ⟨(wrap64 (x4_1 + 1)), (by first | rfl | (simp; done) | (simp [*]; done)), H', ⟨by have := HK1.out; omega⟩, ⟨by repeat (first | (with_reducible first | exact HB.out | apply below_alloc | apply pw_below_drewN | apply below_drew1) | exact HB.out)⟩⟩
                              · rw [if_neg c19] at H
                                have c19b0 : ((bt t176 x4_1) == 126) = false := beq_eq_false_iff_ne.mpr c19
                                have c19b1 : ((bt t176 x4_1) != 126) = true := bne_iff_ne.mpr c19
                                by_cases c20 : (bt t176 x4_1) = 47
                                · rw [if_pos c20] at H
                                  have c20b0 : ((bt t176 x4_1) == 47) = true := beq_iff_eq.mpr c20
                                  have c20b1 : ((bt t176 x4_1) != 47) = false := bne_eq_false_iff_eq.mpr c20
                                  clear c20
                                  have H' := Aside0.mk H
                                  clear H
                                  have p9 : 0 ≤ (x4_1 : Int) := of_decide_eq_true (by first | (with_reducible assumption) | assumption)
                                  have q9 : x4_1 < (t176.size : Int) := of_decide_eq_true (by first | (with_reducible assumption) | assumption)
                                  have hx9 := bt_at t176 x4_1
                                  replace p9 := eq_true p9
                                  replace q9 := eq_true q9
                                  go_wp2
                                  go_roundg k1
                                  case measure => have := HK1.out; omega
                                  case rel => exact ⟨(wrap64 (x4_1 + 1)), (by first | rfl | (simp; done) | (simp [*]; done)), H', ⟨by have := HK1.out; omega⟩, ⟨by repeat (first | (with_reducible first | exact HB.out | apply below_alloc | apply pw_below_drewN | apply below_drew1) | exact HB.out)⟩⟩
                                · rw [if_neg c20] at H
                                  have c20b0 : ((bt t176 x4_1) == 47) = false := beq_eq_false_iff_ne.mpr c20
                                  have c20b1 : ((bt t176 x4_1) != 47) = true := bne_iff_ne.mpr c20
                                  by_cases c21 : ((bt t176 x4_1) = 37)
                                  · rw [if_pos c21] at H
                                    have c21b0 : ((bt t176 x4_1) == 37) = true := beq_iff_eq.mpr c21
                                    have c21b1 : ((bt t176 x4_1) != 37) = false := bne_eq_false_iff_eq.mpr c21
                                    clear c21
                                    have H' := Aside0.mk H
                                    clear H
                                    have p9 : 0 ≤ (x4_1 : Int) := of_decide_eq_true (by first | (with_reducible assumption) | assumption)
                                    have q9 : x4_1 < (t176.size : Int) := of_decide_eq_true (by first | (with_reducible assumption) | assumption)
                                    have hx9 := bt_at t176 x4_1
                                    replace p9 := eq_true p9
                                    replace q9 := eq_true q9
                                    go_wp2
                                    go_roundg k1
                                    case measure => have := HK1.out; omega
                                    case rel => exact ⟨(wrap64 (x4_1 + 1)), (by first | rfl | (simp; done) | (simp [*]; done)), H', ⟨by have := HK1.out; omega⟩, ⟨by repeat (first | (with_reducible first | exact HB.out | apply below_alloc | apply pw_below_drewN | apply below_drew1) | exact HB.out)⟩⟩
                                  · rw [if_neg c21] at H
                                    have c21b0 : ((bt t176 x4_1) == 37) = false := beq_eq_false_iff_ne.mpr c21
                                    have c21b1 : ((bt t176 x4_1) != 37) = true := bne_iff_ne.mpr c21
                                    obtain rfl := Option.some.inj H
                                    have p9 : 0 ≤ (x4_1 : Int) := of_decide_eq_true (by first | (with_reducible assumption) | assumption)
                                    have q9 : x4_1 < (t176.size : Int) := of_decide_eq_true (by first | (with_reducible assumption) | assumption)
                                    have hx9 := bt_at t176 x4_1
                                    replace p9 := eq_true p9
                                    replace q9 := eq_true q9
                                    go_wp2
                                    go_ret
                                    exact ⟨by first | rfl | (simp [errW_none, errW_some] <;> rfl) | (simp [*, errW_none, errW_some] <;> rfl), by repeat (first | (with_reducible first | exact HB.out | apply below_alloc | apply pw_below_drewN | apply below_drew1) | exact HB.out)⟩
                    · rw [if_neg c14] at H
                      have c14b0 : decide (48 ≤ (bt t176 x4_1)) = false := decide_eq_false c14
                      clear c14
                      by_cases c22 : (bt t176 x4_1) = 45
                      · rw [if_pos c22] at H
                        have c22b0 : ((bt t176 x4_1) == 45) = true := beq_iff_eq.mpr c22
                        have c22b1 : ((bt t176 x4_1) != 45) = false := bne_eq_false_iff_eq.mpr c22
                        clear c22
                        have H' := Aside0.mk H
                        clear H
                        have p9 : 0 ≤ (x4_1 : Int) := of_decide_eq_true (by first | (with_reducible assumption) | assumption)
                        have q9 : x4_1 < (t176.size : Int) := of_decide_eq_true (by first | (with_reducible assumption) | assumption)
                        have hx9 := bt_at t176 x4_1
                        replace p9 := eq_true p9
                        replace q9 := eq_true q9
                        go_wp2
                        go_roundg k1
                        case measure => have := HK1.out; omega
                        case rel => exact ⟨(wrap64 (x4_1 + 1)), (by first | rfl | (simp; done) | (simp [*]; done)), H', ⟨by have := HK1.out; omega⟩, ⟨by repeat (first | (with_reducible first | exact HB.out | apply below_alloc | apply pw_below_drewN | apply below_drew1) | exact HB.out)⟩⟩
                      · rw [if_neg c22] at H
                        have c22b0 : ((bt t176 x4_1) == 45) = false := beq_eq_false_iff_ne.mpr c22
                        have c22b1 : ((bt t176 x4_1) != 45) = true := bne_iff_ne.mpr c22
                        by_cases c23 : (bt t176 x4_1) = 46
                        · rw [if_pos c23] at H
                          have c23b0 : ((bt t176 x4_1) == 46) = true := beq_iff_eq.mpr c23
                          have c23b1 : ((bt t176 x4_1) != 46) = false := bne_eq_false_iff_eq.mpr c23
                          clear c23
                          have H' := Aside0.mk H
                          clear H
                          have p9 : 0 ≤ (x4_1 : Int) := of_decide_eq_true (by first | (with_reducible assumption) | assumption)
                          have q9 : x4_1 < (t176.size : Int) := of_decide_eq_true (by first | (with_reducible assumption) | assumption)
                          have hx9 := bt_at t176 x4_1
                          replace p9 := eq_true p9
                          replace q9 := eq_true q9
                          go_wp2
                          go_roundg k1
                          case measure => have := HK1.out; omega
                          case rel => exact ⟨(wrap64 (x4_1 + 1)), (by first | rfl | (simp; done) | (simp [*]; done)), H', ⟨by have := HK1.out; omega⟩, ⟨by repeat (first | (with_reducible first | exact HB.out | apply below_alloc | apply pw_below_drewN | apply below_drew1) | exact HB.out)⟩⟩
                        · rw [if_neg c23] at H
                          have c23b0 : ((bt t176 x4_1) == 46) = false := beq_eq_false_iff_ne.mpr c23
                          have c23b1 : ((bt t176 x4_1) != 46) = true := bne_iff_ne.mpr c23
                          by_cases c24 : (bt t176 x4_1) = 95
                          · rw [if_pos c24] at H
                            have c24b0 : ((bt t176 x4_1) == 95) = true := beq_iff_eq.mpr c24
                            have c24b1 : ((bt t176 x4_1) != 95) = false := bne_eq_false_iff_eq.mpr c24
                            clear c24
                            have H' := Aside0.mk H
                            clear H
                            have p9 : 0 ≤ (x4_1 : Int) := of_decide_eq_true (by first | (with_reducible assumption) | assumption)
                            have q9 : x4_1 < (t176.size : Int) := of_decide_eq_true (by first | (with_reducible assumption) | assumption)
                            have hx9 := bt_at t176 x4_1
                            replace p9 := eq_true p9
                            replace q9 := eq_true q9
                            go_wp2
                            go_roundg k1
                            case measure => have := HK1.out; omega
                            case rel => exact ⟨(wrap64 (x4_1 + 1)), (by first | rfl | (simp; done) | (simp [*]; done)), H', ⟨by have := HK1.out; omega⟩, ⟨by repeat (first | (with_reducible first | exact HB.out | apply below_alloc | apply pw_below_drewN | apply below_drew1) | exact HB.out)⟩⟩
                          · rw [if_neg c24] at H
                            have c24b0 : ((bt t176 x4_1) == 95) = false := beq_eq_false_iff_ne.mpr c24
                            have c24b1 : ((bt t176 x4_1) != 95) = true := bne_iff_ne.mpr c24
                            by_cases c25 : (bt t176 x4_1) = 126
                            · rw [if_pos c25] at H
                              have c25b0 : ((bt t176 x4_1) == 126) = true := beq_iff_eq.mpr c25
                              have c25b1 : ((bt t176 x4_1) != 126) = false := bne_eq_false_iff_eq.mpr c25
                              clear c25
                              have H' := Aside0.mk H
                              clear H
                              have p9 : 0 ≤ (x4_1 : Int) := of_decide_eq_true (by first | (with_reducible assumption) | assumption)
                              have q9 : x4_1 < (t176.size : Int) := of_decide_eq_true (by first | (with_reducible assumption) | assumption)
                              have hx9 := bt_at t176 x4_1
                              replace p9 := eq_true p9
                              replace q9 := eq_true q9
                              go_wp2
                              go_roundg k1
                              case measure => have := HK1.out; omega
                              case rel => exact ⟨(wrap64 (x4_1 + 1)), (by first | rfl | (simp; done) | (simp [*]; done)), H', ⟨by have := HK1.out; omega⟩, ⟨by repeat (first | (with_reducible first | exact HB.out | apply below_alloc | apply pw_below_drewN | apply below_drew1) | exact HB.out)⟩⟩
                            · rw [if_neg c25] at H
                              have c25b0 : ((bt t176 x4_1) == 126) = false := beq_eq_false_iff_ne.mpr c25
                              have c25b1 : ((bt t176 x4_1) != 126) = true := bne_iff_ne.mpr c25
                              by_cases c26 : (bt t176 x4_1) = 47
                              · rw [if_pos c26] at H
                                have c26b0 : ((bt t176 x4_1) == 47) = true := beq_iff_eq.mpr c26
                                have c26b1 : ((bt t176 x4_1) != 47) = false := bne_eq_false_iff_eq.mpr c26
                                clear c26
                                have H' := Aside0.mk H
                                clear H
                                have p9 : 0 ≤ (x4_1 : Int) := of_decide_eq_true (by first | (with_reducible assumption) | assumption)
                                have q9 : x4_1 < (t176.size : Int) := of_decide_eq_true (by first | (with_reducible assumption) | assumption)
                                have hx9 := bt_at t176 x4_1
                                replace p9 := eq_true p9
                                replace q9 := eq_true q9
                                go_wp2
                                go_roundg k1
                                case measure => have := HK1.out; omega
                                case rel => exact ⟨(wrap64 (x4_1 + 1)), (by first | rfl | (simp; done) | (simp [*]; done)), H', ⟨by have := HK1.out; omega⟩, ⟨by repeat (first | (with_reducible first | exact HB.out | apply below_alloc | apply pw_below_drewN | apply below_drew1) | exact HB.out)⟩⟩
                              · rw [if_neg c26] at H
                                have c26b0 : ((bt t176 x4_1) == 47) = false := beq_eq_false_iff_ne.mpr c26
                                have c26b1 : ((bt t176 x4_1) != 47) = true := bne_iff_ne.mpr c26
                                by_cases c27 : ((bt t176 x4_1) = 37)
                                · rw [if_pos c27] at H
                                  have c27b0 : ((bt t176 x4_1) == 37) = true := beq_iff_eq.mpr c27
                                  have c27b1 : ((bt t176 x4_1) != 37) = false := bne_eq_false_iff_eq.mpr c27
                                  clear c27
                                  have H' := Aside0.mk H
                                  clear H
                                  have p9 : 0 ≤ (x4_1 : Int) := of_decide_eq_true (by first | (with_reducible assumption) | assumption)
                                  have q9 : x4_1 < (t176.size : Int) := of_decide_eq_true (by first | (with_reducible assumption) | assumption)
                                  have hx9 := bt_at t176 x4_1
                                  replace p9 := eq_true p9
                                  replace q9 := eq_true q9
                                  go_wp2
                                  go_roundg k1
                                  case measure => have := HK1.out; omega
                                  case rel => exact ⟨(wrap64 (x4_1 + 1)), (by first | rfl | (simp; done) | (simp [*]; done)), H', ⟨by have := HK1.out; omega⟩, ⟨by repeat (first | (with_reducible first | exact HB.out | apply below_alloc | apply pw_below_drewN | apply below_drew1) | exact HB.out)⟩⟩
                                · rw [if_neg c27] at H
                                  have c27b0 : ((bt t176 x4_1) == 37) = false := beq_eq_false_iff_ne.mpr c27
                                  have c27b1 : ((bt t176 x4_1) != 37) = true := bne_iff_ne.mpr c27
                                  obtain rfl := Option.some.inj H
                                  have p9 : 0 ≤ (x4_1 : Int) := of_decide_eq_true (by first | (with_reducible assumption) | assumption)
                                  have q9 : x4_1 < (t176.size : Int) := of_decide_eq_true (by first | (with_reducible assumption) | assumption)
                                  have hx9 := bt_at t176 x4_1
                                  replace p9 := eq_true p9
                                  replace q9 := eq_true q9
                                  go_wp2
                                  go_ret
                                  exact ⟨by first | rfl | (simp [errW_none, errW_some] <;> rfl) | (simp [*, errW_none, errW_some] <;> rfl), by repeat (first | (with_reducible first | exact HB.out | apply below_alloc | apply pw_below_drewN | apply below_drew1) | exact HB.out)⟩
                · rw [if_neg c12] at H
                  have c12b0 : decide (65 ≤ (bt t176 x4_1)) = false := decide_eq_false c12
                  clear c12
                  by_cases c28 : (bt t176 x4_1) ≥ 48
                  · rw [if_pos c28] at H
                    have c28b0 : decide (48 ≤ (bt t176 x4_1)) = true := decide_eq_true c28
                    clear c28
                    by_cases c29 : (bt t176 x4_1) ≤ 57
                    · rw [if_pos c29] at H
                      have c29b0 : decide ((bt t176 x4_1) ≤ 57) = true := decide_eq_true c29
                      clear c29
                      have H' := Aside0.mk H
                      clear H
                      have p9 : 0 ≤ (x4_1 : Int) := of_decide_eq_true (by first | (with_reducible assumption) | assumption)
                      have q9 : x4_1 < (t176.size : Int) := of_decide_eq_true (by first | (with_reducible assumption) | assumption)
                      have hx9 := bt_at t176 x4_1
                      replace p9 := eq_true p9
                      replace q9 := eq_true q9
                      go_wp2
                      go_roundg k1
                      case measure => have := HK1.out; omega
                      case rel => exact ⟨(wrap64 (x4_1 + 1)), (by first | rfl | (simp; done) | (simp [*]; done)), H', ⟨by have := HK1.out; omega⟩, ⟨by repeat (first | (with_reducible first | exact HB.out | apply below_alloc | apply pw_below_drewN | apply below_drew1) | exact HB.out)⟩⟩
                    · rw [if_neg c29] at H
                      have c29b0 : decide ((bt t176 x4_1) ≤ 57) = false := decide_eq_false c29
                      clear c29
                      by_cases c30 : (bt t176 x4_1) = 45
                      · rw [if_pos c30] at H
                        have c30b0 : ((bt t176 x4_1) == 45) = true := beq_iff_eq.mpr c30
                        have c30b1 : ((bt t176 x4_1) != 45) = false := bne_eq_false_iff_eq.mpr c30
                        clear c30
                        have H' := Aside0.mk H
                        clear H
                        have p9 : 0 ≤ (x4_1 : Int) := of_decide_eq_true (by first | (with_reducible assumption) | assumption)
                        have q9 : x4_1 < (t176.size : Int) := of_decide_eq_true (by first | (with_reducible assumption) | assumption)
                        have hx9 := bt_at t176 x4_1
                        replace p9 := eq_true p9
                        replace q9 := eq_true q9
                        go_wp2
                        go_roundg k1
                        case measure => have := HK1.out; omega
                        case rel => exact ⟨(wrap64 (x4_1 + 1)), (by first | rfl | (simp; done) | (simp [*]; done)), H', ⟨by have := HK1.out; omega⟩, ⟨by repeat (first | (with_reducible first | exact HB.out | apply below_alloc | apply pw_below_drewN | apply below_drew1) | exact HB.out)⟩⟩
                      · rw [if_neg c30] at H
                        have c30b0 : ((bt t176 x4_1) == 45) = false := beq_eq_false_iff_ne.mpr c30
                        have c30b1 : ((bt t176 x4_1) != 45) = true := bne_iff_ne.mpr c30
                        by_cases c31 : (bt t176 x4_1) = 46
                        · rw [if_pos c31] at H
                          have c31b0 : ((bt t176 x4_1) == 46) = true := beq_iff_eq.mpr c31
                          have c31b1 : ((bt t176 x4_1) != 46) = false := bne_eq_false_iff_eq.mpr c31
                          clear c31
                          have H' := Aside0.mk H
                          clear H
                          have p9 : 0 ≤ (x4_1 : Int) := of_decide_eq_true (by first | (with_reducible assumption) | assumption)
                          have q9 : x4_1 < (t176.size : Int) := of_decide_eq_true (by first | (with_reducible assumption) | assumption)
                          have hx9 := bt_at t176 x4_1
                          replace p9 := eq_true p9
                          replace q9 := eq_true q9
                          go_wp2
                          go_roundg k1
                          case measure => have := HK1.out; omega
                          case rel => exact ⟨(wrap64 (x4_1 + 1)), (by first | rfl | (simp; done) | (simp [*]; done)), H', ⟨by have := HK1.out; omega⟩, ⟨by repeat (first | (with_reducible first | exact HB.out | apply below_alloc | apply pw_below_drewN | apply below_drew1) | exact HB.out)⟩⟩
                        · rw [if_neg c31] at H
                          have c31b0 : ((bt t176 x4_1) == 46) = false := beq_eq_false_iff_ne.mpr c31
                          have c31b1 : ((bt t176 x4_1) != 46) = true := bne_iff_ne.mpr c31
                          by_cases c32 : (bt t176 x4_1) = 95
                          · rw [if_pos c32] at H
                            have c32b0 : ((bt t176 x4_1) == 95) = true := beq_iff_eq.mpr c32
                            have c32b1 : ((bt t176 x4_1) != 95) = false := bne_eq_false_iff_eq.mpr c32
                            clear c32
                            have H' := Aside0.mk H
                            clear H
                            have p9 : 0 ≤ (x4_1 : Int) := of_decide_eq_true (by first | (with_reducible assumption) | assumption)
                            have q9 : x4_1 < (t176.size : Int) := of_decide_eq_true (by first | (with_reducible assumption) | assumption)
                            have hx9 := bt_at t176 x4_1
                            replace p9 := eq_true p9
                            replace q9 := eq_true q9
                            go_wp2
                            go_roundg k1
                            case measure => have := HK1.out; omega
                            case rel => exact ⟨(wrap64 (x4_1 + 1)), (by first | rfl | (simp; done) | (simp [*]; done)), H', ⟨by have := HK1.out; omega⟩, ⟨by repeat (first | (with_reducible first | exact HB.out | apply below_alloc | apply pw_below_drewN | apply below_drew1) | exact HB.out)⟩⟩
                          · rw [if_neg c32] at H
                            have c32b0 : ((bt t176 x4_1) == 95) = false := beq_eq_false_iff_ne.mpr c32
                            have c32b1 : ((bt t176 x4_1) != 95) = true := bne_iff_ne.mpr c32
                            by_cases c33 : (bt t176 x4_1) = 126
                            · rw [if_pos c33] at H
                              have c33b0 : ((bt t176 x4_1) == 126) = true := beq_iff_eq.mpr c33
                              have c33b1 : ((bt t176 x4_1) != 126) = false := bne_eq_false_iff_eq.mpr c33
                              clear c33
                              have H' := Aside0.mk H
                              clear H
                              have p9 : 0 ≤ (x4_1 : Int) := of_decide_eq_true (by first | (with_reducible assumption) | assumption)
                              have q9 : x4_1 < (t176.size : Int) := of_decide_eq_true (by first | (with_reducible assumption) | assumption)
                              have hx9 := bt_at t176 x4_1
                              replace p9 := eq_true p9
                              replace q9 := eq_true q9
                              go_wp2
                              go_roundg k1
                              case measure => have := HK1.out; omega
                              case rel => exact ⟨(wrap64 (x4_1 + 1)), (by first | rfl | (simp; done) | (simp [*]; done)), H', ⟨by have := HK1.out; omega⟩, ⟨by repeat (first | (with_reducible first | exact HB.out | apply below_alloc | apply pw_below_drewN | apply below_drew1) | exact HB.out)⟩⟩
                            · rw [if_neg c33] at H
                              have c33b0 : ((bt t176 x4_1) == 126) = false := beq_eq_false_iff_ne.mpr c33
                              have c33b1 : ((bt t176 x4_1) != 126) = true := bne_iff_ne.mpr c33
                              by_cases c34 : (bt t176 x4_1) = 47
                              · rw [if_pos c34] at H
                                have c34b0 : ((bt t176 x4_1) == 47) = true := beq_iff_eq.mpr c34
                                have c34b1 : ((bt t176 x4_1) != 47) = false := bne_eq_false_iff_eq.mpr c34
                                clear c34
                                have H' := Aside0.mk H
                                clear H
                                have p9 : 0 ≤ (x4_1 : Int) := of_decide_eq_true (by first | (with_reducible assumption) | assumption)
                                have q9 : x4_1 < (t176.size : Int) := of_decide_eq_true (by first | (with_reducible assumption) | assumption)
                                have hx9 := bt_at t176 x4_1
                                replace p9 := eq_true p9
                                replace q9 := eq_true q9
                                go_wp2
                                go_roundg k1
                                case measure => have := HK1.out; omega
                                case rel => exact ⟨(wrap64 (x4_1 + 1)), (by first | rfl | (simp; done) | (simp [*]; done)), H', ⟨by have := HK1.out; omega⟩, ⟨by repeat (first | (with_reducible first | exact HB.out | apply below_alloc | apply pw_below_drewN | apply below_drew1) | exact HB.out)⟩⟩
                              · rw [if_neg c34] at H
                                have c34b0 : ((bt t176 x4_1) == 47) = false := beq_eq_false_iff_ne.mpr c34
                                have c34b1 : ((bt t176 x4_1) != 47) = true := bne_iff_ne.mpr c34
                                by_cases c35 : ((bt t176 x4_1) = 37)
                                · rw [if_pos c35] at H
                                  have c35b0 : ((bt t176 x4_1) == 37) = true := beq_iff_eq.mpr c35
                                  have c35b1 : ((bt t176 x4_1) != 37) = false := bne_eq_false_iff_eq.mpr c35
                                  clear c35
                                  have H' := Aside0.mk H
                                  clear H
                                  have p9 : 0 ≤ (x4_1 : Int) := of_decide_eq_true (by first | (with_reducible assumption) | assumption)
                                  have q9 : x4_1 < (t176.size : Int) := of_decide_eq_true (by first | (with_reducible assumption) | assumption)
                                  have hx9 := bt_at t176 x4_1
                                  replace p9 := eq_true p9
                                  replace q9 := eq_true q9
                                  go_wp2
                                  go_roundg k1
                                  case measure => have := HK1.out; omega
                                  case rel => exact ⟨(wrap64 (x4_1 + 1)), (by first | rfl | (simp; done) | (simp [*]; done)), H', ⟨by have := HK1.out; omega⟩, ⟨by repeat (first | (with_reducible first | exact HB.out | apply below_alloc | apply pw_below_drewN | apply below_drew1) | exact HB.out)⟩⟩
                                · rw [if_neg c35] at H
                                  have c35b0 : ((bt t176 x4_1) == 37) = false := beq_eq_false_iff_ne.mpr c35
                                  have c35b1 : ((bt t176 x4_1) != 37) = true := bne_iff_ne.mpr c35
                                  obtain rfl := Option.some.inj H
                                  have p9 : 0 ≤ (x4_1 : Int) := of_decide_eq_true (by first | (with_reducible assumption) | assumption)
                                  have q9 : x4_1 < (t176.size : Int) := of_decide_eq_true (by first | (with_reducible assumption) | assumption)
                                  have hx9 := bt_at t176 x4_1
                                  replace p9 := eq_true p9
                                  replace q9 := eq_true q9
                                  go_wp2
                                  go_ret
                                  exact ⟨by first | rfl | (simp [errW_none, errW_some] <;> rfl) | (simp [*, errW_none, errW_some] <;> rfl), by repeat (first | (with_reducible first | exact HB.out | apply below_alloc | apply pw_below_drewN | apply below_drew1) | exact HB.out)⟩
                  · rw [if_neg c28] at H
                    have c28b0 : decide (48 ≤ (bt t176 x4_1)) = false := decide_eq_false c28
                    clear c28
                    by_cases c36 : (bt t176 x4_1) = 45
                    · rw [if_pos c36] at H
                      have c36b0 : ((bt t176 x4_1) == 45) = true := beq_iff_eq.mpr c36
                      have c36b1 : ((bt t176 x4_1) != 45) = false := bne_eq_false_iff_eq.mpr c36
                      clear c36
                      have H' := Aside0.mk H
                      clear H
                      have p9 : 0 ≤ (x4_1 : Int) := of_decide_eq_true (by first | (with_reducible assumption) | assumption)
                      have q9 : x4_1 < (t176.size : Int) := of_decide_eq_true (by first | (with_reducible assumption) | assumption)
                      have hx9 := bt_at t176 x4_1
                      replace p9 := eq_true p9
                      replace q9 := eq_true q9
                      go_wp2
                      go_roundg k1
                      case measure => have := HK1.out; omega
                      case rel => exact ⟨(wrap64 (x4_1 + 1)), (by first | rfl | (simp; done) | (simp [*]; done)), H', ⟨by have := HK1.out; omega⟩, ⟨by repeat (first | (with_reducible first | exact HB.out | apply below_alloc | apply pw_below_drewN | apply below_drew1) | exact HB.out)⟩⟩
                    · rw [if_neg c36] at H
                      have c36b0 : ((bt t176 x4_1) == 45) = false := beq_eq_false_iff_ne.mpr c36
                      have c36b1 : ((bt t176 x4_1) != 45) = true := bne_iff_ne.mpr c36
                      by_cases c37 : (bt t176 x4_1) = 46
                      · rw [if_pos c37] at H
                        have c37b0 : ((bt t176 x4_1) == 46) = true := beq_iff_eq.mpr c37
                        have c37b1 : ((bt t176 x4_1) != 46) = false := bne_eq_false_iff_eq.mpr c37
                        clear c37
                        have H' := Aside0.mk H
                        clear H
                        have p9 : 0 ≤ (x4_1 : Int) := of_decide_eq_true (by first | (with_reducible assumption) | assumption)
                        have q9 : x4_1 < (t176.size : Int) := of_decide_eq_true (by first | (with_reducible assumption) | assumption)
                        have hx9 := bt_at t176 x4_1
                        replace p9 := eq_true p9
                        replace q9 := eq_true q9
                        go_wp2
                        go_roundg k1
                        case measure => have := HK1.out; omega
                        case rel => exact ⟨(wrap64 (x4_1 + 1)), (by first | rfl | (simp; done) | (simp [*]; done)), H', ⟨by have := HK1.out; omega⟩, ⟨by repeat (first | (with_reducible first | exact HB.out | apply below_alloc | apply pw_below_drewN | apply below_drew1) | exact HB.out)⟩⟩
                      · rw [if_neg c37] at H
                        have c37b0 : ((bt t176 x4_1) == 46) = false := beq_eq_false_iff_ne.mpr c37
                        have c37b1 : ((bt t176 x4_1) != 46) = true := bne_iff_ne.mpr c37
                        by_cases c38 : (bt t176 x4_1) = 95
                        · rw [if_pos c38] at H
                          have c38b0 : ((bt t176 x4_1) == 95) = true := beq_iff_eq.mpr c38
                          have c38b1 : ((bt t176 x4_1) != 95) = false := bne_eq_false_iff_eq.mpr c38
                          clear c38
                          have H' := Aside0.mk H
                          clear H
                          have p9 : 0 ≤ (x4_1 : Int) := of_decide_eq_true (by first | (with_reducible assumption) | assumption)
                          have q9 : x4_1 < (t176.size : Int) := of_decide_eq_true (by first | (with_reducible assumption) | assumption)
                          have hx9 := bt_at t176 x4_1
                          replace p9 := eq_true p9
                          replace q9 := eq_true q9
                          go_wp2
                          go_roundg k1
                          case measure => have := HK1.out; omega
                          case rel => exact ⟨(wrap64 (x4_1 + 1)), (by first | rfl | (simp; done) | (simp [*]; done)), H', ⟨by have := HK1.out; omega⟩, ⟨by repeat (first | (with_reducible first | exact HB.out | apply below_alloc | apply pw_below_drewN | apply below_drew1) | exact HB.out)⟩⟩
                        · rw [if_neg c38] at H
                          have c38b0 : ((bt t176 x4_1) == 95) = false := beq_eq_false_iff_ne.mpr c38
                          have c38b1 : ((bt t176 x4_1) != 95) = true := bne_iff_ne.mpr c38
                          by_cases c39 : (bt t176 x4_1) = 126
                          · rw [if_pos c39] at H
                            have c39b0 : ((bt t176 x4_1) == 126) = true := beq_iff_eq.mpr c39
                            have c39b1 : ((bt t176 x4_1) != 126) = false := bne_eq_false_iff_eq.mpr c39
                            clear c39
                            have H' := Aside0.mk H
                            clear H
                            have p9 : 0 ≤ (x4_1 : Int) := of_decide_eq_true (by first | (with_reducible assumption) | assumption)
                            have q9 : x4_1 < (t176.size : Int) := of_decide_eq_true (by first | (with_reducible assumption) | assumption)
                            have hx9 := bt_at t176 x4_1
                            replace p9 := eq_true p9
                            replace q9 := eq_true q9
                            go_wp2
                            go_roundg k1
                            case measure => have := HK1.out; omega
                            case rel => exact ⟨(wrap64 (x4_1 + 1)), (by first | rfl | (simp; done) | (simp [*]; done)), H', ⟨by have := HK1.out; omega⟩, ⟨by repeat (first | (with_reducible first | exact HB.out | apply below_alloc | apply pw_below_drewN | apply below_drew1) | exact HB.out)⟩⟩
                          · rw [if_neg c39] at H
                            have c39b0 : ((bt t176 x4_1) == 126) = false := beq_eq_false_iff_ne.mpr c39
                            have c39b1 : ((bt t176 x4_1) != 126) = true := bne_iff_ne.mpr c39
                            by_cases c40 : (bt t176 x4_1) = 47
                            · rw [if_pos c40] at H
                              have c40b0 : ((bt t176 x4_1) == 47) = true := beq_iff_eq.mpr c40
                              have c40b1 : ((bt t176 x4_1) != 47) = false := bne_eq_false_iff_eq.mpr c40
                              clear c40
                              have H' := Aside0.mk H
                              clear H
                              have p9 : 0 ≤ (x4_1 : Int) := of_decide_eq_true (by first | (with_reducible assumption) | assumption)
                              have q9 : x4_1 < (t176.size : Int) := of_decide_eq_true (by first | (with_reducible assumption) | assumption)
                              have hx9 := bt_at t176 x4_1
                              replace p9 := eq_true p9
                              replace q9 := eq_true q9
                              go_wp2
                              go_roundg k1
                              case measure => have := HK1.out; omega
                              case rel => exact ⟨(wrap64 (x4_1 + 1)), (by first | rfl | (simp; done) | (simp [*]; done)), H', ⟨by have := HK1.out; omega⟩, ⟨by repeat (first | (with_reducible first | exact HB.out | apply below_alloc | apply pw_below_drewN | apply below_drew1) | exact HB.out)⟩⟩
                            · rw [if_neg c40] at H
                              have c40b0 : ((bt t176 x4_1) == 47) = false := beq_eq_false_iff_ne.mpr c40
                              have c40b1 : ((bt t176 x4_1) != 47) = true := bne_iff_ne.mpr c40
                              by_cases c41 : ((bt t176 x4_1) = 37)
                              · rw [if_pos c41] at H
                                have c41b0 : ((bt t176 x4_1) == 37) = true := beq_iff_eq.mpr c41
                                have c41b1 : ((bt t176 x4_1) != 37) = false := bne_eq_false_iff_eq.mpr c41
                                clear c41
                                have H' := Aside0.mk H
                                clear H
                                have p9 : 0 ≤ (x4_1 : Int) := of_decide_eq_true (by first | (with_reducible assumption) | assumption)
                                have q9 : x4_1 < (t176.size : Int) := of_decide_eq_true (by first | (with_reducible assumption) | assumption)
                                have hx9 := bt_at t176 x4_1
                                replace p9 := eq_true p9
                                replace q9 := eq_true q9
                                go_wp2
                                go_roundg k1
                                case measure => have := HK1.out; omega
                                case rel => exact ⟨(wrap64 (x4_1 + 1)), (by first | rfl | (simp; done) | (simp [*]; done)), H', ⟨by have := HK1.out; omega⟩, ⟨by repeat (first | (with_reducible first | exact HB.out | apply below_alloc | apply pw_below_drewN | apply below_drew1) | exact HB.out)⟩⟩
                              · rw [if_neg c41] at H
                                have c41b0 : ((bt t176 x4_1) == 37) = false := beq_eq_false_iff_ne.mpr c41
                                have c41b1 : ((bt t176 x4_1) != 37) = true := bne_iff_ne.mpr c41
                                obtain rfl := Option.some.inj H
                                have p9 : 0 ≤ (x4_1 : Int) := of_decide_eq_true (by first | (with_reducible assumption) | assumption)
                                have q9 : x4_1 < (t176.size : Int) := of_decide_eq_true (by first | (with_reducible assumption) | assumption)
                                have hx9 := bt_at t176 x4_1
                                replace p9 := eq_true p9
                                replace q9 := eq_true q9
                                go_wp2
                                go_ret
                                exact ⟨by first | rfl | (simp [errW_none, errW_some] <;> rfl) | (simp [*, errW_none, errW_some] <;> rfl), by repeat (first | (with_reducible first | exact HB.out | apply below_alloc | apply pw_below_drewN | apply below_drew1) | exact HB.out)⟩
            · rw [if_neg c10] at H
              have c10b0 : decide (97 ≤ (bt t176 x4_1)) = false := decide_eq_false c10
              clear c10
              by_cases c42 : (bt t176 x4_1) ≥ 65
              · rw [if_pos c42] at H
                have c42b0 : decide (65 ≤ (bt t176 x4_1)) = true := decide_eq_true c42
                clear c42
                by_cases c43 : (bt t176 x4_1) ≤ 90
                · rw [if_pos c43] at H
                  have c43b0 : decide ((bt t176 x4_1) ≤ 90) = true := decide_eq_true c43
                  clear c43
                  have H' := Aside0.mk H
                  clear H
                  have p9 : 0 ≤ (x4_1 : Int) := of_decide_eq_true (by first | (with_reducible assumption) | assumption)
                  have q9 : x4_1 < (t176.size : Int) := of_decide_eq_true (by first | (with_reducible assumption) | assumption)
                  have hx9 := bt_at t176 x4_1
                  replace p9 := eq_true p9
                  replace q9 := eq_true q9
                  go_wp2
                  go_roundg k1
                  case measure => have := HK1.out; omega
                  case rel => exact ⟨(wrap64 (x4_1 + 1)), (by first | rfl | (simp; done) | (simp [*]; done)), H', ⟨by have := HK1.out; omega⟩, ⟨by repeat (first | (with_reducible first | exact HB.out | apply below_alloc | apply pw_below_drewN | apply below_drew1) | exact HB.out)⟩⟩
                · rw [if_neg c43] at H
                  have c43b0 : decide ((bt t176 x4_1) ≤ 90) = false := decide_eq_false c43
                  clear c43
                  by_cases c44 : (bt t176 x4_1) ≥ 48
                  · rw [if_pos c44] at H
                    have c44b0 : decide (48 ≤ (bt t176 x4_1)) = true := decide_eq_true c44
                    clear c44
                    by_cases c45 : (bt t176 x4_1) ≤ 57
                    · rw [if_pos c45] at H
                      have c45b0 : decide ((bt t176 x4_1) ≤ 57) = true := decide_eq_true c45
                      clear c45
                      have H' := Aside0.mk H
                      clear H
                      have p9 : 0 ≤ (x4_1 : Int) := of_decide_eq_true (by first | (with_reducible assumption) | assumption)
                      have q9 : x4_1 < (t176.size : Int) := of_decide_eq_true (by first | (with_reducible assumption) | assumption)
                      have hx9 := bt_at t176 x4_1
                      replace p9 := eq_true p9
                      replace q9 := eq_true q9
                      go_wp2
                      go_roundg k1
                      case measure => have := HK1.out; omega
                      case rel => exact ⟨(wrap64 (x4_1 + 1)), (by first | rfl | (simp; done) | (simp [*]; done)), H', ⟨by have := HK1.out; omega⟩, ⟨by repeat (first | (with_reducible first | exact HB.out | apply below_alloc | apply pw_below_drewN | apply below_drew1) | exact HB.out)⟩⟩
                    · rw [if_neg c45] at H
                      have c45b0 : decide ((bt t176 x4_1) ≤ 57) = false := decide_eq_false c45
                      clear c45
                      by_cases c46 : (bt t176 x4_1) = 45
                      · rw [if_pos c46] at H
                        have c46b0 : ((bt t176 x4_1) == 45) = true := beq_iff_eq.mpr c46
                        have c46b1 : ((bt t176 x4_1) != 45) = false := bne_eq_false_iff_eq.mpr c46
                        clear c46
                        have H' := Aside0.mk H
                        clear H
                        have p9 : 0 ≤ (x4_1 : Int) := of_decide_eq_true (by first | (with_reducible assumption) | assumption)
                        have q9 : x4_1 < (t176.size : Int) := of_decide_eq_true (by first | (with_reducible assumption) | assumption)
                        have hx9 := bt_at t176 x4_1
                        replace p9 := eq_true p9
                        replace q9 := eq_true q9
                        go_wp2
                        go_roundg k1
                        case measure => have := HK1.out; omega
                        case rel => exact ⟨(wrap64 (x4_1 + 1)), (by first | rfl | (simp; done) | (simp [*]; done)), H', ⟨by have := HK1.out; omega⟩, ⟨by repeat (first | (with_reducible first | exact HB.out | apply below_alloc | apply pw_below_drewN | apply below_drew1) | exact HB.out)⟩⟩
                      · rw [if_neg c46] at H
                        have c46b0 : ((bt t176 x4_1) == 45) = false := beq_eq_false_iff_ne.mpr c46
                        have c46b1 : ((bt t176 x4_1) != 45) = true := bne_iff_ne.mpr c46
                        by_cases c47 : (bt t176 x4_1) = 46
                        · rw [if_pos c47] at H
                          have c47b0 : ((bt t176 x4_1) == 46) = true := beq_iff_eq.mpr c47
                          have c47b1 : ((bt t176 x4_1) != 46) = false := bne_eq_false_iff_eq.mpr c47
                          clear c47
                          have H' := Aside0.mk H
                          clear H
                          have p9 : 0 ≤ (x4_1 : Int) := of_decide_eq_true (by first | (with_reducible assumption) | assumption)
                          have q9 : x4_1 < (t176.size : Int) := of_decide_eq_true (by first | (with_reducible assumption) | assumption)
                          have hx9 := bt_at t176 x4_1
                          replace p9 := eq_true p9
                          replace q9 := eq_true q9
                          go_wp2
                          go_roundg k1
                          case measure => have := HK1.out; omega
                          case rel => exact ⟨(wrap64 (x4_1 + 1)), (by first | rfl | (simp; done) | (simp [*]; done)), H', ⟨by have := HK1.out; omega⟩, ⟨by repeat (first | (with_reducible first | exact HB.out | apply below_alloc | apply pw_below_drewN | apply below_drew1) | exact HB.out)⟩⟩
                        · rw [if_neg c47] at H
                          have c47b0 : ((bt t176 x4_1) == 46) = false := beq_eq_false_iff_ne.mpr c47
                          have c47b1 : ((bt t176 x4_1) != 46) = true := bne_iff_ne.mpr c47
                          by_cases c48 : (bt t176 x4_1) = 95
                          · rw [if_pos c48] at H
                            have c48b0 : ((bt t176 x4_1) == 95) = true := beq_iff_eq.mpr c48
                            have c48b1 : ((bt t176 x4_1) != 95) = false := bne_eq_false_iff_eq.mpr c48
                            clear c48
                            have H' := Aside0.mk H
                            clear H
                            have p9 : 0 ≤ (x4_1 : Int) := of_decide_eq_true (by first | (with_reducible assumption) | assumption)
                            have q9 : x4_1 < (t176.size : Int) := of_decide_eq_true (by first | (with_reducible assumption) | assumption)
                            have hx9 := bt_at t176 x4_1
                            replace p9 := eq_true p9
                            replace q9 := eq_true q9
                            go_wp2
                            go_roundg k1
                            case measure => have := HK1.out; omega
                            case rel => exact ⟨(wrap64 (x4_1 + 1)), (by first | rfl | (simp; done) | (simp [*]; done)), H', ⟨by have := HK1.out; omega⟩, ⟨by repeat (first | (with_reducible first | exact HB.out | apply below_alloc | apply pw_below_drewN | apply below_drew1) | exact HB.out)⟩⟩
                          · rw [if_neg c48] at H
                            have c48b0 : ((bt t176 x4_1) == 95) = false := beq_eq_false_iff_ne.mpr c48
                            have c48b1 : ((bt t176 x4_1) != 95) = true := bne_iff_ne.mpr c48
                            by_cases c49 : (bt t176 x4_1) = 126
                            · rw [if_pos c49] at H
                              have c49b0 : ((bt t176 x4_1) == 126) = true := beq_iff_eq.mpr c49
                              have c49b1 : ((bt t176 x4_1) != 126) = false := bne_eq_false_iff_eq.mpr c49
                              clear c49
                              have H' := Aside0.mk H
                              clear H
                              have p9 : 0 ≤ (x4_1 : Int) := of_decide_eq_true (by first | (with_reducible assumption) | assumption)
                              have q9 : x4_1 < (t176.size : Int) := of_decide_eq_true (by first | (with_reducible assumption) | assumption)
                              have hx9 := bt_at t176 x4_1
                              replace p9 := eq_true p9
                              replace q9 := eq_true q9
                              go_wp2
                              go_roundg k1
                              case measure => have := HK1.out; omega
                              case rel => exact ⟨(wrap64 (x4_1 + 1)), (by first | rfl | (simp; done) | (simp [*]; done)), H', ⟨by have := HK1.out; omega⟩, ⟨by repeat (first | (with_reducible first | exact HB.out | apply below_alloc | apply pw_below_drewN | apply below_drew1) | exact HB.out)⟩⟩
                            · rw [if_neg c49] at H
                              have c49b0 : ((bt t176 x4_1) == 126) = false := beq_eq_false_iff_ne.mpr c49
                              have c49b1 : ((bt t176 x4_1) != 126) = true := bne_iff_ne.mpr c49
                              by_cases c50 : (bt t176 x4_1) = 47
                              · rw [if_pos c50] at H
                                have c50b0 : ((bt t176 x4_1) == 47) = true := beq_iff_eq.mpr c50
                                have c50b1 : ((bt t176 x4_1) != 47) = false := bne_eq_false_iff_eq.mpr c50
                                clear c50
                                have H' := Aside0.mk H
                                clear H
                                have p9 : 0 ≤ (x4_1 : Int) := of_decide_eq_true (by first | (with_reducible assumption) | assumption)
                                have q9 : x4_1 < (t176.size : Int) := of_decide_eq_true (by first | (with_reducible assumption) | assumption)
                                have hx9 := bt_at t176 x4_1
                                replace p9 := eq_true p9
                                replace q9 := eq_true q9
                                go_wp2
                                go_roundg k1
                                case measure => have := HK1.out; omega
                                case rel => exact ⟨(wrap64 (x4_1 + 1)), (by first | rfl | (simp; done) | (simp [*]; done)), H', ⟨by have := HK1.out; omega⟩, ⟨by repeat (first | (with_reducible first | exact HB.out | apply below_alloc | apply pw_below_drewN | apply below_drew1) | exact HB.out)⟩⟩
                              · rw [if_neg c50] at H
                                have c50b0 : ((bt t176 x4_1) == 47) = false := beq_eq_false_iff_ne.mpr c50
                                have c50b1 : ((bt t176 x4_1) != 47) = true := bne_iff_ne.mpr c50
                                by_cases c51 : ((bt t176 x4_1) = 37)
                                · rw [if_pos c51] at H
                                  have c51b0 : ((bt t176 x4_1) == 37) = true := beq_iff_eq.mpr c51
                                  have c51b1 : ((bt t176 x4_1) != 37) = false := bne_eq_false_iff_eq.mpr c51
                                  clear c51
                                  have H' := Aside0.mk H
                                  clear H
                                  have p9 : 0 ≤ (x4_1 : Int) := of_decide_eq_true (by first | (with_reducible assumption) | assumption)
                                  have q9 : x4_1 < (t176.size : Int) := of_decide_eq_true (by first | (with_reducible assumption) | assumption)
                                  have hx9 := bt_at t176 x4_1
                                  replace p9 := eq_true p9
                                  replace q9 := eq_true q9
                                  go_wp2
                                  go_roundg k1
                                  case measure => have := HK1.out; omega
                                  case rel => exact ⟨(wrap64 (x4_1 + 1)), (by first | rfl | (simp; done) | (simp [*]; done)), H', ⟨by have := HK1.out; omega⟩, ⟨by repeat (first | (with_reducible first | exact HB.out | apply below_alloc | apply pw_below_drewN | apply below_drew1) | exact HB.out)⟩⟩
                                · rw [if_neg c51] at H
                                  have c51b0 : ((bt t176 x4_1) == 37) = false := beq_eq_false_iff_ne.mpr c51
                                  have c51b1 : ((bt t176 x4_1) != 37) = true := bne_iff_ne.mpr c51
                                  obtain rfl := Option.some.inj H
                                  have p9 : 0 ≤ (x4_1 : Int) := of_decide_eq_true (by first | (with_reducible assumption) | assumption)
                                  have q9 : x4_1 < (t176.size : Int) := of_decide_eq_true (by first | (with_reducible assumption) | assumption)
                                  have hx9 := bt_at t176 x4_1
                                  replace p9 := eq_true p9
                                  replace q9 := eq_true q9
                                  go_wp2
                                  go_ret
                                  exact ⟨by first | rfl | (simp [errW_none, errW_some] <;> rfl) | (simp [*, errW_none, errW_some] <;> rfl), by repeat (first | (with_reducible first | exact HB.out | apply below_alloc | apply pw_below_drewN | apply below_drew1) | exact HB.out)⟩
                  · rw [if_neg c44] at H
                    have c44b0 : decide (48 ≤ (bt t176 x4_1)) = false := decide_eq_false c44
                    clear c44
                    by_cases c52 : (bt t176 x4_1) = 45
                    · rw [if_pos c52] at H
                      have c52b0 : ((bt t176 x4_1) == 45) = true := beq_iff_eq.mpr c52
                      have c52b1 : ((bt t176 x4_1) != 45) = false := bne_eq_false_iff_eq.mpr c52
                      clear c52
                      have H' := Aside0.mk H
                      clear H
                      have p9 : 0 ≤ (x4_1 : Int) := of_decide_eq_true (by first | (with_reducible assumption) | assumption)
                      have q9 : x4_1 < (t176.size : Int) := of_decide_eq_true (by first | (with_reducible assumption) | assumption)
                      have hx9 := bt_at t176 x4_1
                      replace p9 := eq_true p9
                      replace q9 := eq_true q9
                      go_wp2
                      go_roundg k1
                      case measure => have := HK1.out; omega
                      case rel => exact ⟨(wrap64 (x4_1 + 1)), (by first | rfl | (simp; done) | (simp [*]; done)), H', ⟨by have := HK1.out; omega⟩, ⟨by repeat (first | (with_reducible first | exact HB.out | apply below_alloc | apply pw_below_drewN | apply below_drew1) | exact HB.out)⟩⟩
                    · rw [if_neg c52] at H
                      have c52b0 : ((bt t176 x4_1) == 45) = false := beq_eq_false_iff_ne.mpr c52
                      have c52b1 : ((bt t176 x4_1) != 45) = true := bne_iff_ne.mpr c52
                      by_cases c53 : (bt t176 x4_1) = 46
                      · rw [if_pos c53] at H
                        have c53b0 : ((bt t176 x4_1) == 46) = true := beq_iff_eq.mpr c53
                        have c53b1 : ((bt t176 x4_1) != 46) = false := bne_eq_false_iff_eq.mpr c53
                        clear c53
                        have H' := Aside0.mk H
                        clear H
                        have p9 : 0 ≤ (x4_1 : Int) := of_decide_eq_true (by first | (with_reducible assumption) | assumption)
                        have q9 : x4_1 < (t176.size : Int) := of_decide_eq_true (by first | (with_reducible assumption) | assumption)
                        have hx9 := bt_at t176 x4_1
                        replace p9 := eq_true p9
                        replace q9 := eq_true q9
                        go_wp2
                        go_roundg k1
                        case measure => have := HK1.out; omega
                        case rel => exact ⟨(wrap64 (x4_1 + 1)), (by first | rfl | (simp; done) | (simp [*]; done)), H', ⟨by have := HK1.out; omega⟩, ⟨by repeat (first | (with_reducible first | exact HB.out | apply below_alloc | apply pw_below_drewN | apply below_drew1) | exact HB.out)⟩⟩
                      · rw [if_neg c53] at H
                        have c53b0 : ((bt t176 x4_1) == 46) = false := beq_eq_false_iff_ne.mpr c53
                        have c53b1 : ((bt t176 x4_1) != 46) = true := bne_iff_ne.mpr c53
                        by_cases c54 : (bt t176 x4_1) = 95
                        · rw [if_pos c54] at H
                          have c54b0 : ((bt t176 x4_1) == 95) = true := beq_iff_eq.mpr c54
                          have c54b1 : ((bt t176 x4_1) != 95) = false := bne_eq_false_iff_eq.mpr c54
                          clear c54
                          have H' := Aside0.mk H
                          clear H
                          have p9 : 0 ≤ (x4_1 : Int) := of_decide_eq_true (by first | (with_reducible assumption) | assumption)
                          have q9 : x4_1 < (t176.size : Int) := of_decide_eq_true (by first | (with_reducible assumption) | assumption)
                          have hx9 := bt_at t176 x4_1
                          replace p9 := eq_true p9
                          replace q9 := eq_true q9
                          go_wp2
                          go_roundg k1
                          case measure => have := HK1.out; omega
                          case rel => exact ⟨(wrap64 (x4_1 + 1)), (by first | rfl | (simp; done) | (simp [*]; done)), H', ⟨by have := HK1.out; omega⟩, ⟨by repeat (first | (with_reducible first | exact HB.out | apply below_alloc | apply pw_below_drewN | apply below_drew1) | exact HB.out)⟩⟩
                        · rw [if_neg c54] at H
                          have c54b0 : ((bt t176 x4_1) == 95) = false := beq_eq_false_iff_ne.mpr c54
                          have c54b1 : ((bt t176 x4_1) != 95) = true := bne_iff_ne.mpr c54
                          by_cases c55 : (bt t176 x4_1) = 126
                          · rw [if_pos c55] at H
                            have c55b0 : ((bt t176 x4_1) == 126) = true := beq_iff_eq.mpr c55
                            have c55b1 : ((bt t176 x4_1) != 126) = false := bne_eq_false_iff_eq.mpr c55
                            clear c55
                            have H' := Aside0.mk H
                            clear H
                            have p9 : 0 ≤ (x4_1 : Int) := of_decide_eq_true (by first | (with_reducible assumption) | assumption)
                            have q9 : x4_1 < (t176.size : Int) := of_decide_eq_true (by first | (with_reducible assumption) | assumption)
                            have hx9 := bt_at t176 x4_1
                            replace p9 := eq_true p9
                            replace q9 := eq_true q9
                            go_wp2
                            go_roundg k1
                            case measure => have := HK1.out; omega
                            case rel => exact ⟨(wrap64 (x4_1 + 1)), (by first | rfl | (simp; done) | (simp [*]; done)), H', ⟨by have := HK1.out; omega⟩, ⟨by repeat (first | (with_reducible first | exact HB.out | apply below_alloc | apply pw_below_drewN | apply below_drew1) | exact HB.out)⟩⟩
                          · rw [if_neg c55] at H
                            have c55b0 : ((bt t176 x4_1) == 126) = false := beq_eq_false_iff_ne.mpr c55
                            have c55b1 : ((bt t176 x4_1) != 126) = true := bne_iff_ne.mpr c55
                            by_cases c56 : (bt t176 x4_1) = 47
                            · rw [if_pos c56] at H
                              have c56b0 : ((bt t176 x4_1) == 47) = true := beq_iff_eq.mpr c56
                              have c56b1 : ((bt t176 x4_1) != 47) = false := bne_eq_false_iff_eq.mpr c56
                              clear c56
                              have H' := Aside0.mk H
                              clear H
                              have p9 : 0 ≤ (x4_1 : Int) := of_decide_eq_true (by first | (with_reducible assumption) | assumption)
                              have q9 : x4_1 < (t176.size : Int) := of_decide_eq_true (by first | (with_reducible assumption) | assumption)
                              have hx9 := bt_at t176 x4_1
                              replace p9 := eq_true p9
                              replace q9 := eq_true q9
                              go_wp2
                              go_roundg k1
                              case measure => have := HK1.out; omega
                              case rel => exact ⟨(wrap64 (x4_1 + 1)), (by first | rfl | (simp; done) | (simp [*]; done)), H', ⟨by have := HK1.out; omega⟩, ⟨by repeat (first | (with_reducible first | exact HB.out | apply below_alloc | apply pw_below_drewN | apply below_drew1) | exact HB.out)⟩⟩
                            · rw [if_neg c56] at H
                              have c56b0 : ((bt t176 x4_1) == 47) = false := beq_eq_false_iff_ne.mpr c56
                              have c56b1 : ((bt t176 x4_1) != 47) = true := bne_iff_ne.mpr c56
                              by_cases c57 : ((bt t176 x4_1) = 37)
                              · rw [if_pos c57] at H
                                have c57b0 : ((bt t176 x4_1) == 37) = true := beq_iff_eq.mpr c57
                                have c57b1 : ((bt t176 x4_1) != 37) = false := bne_eq_false_iff_eq.mpr c57
                                clear c57
                                have H' := Aside0.mk H
                                clear H
                                have p9 : 0 ≤ (x4_1 : Int) := of_decide_eq_true (by first | (with_reducible assumption) | assumption)
                                have q9 : x4_1 < (t176.size : Int) := of_decide_eq_true (by first | (with_reducible assumption) | assumption)
                                have hx9 := bt_at t176 x4_1
                                replace p9 := eq_true p9
                                replace q9 := eq_true q9
                                go_wp2
                                go_roundg k1
                                case measure => have := HK1.out; omega
                                case rel => exact ⟨(wrap64 (x4_1 + 1)), (by first | rfl | (simp; done) | (simp [*]; done)), H', ⟨by have := HK1.out; omega⟩, ⟨by repeat (first | (with_reducible first | exact HB.out | apply below_alloc | apply pw_below_drewN | apply below_drew1) | exact HB.out)⟩⟩
                              · rw [if_neg c57] at H
                                have c57b0 : ((bt t176 x4_1) == 37) = false := beq_eq_false_iff_ne.mpr c57
                                have c57b1 : ((bt t176 x4_1) != 37) = true := bne_iff_ne.mpr c57
                                obtain rfl := Option.some.inj H
                                have p9 : 0 ≤ (x4_1 : Int) := of_decide_eq_true (by first | (with_reducible assumption) | assumption)
                                have q9 : x4_1 < (t176.size : Int) := of_decide_eq_true (by first | (with_reducible assumption) | assumption)
                                have hx9 := bt_at t176 x4_1
                                replace p9 := eq_true p9
                                replace q9 := eq_true q9
                                go_wp2
                                go_ret
                                exact ⟨by first | rfl | (simp [errW_none, errW_some] <;> rfl) | (simp [*, errW_none, errW_some] <;> rfl), by repeat (first | (with_reducible first | exact HB.out | apply below_alloc | apply pw_below_drewN | apply below_drew1) | exact HB.out)⟩
              · rw [if_neg c42] at H
                have c42b0 : decide (65 ≤ (bt t176 x4_1)) = false := decide_eq_false c42
                clear c42
                by_cases c58 : (bt t176 x4_1) ≥ 48
                · rw [if_pos c58] at H
                  have c58b0 : decide (48 ≤ (bt t176 x4_1)) = true := decide_eq_true c58
                  clear c58
                  by_cases c59 : (bt t176 x4_1) ≤ 57
                  · rw [if_pos c59] at H
                    have c59b0 : decide ((bt t176 x4_1) ≤ 57) = true := decide_eq_true c59
                    clear c59
                    have H' := Aside0.mk H
                    clear H
                    have p9 : 0 ≤ (x4_1 : Int) := of_decide_eq_true (by first | (with_reducible assumption) | assumption)
                    have q9 : x4_1 < (t176.size : Int) := of_decide_eq_true (by first | (with_reducible assumption) | assumption)
                    have hx9 := bt_at t176 x4_1
                    replace p9 := eq_true p9
                    replace q9 := eq_true q9
                    go_wp2
                    go_roundg k1
                    case measure => have := HK1.out; omega
                    case rel => exact ⟨(wrap64 (x4_1 + 1)), (by first | rfl | (simp; done) | (simp [*]; done)), H', ⟨by have := HK1.out; omega⟩, ⟨by repeat (first | (with_reducible first | exact HB.out | apply below_alloc | apply pw_below_drewN | apply below_drew1) | exact HB.out)⟩⟩
                  · rw [if_neg c59] at H
                    have c59b0 : decide ((bt t176 x4_1) ≤ 57) = false := decide_eq_false c59
                    clear c59
                    by_cases c60 : (bt t176 x4_1) = 45
                    · rw [if_pos c60] at H
                      have c60b0 : ((bt t176 x4_1) == 45) = true := beq_iff_eq.mpr c60
                      have c60b1 : ((bt t176 x4_1) != 45) = false := bne_eq_false_iff_eq.mpr c60
                      clear c60
                      have H' := Aside0.mk H
                      clear H
                      have p9 : 0 ≤ (x4_1 : Int) := of_decide_eq_true (by first | (with_reducible assumption) | assumption)
                      have q9 : x4_1 < (t176.size : Int) := of_decide_eq_true (by first | (with_reducible assumption) | assumption)
                      have hx9 := bt_at t176 x4_1
                      replace p9 := eq_true p9
                      replace q9 := eq_true q9
                      go_wp2
                      go_roundg k1
                      case measure => have := HK1.out; omega
                      case rel => exact ⟨(wrap64 (x4_1 + 1)), (by first | rfl | (simp; done) | (simp [*]; done)), H', ⟨by have := HK1.out; omega⟩, ⟨by repeat (first | (with_reducible first | exact HB.out | apply below_alloc | apply pw_below_drewN | apply below_drew1) | exact HB.out)⟩⟩
                    · rw [if_neg c60] at H
                      have c60b0 : ((bt t176 x4_1) == 45) = false := beq_eq_false_iff_ne.mpr c60
                      have c60b1 : ((bt t176 x4_1) != 45) = true := bne_iff_ne.mpr c60
                      by_cases c61 : (bt t176 x4_1) = 46
                      · rw [if_pos c61] at H
                        have c61b0 : ((bt t176 x4_1) == 46) = true := beq_iff_eq.mpr c61
                        have c61b1 : ((bt t176 x4_1) != 46) = false := bne_eq_false_iff_eq.mpr c61
                        clear c61
                        have H' := Aside0.mk H
                        clear H
                        have p9 : 0 ≤ (x4_1 : Int) := of_decide_eq_true (by first | (with_reducible assumption) | assumption)
                        have q9 : x4_1 < (t176.size : Int) := of_decide_eq_true (by first | (with_reducible assumption) | assumption)
                        have hx9 := bt_at t176 x4_1
                        replace p9 := eq_true p9
                        replace q9 := eq_true q9
                        go_wp2
                        go_roundg k1
                        case measure => have := HK1.out; omega
                        case rel => exact ⟨(wrap64 (x4_1 + 1)), (by first | rfl | (simp; done) | (simp [*]; done)), H', ⟨by have := HK1.out; omega⟩, ⟨by repeat (first | (with_reducible first | exact HB.out | apply below_alloc | apply pw_below_drewN | apply below_drew1) | exact HB.out)⟩⟩
                      · rw [if_neg c61] at H
                        have c61b0 : ((bt t176 x4_1) == 46) = false := beq_eq_false_iff_ne.mpr c61
                        have c61b1 : ((bt t176 x4_1) != 46) = true := bne_iff_ne.mpr c61
                        by_cases c62 : (bt t176 x4_1) = 95
                        · rw [if_pos c62] at H
                          have c62b0 : ((bt t176 x4_1) == 95) = true := beq_iff_eq.mpr c62
                          have c62b1 : ((bt t176 x4_1) != 95) = false := bne_eq_false_iff_eq.mpr c62
                          clear c62
                          have H' := Aside0.mk H
                          clear H
                          have p9 : 0 ≤ (x4_1 : Int) := of_decide_eq_true (by first | (with_reducible assumption) | assumption)
                          have q9 : x4_1 < (t176.size : Int) := of_decide_eq_true (by first | (with_reducible assumption) | assumption)
                          have hx9 := bt_at t176 x4_1
                          replace p9 := eq_true p9
                          replace q9 := eq_true q9
                          go_wp2
                          go_roundg k1
                          case measure => have := HK1.out; omega
                          case rel => exact ⟨(wrap64 (x4_1 + 1)), (by first | rfl | (simp; done) | (simp [*]; done)), H', ⟨by have := HK1.out; omega⟩, ⟨by repeat (first | (with_reducible first | exact HB.out | apply below_alloc | apply pw_below_drewN | apply below_drew1) | exact HB.out)⟩⟩
                        · rw [if_neg c62] at H
                          have c62b0 : ((bt t176 x4_1) == 95) = false := beq_eq_false_iff_ne.mpr c62
                          have c62b1 : ((bt t176 x4_1) != 95) = true := bne_iff_ne.mpr c62
                          by_cases c63 : (bt t176 x4_1) = 126
                          · rw [if_pos c63] at H
                            have c63b0 : ((bt t176 x4_1) == 126) = true := beq_iff_eq.mpr c63
                            have c63b1 : ((bt t176 x4_1) != 126) = false := bne_eq_false_iff_eq.mpr c63
                            clear c63
                            have H' := Aside0.mk H
                            clear H
                            have p9 : 0 ≤ (x4_1 : Int) := of_decide_eq_true (by first | (with_reducible assumption) | assumption)
                            have q9 : x4_1 < (t176.size : Int) := of_decide_eq_true (by first | (with_reducible assumption) | assumption)
                            have hx9 := bt_at t176 x4_1
                            replace p9 := eq_true p9
                            replace q9 := eq_true q9
                            go_wp2
                            go_roundg k1
                            case measure => have := HK1.out; omega
                            case rel => exact ⟨(wrap64 (x4_1 + 1)), (by first | rfl | (simp; done) | (simp [*]; done)), H', ⟨by have := HK1.out; omega⟩, ⟨by repeat (first | (with_reducible first | exact HB.out | apply below_alloc | apply pw_below_drewN | apply below_drew1) | exact HB.out)⟩⟩
                          · rw [if_neg c63] at H
                            have c63b0 : ((bt t176 x4_1) == 126) = false := beq_eq_false_iff_ne.mpr c63
                            have c63b1 : ((bt t176 x4_1) != 126) = true := bne_iff_ne.mpr c63
                            by_cases c64 : (bt t176 x4_1) = 47
                            · rw [if_pos c64] at H
                              have c64b0 : ((bt t176 x4_1) == 47) = true := beq_iff_eq.mpr c64
                              have c64b1 : ((bt t176 x4_1) != 47) = false := bne_eq_false_iff_eq.mpr c64
                              clear c64
                              have H' := Aside0.mk H
                              clear H
                              have p9 : 0 ≤ (x4_1 : Int) := of_decide_eq_true (by first | (with_reducible assumption) | assumption)
                              have q9 : x4_1 < (t176.size : Int) := of_decide_eq_true (by first | (with_reducible assumption) | assumption)
                              have hx9 := bt_at t176 x4_1
                              replace p9 := eq_true p9
                              replace q9 := eq_true q9
                              go_wp2
                              go_roundg k1
                              case measure => have := HK1.out; omega
                              case rel => exact ⟨(wrap64 (x4_1 + 1)), (by first | rfl | (simp; done) | (simp [*]; done)), H', ⟨by have := HK1.out; omega⟩, ⟨by repeat (first | (with_reducible first | exact HB.out | apply below_alloc | apply pw_below_drewN | apply below_drew1) | exact HB.out)⟩⟩
                            · rw [if_neg c64] at H
                              have c64b0 : ((bt t176 x4_1) == 47) = false := beq_eq_false_iff_ne.mpr c64
                              have c64b1 : ((bt t176 x4_1) != 47) = true := bne_iff_ne.mpr c64
                              by_cases c65 : ((bt t176 x4_1) = 37)
                              · rw [if_pos c65] at H
                                have c65b0 : ((bt t176 x4_1) == 37) = true := beq_iff_eq.mpr c65
                                have c65b1 : ((bt t176 x4_1) != 37) = false := bne_eq_false_iff_eq.mpr c65
                                clear c65
                                have H' := Aside0.mk H
                                clear H
                                have p9 : 0 ≤ (x4_1 : Int) := of_decide_eq_true (by first | (with_reducible assumption) | assumption)
                                have q9 : x4_1 < (t176.size : Int) := of_decide_eq_true (by first | (with_reducible assumption) | assumption)
                                have hx9 := bt_at t176 x4_1
                                replace p9 := eq_true p9
                                replace q9 := eq_true q9
                                go_wp2
                                go_roundg k1
                                case measure => have := HK1.out; omega
                                case rel => exact ⟨(wrap64 (x4_1 + 1)), (by first | rfl | (simp; done) | (simp [*]; done)), H', ⟨by have := HK1.out; omega⟩, ⟨by repeat (first | (with_reducible first | exact HB.out | apply below_alloc | apply pw_below_drewN | apply below_drew1) | exact HB.out)⟩⟩
                              · rw [if_neg c65] at H
                                have c65b0 : ((bt t176 x4_1) == 37) = false := beq_eq_false_iff_ne.mpr c65
                                have c65b1 : ((bt t176 x4_1) != 37) = true := bne_iff_ne.mpr c65
                                obtain rfl := Option.some.inj H
                                have p9 : 0 ≤ (x4_1 : Int) := of_decide_eq_true (by first | (with_reducible assumption) | assumption)
                                have q9 : x4_1 < (t176.size : Int) := of_decide_eq_true (by first | (with_reducible assumption) | assumption)
                                have hx9 := bt_at t176 x4_1
                                replace p9 := eq_true p9
                                replace q9 := eq_true q9
                                go_wp2
                                go_ret
                                exact ⟨by first | rfl | (simp [errW_none, errW_some] <;> rfl) | (simp [*, errW_none, errW_some] <;> rfl), by repeat (first | (with_reducible first | exact HB.out | apply below_alloc | apply pw_below_drewN | apply below_drew1) | exact HB.out)⟩
                · rw [if_neg c58] at H
                  have c58b0 : decide (48 ≤ (bt t176 x4_1)) = false := decide_eq_false c58
                  clear c58
                  by_cases c66 : (bt t176 x4_1) = 45
                  · rw [if_pos c66] at H
                    have c66b0 : ((bt t176 x4_1) == 45) = true := beq_iff_eq.mpr c66
                    have c66b1 : ((bt t176 x4_1) != 45) = false := bne_eq_false_iff_eq.mpr c66
                    clear c66
                    have H' := Aside0.mk H
                    clear H
                    have p9 : 0 ≤ (x4_1 : Int) := of_decide_eq_true (by first | (with_reducible assumption) | assumption)
                    have q9 : x4_1 < (t176.size : Int) := of_decide_eq_true (by first | (with_reducible assumption) | assumption)
                    have hx9 := bt_at t176 x4_1
                    replace p9 := eq_true p9
                    replace q9 := eq_true q9
                    go_wp2
                    go_roundg k1
                    case measure => have := HK1.out; omega
                    case rel => exact ⟨(wrap64 (x4_1 + 1)), (by first | rfl | (simp; done) | (simp [*]; done)), H', ⟨by have := HK1.out; omega⟩, ⟨by repeat (first | (with_reducible first | exact HB.out | apply below_alloc | apply pw_below_drewN | apply below_drew1) | exact HB.out)⟩⟩
                  · rw [if_neg c66] at H
                    have c66b0 : ((bt t176 x4_1) == 45) = false := beq_eq_false_iff_ne.mpr c66
                    have c66b1 : ((bt t176 x4_1) != 45) = true := bne_iff_ne.mpr c66
                    by_cases c67 : (bt t176 x4_1) = 46
                    · rw [if_pos c67] at H
                      have c67b0 : ((bt t176 x4_1) == 46) = true := beq_iff_eq.mpr c67
                      have c67b1 : ((bt t176 x4_1) != 46) = false := bne_eq_false_iff_eq.mpr c67
                      clear c67
                      have H' := Aside0.mk H
                      clear H
                      have p9 : 0 ≤ (x4_1 : Int) := of_decide_eq_true (by first | (with_reducible assumption) | assumption)
                      have q9 : x4_1 < (t176.size : Int) := of_decide_eq_true (by first | (with_reducible assumption) | assumption)
                      have hx9 := bt_at t176 x4_1
                      replace p9 := eq_true p9
                      replace q9 := eq_true q9
                      go_wp2
                      go_roundg k1
                      case measure => have := HK1.out; omega
                      case rel => exact ⟨(wrap64 (x4_1 + 1)), (by first | rfl | (simp; done) | (simp [*]; done)), H', ⟨by have := HK1.out; omega⟩, ⟨by repeat (first | (with_reducible first | exact HB.out | apply below_alloc | apply pw_below_drewN | apply below_drew1) | exact HB.out)⟩⟩
                    · rw [if_neg c67] at H
                      have c67b0 : ((bt t176 x4_1) == 46) = false := beq_eq_false_iff_ne.mpr c67
                      have c67b1 : ((bt t176 x4_1) != 46) = true := bne_iff_ne.mpr c67
                      by_cases c68 : (bt t176 x4_1) = 95
                      · rw [if_pos c68] at H
                        have c68b0 : ((bt t176 x4_1) == 95) = true := beq_iff_eq.mpr c68
                        have c68b1 : ((bt t176 x4_1) != 95) = false := bne_eq_false_iff_eq.mpr c68
                        clear c68
                        have H' := Aside0.mk H
                        clear H
                        have p9 : 0 ≤ (x4_1 : Int) := of_decide_eq_true (by first | (with_reducible assumption) | assumption)
                        have q9 : x4_1 < (t176.size : Int) := of_decide_eq_true (by first | (with_reducible assumption) | assumption)
                        have hx9 := bt_at t176 x4_1
                        replace p9 := eq_true p9
                        replace q9 := eq_true q9
                        go_wp2
                        go_roundg k1
                        case measure => have := HK1.out; omega
                        case rel => exact ⟨(wrap64 (x4_1 + 1)), (by first | rfl | (simp; done) | (simp [*]; done)), H', ⟨by have := HK1.out; omega⟩, ⟨by repeat (first | (with_reducible first | exact HB.out | apply below_alloc | apply pw_below_drewN | apply below_drew1) | exact HB.out)⟩⟩
                      · rw [if_neg c68] at H
                        have c68b0 : ((bt t176 x4_1) == 95) = false := beq_eq_false_iff_ne.mpr c68
                        have c68b1 : ((bt t176 x4_1) != 95) = true := bne_iff_ne.mpr c68
                        by_cases c69 : (bt t176 x4_1) = 126
                        · rw [if_pos c69] at H
                          have c69b0 : ((bt t176 x4_1) == 126) = true := beq_iff_eq.mpr c69
                          have c69b1 : ((bt t176 x4_1) != 126) = false := bne_eq_false_iff_eq.mpr c69
                          clear c69
                          have H' := Aside0.mk H
                          clear H
                          have p9 : 0 ≤ (x4_1 : Int) := of_decide_eq_true (by first | (with_reducible assumption) | assumption)
                          have q9 : x4_1 < (t176.size : Int) := of_decide_eq_true (by first | (with_reducible assumption) | assumption)
                          have hx9 := bt_at t176 x4_1
                          replace p9 := eq_true p9
                          replace q9 := eq_true q9
                          go_wp2
                          go_roundg k1
                          case measure => have := HK1.out; omega
                          case rel => exact ⟨(wrap64 (x4_1 + 1)), (by first | rfl | (simp; done) | (simp [*]; done)), H', ⟨by have := HK1.out; omega⟩, ⟨by repeat (first | (with_reducible first | exact HB.out | apply below_alloc | apply pw_below_drewN | apply below_drew1) | exact HB.out)⟩⟩
                        · rw [if_neg c69] at H
                          have c69b0 : ((bt t176 x4_1) == 126) = false := beq_eq_false_iff_ne.mpr c69
                          have c69b1 : ((bt t176 x4_1) != 126) = true := bne_iff_ne.mpr c69
                          by_cases c70 : (bt t176 x4_1) = 47
                          · rw [if_pos c70] at H
                            have c70b0 : ((bt t176 x4_1) == 47) = true := beq_iff_eq.mpr c70
                            have c70b1 : ((bt t176 x4_1) != 47) = false := bne_eq_false_iff_eq.mpr c70
                            clear c70
                            have H' := Aside0.mk H
                            clear H
                            have p9 : 0 ≤ (x4_1 : Int) := of_decide_eq_true (by first | (with_reducible assumption) | assumption)
                            have q9 : x4_1 < (t176.size : Int) := of_decide_eq_true (by first | (with_reducible assumption) | assumption)
                            have hx9 := bt_at t176 x4_1
                            replace p9 := eq_true p9
                            replace q9 := eq_true q9
                            go_wp2
                            go_roundg k1
                            case measure => have := HK1.out; omega
                            case rel => exact ⟨(wrap64 (x4_1 + 1)), (by first | rfl | (simp; done) | (simp [*]; done)), H', ⟨by have := HK1.out; omega⟩, ⟨by repeat (first | (with_reducible first | exact HB.out | apply below_alloc | apply pw_below_drewN | apply below_drew1) | exact HB.out)⟩⟩
                          · rw [if_neg c70] at H
                            have c70b0 : ((bt t176 x4_1) == 47) = false := beq_eq_false_iff_ne.mpr c70
                            have c70b1 : ((bt t176 x4_1) != 47) = true := bne_iff_ne.mpr c70
                            by_cases c71 : ((bt t176 x4_1) = 37)
                            · rw [if_pos c71] at H
                              have c71b0 : ((bt t176 x4_1) == 37) = true := beq_iff_eq.mpr c71
                              have c71b1 : ((bt t176 x4_1) != 37) = false := bne_eq_false_iff_eq.mpr c71
                              clear c71
                              have H' := Aside0.mk H
                              clear H
                              have p9 : 0 ≤ (x4_1 : Int) := of_decide_eq_true (by first | (with_reducible assumption) | assumption)
                              have q9 : x4_1 < (t176.size : Int) := of_decide_eq_true (by first | (with_reducible assumption) | assumption)
                              have hx9 := bt_at t176 x4_1
                              replace p9 := eq_true p9
                              replace q9 := eq_true q9
                              go_wp2
                              go_roundg k1
                              case measure => have := HK1.out; omega
                              case rel => exact ⟨(wrap64 (x4_1 + 1)), (by first | rfl | (simp; done) | (simp [*]; done)), H', ⟨by have := HK1.out; omega⟩, ⟨by repeat (first | (with_reducible first | exact HB.out | apply below_alloc | apply pw_below_drewN | apply below_drew1) | exact HB.out)⟩⟩
                            · rw [if_neg c71] at H
                              have c71b0 : ((bt t176 x4_1) == 37) = false := beq_eq_false_iff_ne.mpr c71
                              have c71b1 : ((bt t176 x4_1) != 37) = true := bne_iff_ne.mpr c71
                              obtain rfl := Option.some.inj H
                              have p9 : 0 ≤ (x4_1 : Int) := of_decide_eq_true (by first | (with_reducible assumption) | assumption)
                              have q9 : x4_1 < (t176.size : Int) := of_decide_eq_true (by first | (with_reducible assumption) | assumption)
                              have hx9 := bt_at t176 x4_1
                              replace p9 := eq_true p9
                              replace q9 := eq_true q9
                              go_wp2
                              go_ret
                              exact ⟨by first | rfl | (simp [errW_none, errW_some] <;> rfl) | (simp [*, errW_none, errW_some] <;> rfl), by repeat (first | (with_reducible first | exact HB.out | apply below_alloc | apply pw_below_drewN | apply below_drew1) | exact HB.out)⟩
          · rw [if_neg c8] at H
            exact absurd H (by simp)
        · rw [if_neg c7] at H
          have c7b0 : decide (x4_1 < (t176.size : Int)) = false := decide_eq_false c7
          clear c7
          replace H := Option.bind_eq_some_iff.mp H
          obtain ⟨t177, A720, H⟩ := H
          replace H : (if t177 = true then (if (t176.size : Int) ≥ (a0.size : Int) then (some (decide ((t176.size : Int) ≤ (wrap64 (3 * (a0.size : Int)))))) else (some false)) else (some false)) = some r := H
          have A72 := Aside0.mk A720
          clear A720
          by_cases c73 : t177 = true
          · subst c73
            have H1 : (if (t176.size : Int) ≥ (a0.size : Int) then (some (decide ((t176.size : Int) ≤ (wrap64 (3 * (a0.size : Int)))))) else (some false)) = some r := by rw [if_pos rfl] at H; exact H
            clear H
            have H := H1
            clear H1
            by_cases c74 : (t176.size : Int) ≥ (a0.size : Int)
            · rw [if_pos c74] at H
              have c74b0 : decide ((a0.size : Int) ≤ (t176.size : Int)) = true := decide_eq_true c74
              have c74b1 : decide (a0.size ≤ t176.size) = true := decide_eq_true (Int.ofNat_le.mp c74)
              clear c74
              obtain rfl := Option.some.inj H
              go_wp2_with (first | ((with_reducible refine gate_callee (f := 8) rfl ?_); refine goesL_ (some 68) rfl rfl Tryd.func8 (by kernel_rfl) rfl #[] rfl (by (try simp only [List.map_toArray, List.map_cons, List.map_nil]); first | done | rfl | (simp only [List.length_drop, List.length_take]; rfl)) ?_; (with_reducible refine (stowagelaw18_awake.calls k1  true _ A72.out).mono ?_); rintro e w75 ⟨rfl, hb⟩; refine ⟨_, rfl, ?_⟩; have n0_ := Aside0.mk (below_step (by repeat (first | (with_reducible first | exact HB.out | apply below_alloc | apply pw_below_drewN | apply below_drew1) | exact HB.out)) hb); clear HB; have HB := n0_; clear n0_; (try clear hb); (try clear hb2); (try clear hk); (try clear hi)))
              go_ret
              exact ⟨by first | rfl | (simp [errW_none, errW_some] <;> rfl) | (simp [*, errW_none, errW_some] <;> rfl), by repeat (first | (with_reducible first | exact HB.out | apply below_alloc | apply pw_below_drewN | apply below_drew1) | exact HB.out)⟩
            · rw [if_neg c74] at H
              have c74b0 : decide ((a0.size : Int) ≤ (t176.size : Int)) = false := decide_eq_false c74
              have c74b1 : decide (a0.size ≤ t176.size) = false := decide_eq_false (fun h => c74 (Int.ofNat_le.mpr h))
              clear c74
              obtain rfl := Option.some.inj H
              go_wp2_with (first | ((with_reducible refine gate_callee (f := 8) rfl ?_); refine goesL_ (some 68) rfl rfl Tryd.func8 (by kernel_rfl) rfl #[] rfl (by (try simp only [List.map_toArray, List.map_cons, List.map_nil]); first | done | rfl | (simp only [List.length_drop, List.length_take]; rfl)) ?_; (with_reducible refine (stowagelaw18_awake.calls k1  true _ A72.out).mono ?_); rintro e w76 ⟨rfl, hb⟩; refine ⟨_, rfl, ?_⟩; have n0_ := Aside0.mk (below_step (by repeat (first | (with_reducible first | exact HB.out | apply below_alloc | apply pw_below_drewN | apply below_drew1) | exact HB.out)) hb); clear HB; have HB := n0_; clear n0_; (try clear hb); (try clear hb2); (try clear hk); (try clear hi)))
              go_ret
              exact ⟨by first | rfl | (simp [errW_none, errW_some] <;> rfl) | (simp [*, errW_none, errW_some] <;> rfl), by repeat (first | (with_reducible first | exact HB.out | apply below_alloc | apply pw_below_drewN | apply below_drew1) | exact HB.out)⟩
          · replace c73 := Bool.eq_false_iff.mpr c73
            subst c73
            have H1 : (some false) = some r := by rw [if_neg (show ¬ (false = true) by decide)] at H; exact H
            clear H
            have H := H1
            clear H1
            obtain rfl := Option.some.inj H
            go_wp2_with (first | ((with_reducible refine gate_callee (f := 8) rfl ?_); refine goesL_ (some 68) rfl rfl Tryd.func8 (by kernel_rfl) rfl #[] rfl (by (try simp only [List.map_toArray, List.map_cons, List.map_nil]); first | done | rfl | (simp only [List.length_drop, List.length_take]; rfl)) ?_; (with_reducible refine (stowagelaw18_awake.calls k1  false _ A72.out).mono ?_); rintro e w77 ⟨rfl, hb⟩; refine ⟨_, rfl, ?_⟩; have n0_ := Aside0.mk (below_step (by repeat (first | (with_reducible first | exact HB.out | apply below_alloc | apply pw_below_drewN | apply below_drew1) | exact HB.out)) hb); clear HB; have HB := n0_; clear n0_; (try clear hb); (try clear hb2); (try clear hk); (try clear hi)))
            go_ret
            exact ⟨by first | rfl | (simp [errW_none, errW_some] <;> rfl) | (simp [*, errW_none, errW_some] <;> rfl), by repeat (first | (with_reducible first | exact HB.out | apply below_alloc | apply pw_below_drewN | apply below_drew1) | exact HB.out)⟩

end Go.Proofs.YtfagmfmpiicggaaDoor.Hx
