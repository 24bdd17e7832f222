/- Merged of several texts of this session's by merge.py. -/
import Derived.Test.YtoiockmmlanimaaDoorMj3
import Derived.Test.YtoiockmmlanimaaDoorMj2
section
-- Written for this claim by hyb.py, a driver of this session's over the kit's printer.
namespace Go.Proofs.YtoiockmmlanimaaDoor.Oj
open Go.RowKit Go.Proofs.YtoiockmmlanimaaDoorW.PrintWords Go.Proofs.YtoiockmmlanimaaDoorW.PrintLast Go.Proofs.YtoiockmmlanimaaDoorW.PrintMore
attribute [local go_sem] max2_int min2_int max_two min_two max_three min_three max_four min_four   -- for this text's walks alone
set_option linter.unusedVariables false
set_option linter.unusedSimpArgs false

/-! ### stowageref03_Unhex: function 70 -/
mutual
def stowageref03_Unhex.l0 : Nat → ByteArray → List Int → Int → Int → Option (ByteArray × Int)
 | 0, _, _, _, _ => none
 | k + 1, x0, x4, x5, x6 => if x6 < (x0.size : Int) then (if 0 ≤ x6 then (if (bt x0 x6) ≥ 48 then (stowageref03_Unhex.j1 k x0 x4 x5 x6 (-1) (decide ((bt x0 x6) ≤ 57))) else (stowageref03_Unhex.j1 k x0 x4 x5 x6 (-1) false)) else (none)) else (some (strOfNums x4, 0))
def stowageref03_Unhex.j1 : Nat → ByteArray → List Int → Int → Int → Int → Bool → Option (ByteArray × Int)
 | 0, _, _, _, _, _, _ => none
 | k + 1, x0, x4, x5, x6, x7, x27 => if x27 = true then (if 0 ≤ x6 then (if x6 < (x0.size : Int) then (stowageref03_Unhex.j2 k x0 x4 x5 x6 (wrap64 ((wrap64 (bt x0 x6)) - 48))) else (none)) else (none)) else (stowageref03_Unhex.j2 k x0 x4 x5 x6 x7)
def stowageref03_Unhex.j2 : Nat → ByteArray → List Int → Int → Int → Int → Option (ByteArray × Int)
 | 0, _, _, _, _, _ => none
 | k + 1, x0, x4, x5, x6, x7 => if 0 ≤ x6 then (if x6 < (x0.size : Int) then (if (bt x0 x6) ≥ 97 then (stowageref03_Unhex.j3 k x0 x4 x5 x6 x7 (decide ((bt x0 x6) ≤ 102))) else (stowageref03_Unhex.j3 k x0 x4 x5 x6 x7 false)) else (none)) else (none)
def stowageref03_Unhex.j3 : Nat → ByteArray → List Int → Int → Int → Int → Bool → Option (ByteArray × Int)
 | 0, _, _, _, _, _, _ => none
 | k + 1, x0, x4, x5, x6, x7, x42 => if x42 = true then (if 0 ≤ x6 then (if x6 < (x0.size : Int) then (stowageref03_Unhex.j4 k x0 x4 x5 x6 (wrap64 ((wrap64 (bt x0 x6)) - 87))) else (none)) else (none)) else (stowageref03_Unhex.j4 k x0 x4 x5 x6 x7)
def stowageref03_Unhex.j4 : Nat → ByteArray → List Int → Int → Int → Int → Option (ByteArray × Int)
 | 0, _, _, _, _, _ => none
 | k + 1, x0, x4, x5, x6, x7 => if x7 < 0 then (some ((⟨#[]⟩ : ByteArray), 3)) else (if (Int.tmod x6 2) = 1 then (if x4.length < 140737488355328 then (stowageref03_Unhex.l0 k x0 (x4 ++ [(wrap64 ((wrap64 ((Int.tmod x5 16) * 16)) + x7)) % 256]) (wrap64 ((wrap64 ((Int.tmod x5 16) * 16)) + x7)) (wrap64 (x6 + 1))) else (none)) else (stowageref03_Unhex.l0 k x0 x4 (wrap64 ((wrap64 ((Int.tmod x5 16) * 16)) + x7)) (wrap64 (x6 + 1))))
end
def stowageref03_Unhex.f (k : Nat) (a0 : ByteArray) : Option (ByteArray × Int) := if ((a0.size : Int) % 2) = 0 then (stowageref03_Unhex.l0 k a0 ([] : List Int) 0 0) else (some ((⟨#[]⟩ : ByteArray), 3))
theorem stowageref03_Unhex.mono_l : ∀ k, (∀ y0 y1 y2 y3, LeO (stowageref03_Unhex.l0 k y0 y1 y2 y3) (stowageref03_Unhex.l0 (k + 1) y0 y1 y2 y3)) ∧ (∀ y0 y1 y2 y3 y4 y5, LeO (stowageref03_Unhex.j1 k y0 y1 y2 y3 y4 y5) (stowageref03_Unhex.j1 (k + 1) y0 y1 y2 y3 y4 y5)) ∧ (∀ y0 y1 y2 y3 y4, LeO (stowageref03_Unhex.j2 k y0 y1 y2 y3 y4) (stowageref03_Unhex.j2 (k + 1) y0 y1 y2 y3 y4)) ∧ (∀ y0 y1 y2 y3 y4 y5, LeO (stowageref03_Unhex.j3 k y0 y1 y2 y3 y4 y5) (stowageref03_Unhex.j3 (k + 1) y0 y1 y2 y3 y4 y5)) ∧ (∀ y0 y1 y2 y3 y4, LeO (stowageref03_Unhex.j4 k y0 y1 y2 y3 y4) (stowageref03_Unhex.j4 (k + 1) y0 y1 y2 y3 y4))
 | 0 => ⟨fun _ _ _ _ r h => by simp [stowageref03_Unhex.l0] at h, fun _ _ _ _ _ _ r h => by simp [stowageref03_Unhex.j1] at h, fun _ _ _ _ _ r h => by simp [stowageref03_Unhex.j2] at h, fun _ _ _ _ _ _ r h => by simp [stowageref03_Unhex.j3] at h, fun _ _ _ _ _ r h => by simp [stowageref03_Unhex.j4] at h⟩
 | k + 1 => by
  obtain ⟨ih0, ih1, ih2, ih3, ih4⟩ := stowageref03_Unhex.mono_l k
  refine ⟨?_, ?_, ?_, ?_, ?_⟩
  all_goals intros
  all_goals first | unfold stowageref03_Unhex.l0 | unfold stowageref03_Unhex.j1 | unfold stowageref03_Unhex.j2 | unfold stowageref03_Unhex.j3 | unfold stowageref03_Unhex.j4
  all_goals repeat' first
  | (with_reducible exact ih0 _ _ _ _)
  | (with_reducible exact ih1 _ _ _ _ _ _)
  | (with_reducible exact ih2 _ _ _ _ _)
  | (with_reducible exact ih3 _ _ _ _ _ _)
  | (with_reducible exact ih4 _ _ _ _ _)
  | (with_reducible exact LeO.refl _)
  | (with_reducible exact LeO.none _)
  | (with_reducible refine LeO.ite ?_ ?_)
  | (with_reducible refine LeO.bind ?_ (fun _ => ?_))
  | exact ih0 _ _ _ _
  | exact ih1 _ _ _ _ _ _
  | exact ih2 _ _ _ _ _
  | exact ih3 _ _ _ _ _ _
  | exact ih4 _ _ _ _ _
  | exact LeO.none _
  | refine LeO.ite ?_ ?_
  | refine LeO.bind ?_ (fun _ => ?_)
theorem stowageref03_Unhex.mono : ∀ a0 k, LeO (stowageref03_Unhex.f k a0) (stowageref03_Unhex.f (k + 1) a0) := by
 intro a0 k
 obtain ⟨ih0, ih1, ih2, ih3, ih4⟩ := stowageref03_Unhex.mono_l k
 unfold stowageref03_Unhex.f
 repeat' first
   | (with_reducible exact ih0 _ _ _ _)
   | (with_reducible exact ih1 _ _ _ _ _ _)
   | (with_reducible exact ih2 _ _ _ _ _)
   | (with_reducible exact ih3 _ _ _ _ _ _)
   | (with_reducible exact ih4 _ _ _ _ _)
   | (with_reducible exact LeO.refl _)
   | (with_reducible exact LeO.none _)
   | (with_reducible refine LeO.ite ?_ ?_)
   | (with_reducible refine LeO.bind ?_ (fun _ => ?_))
   | exact ih0 _ _ _ _
   | exact ih1 _ _ _ _ _ _
   | exact ih2 _ _ _ _ _
   | exact ih3 _ _ _ _ _ _
   | exact ih4 _ _ _ _ _
   | exact LeO.none _
   | refine LeO.ite ?_ ?_
   | refine LeO.bind ?_ (fun _ => ?_)
set_option maxHeartbeats 8000000 in
set_option maxRecDepth 100000 in
theorem stowageref03_Unhex.calls (k : Nat) (a0 : ByteArray) (r1 : ByteArray) (r2 : Int) (w : World) (h : stowageref03_Unhex.f k a0 = some (r1, r2)) :
  Calls Tryd.prog 70 #[.string a0] w fun e w' => e = .returned (.tuple #[.string r1, .int .i64 r2]) ∧ Below w.heap.size w w' := by
 have HB := Aside0.mk (Below.refl w.heap.size w)
 have H : (if ((a0.size : Int) % 2) = 0 then (stowageref03_Unhex.l0 k a0 ([] : List Int) 0 0) else (some ((⟨#[]⟩ : ByteArray), 3))) = some (r1, r2) := h
 clear h
 by_cases c2 : ((a0.size : Int) % 2) = 0
 ·
  rw [if_pos c2] at H
  have c2b0 : (((a0.size : Int) % 2) == 0) = true := beq_iff_eq.mpr c2
  have c2b1 : (((a0.size : Int) % 2) != 0) = false := bne_eq_false_iff_eq.mpr c2
  clear c2
  have H' := Aside0.mk H
  clear H
  go_enter Tryd.func70, Tryd.ntmps70
  go_wp2
  go_loopg [4, 5, 6] k (fun kq v4 v5 v6 w' => ∃ (x4_1 : List Int) (x5_1 : Int) (x6_1 : Int), v5 = .int .i64 x5_1 ∧ v6 = .int .i64 x6_1 ∧ Aside0 (stowageref03_Unhex.l0 kq a0 x4_1 x5_1 x6_1 = some (r1, r2)) ∧ Aside0 (kq ≤ k) ∧ Aside0 (Kd.R (Kd.int .u8) 5 w' w.heap.size (fun _ => True) v4 x4_1) ∧ Aside0 (Below w.heap.size w w'))
  case atStart => exact ⟨(([] : List Int)), (0), (0), (by first | rfl | (simp; done) | (simp [*]; done)), (by first | rfl | (simp; done) | (simp [*]; done)), H', ⟨Nat.le_refl _⟩, ⟨by first | exact Kd.R_nil _ _ _ _ _ | exact Kd.N_nil _ _ _ _ _ | exact Kd.V_nil _ _ _ _ _ | exact Kd.Q_nil _ _ _ _ _ | exact Kd.S_nil _ _ _ _ _⟩, ⟨bw HB.out⟩⟩
  case round =>
   clear H'
   try clear c2
   try clear c2b0
   try clear c2b1
   try clear p2
   obtain ⟨x4_1, x5_1, x6_1, rfl, rfl, HA, HK1, HO_4, HB⟩ := hrel
   cases gk with
   | zero => exact absurd HA.out (by simp [stowageref03_Unhex.l0])
   | succ k1 =>
    have H := HA.out
    clear HA
    simp only [stowageref03_Unhex.l0] at H
    by_cases c3 : x6_1 < (a0.size : Int)
    ·
     rw [if_pos c3] at H
     have c3b0 : decide (x6_1 < (a0.size : Int)) = true := decide_eq_true c3
     clear c3
     have HC4 := Aside0.mk H
     clear H
     go_upto_region 9 with (fail)
     go_cut [27] (fun v27 wc => ∃ (kq : Nat) (x27_3 : Bool), v27 = .bool x27_3 ∧ Aside0 (stowageref03_Unhex.j1 kq a0 x4_1 x5_1 x6_1 (-1) x27_3 = some (r1, r2)) ∧ Aside0 (kq ≤ k1) ∧ Aside0 (Kd.R (Kd.int .u8) 5 wc w.heap.size (fun _ => True) u4 x4_1) ∧ Aside0 (Below w.heap.size w wc))
     case first =>
      have H := HC4.out
      clear HC4
      by_cases c5 : 0 ≤ x6_1
      ·
       rw [if_pos c5] at H
       have c5b0 : decide (0 ≤ x6_1) = true := decide_eq_true c5
       clear c5
       (first | rw [c5b0] | (simp only [i64_w, i32_w]; rw [c5b0]) | skip)
       by_cases c7 : (bt a0 x6_1) ≥ 48
       ·
        rw [if_pos c7] at H
        have c7b0 : decide (48 ≤ (bt a0 x6_1)) = true := decide_eq_true c7
        clear c7
        have H' := Aside0.mk H
        clear H
        have p6 : 0 ≤ (x6_1 : Int) := of_decide_eq_true asm
        have q6 : x6_1 < (a0.size : Int) := of_decide_eq_true asm
        have hx6 := bt_at a0 x6_1
        replace p6 := eq_true p6
        replace q6 := eq_true q6
        have p8 : 0 ≤ (x6_1 : Int) := of_decide_eq_true asm
        have q8 : x6_1 < (a0.size : Int) := of_decide_eq_true asm
        have hx8 := bt_at a0 x6_1
        replace p8 := eq_true p8
        replace q8 := eq_true q8
        go_wp2
        go_meet
        case rel => exact ⟨_, (decide ((bt a0 x6_1) ≤ 57)), (by first | rfl | (simp; done) | (simp [*]; done)), H', ⟨by have := HK1.out; first | omega | exact Nat.le_refl _⟩, ⟨kR HO_4.out⟩, ⟨bw HB.out⟩⟩
       ·
        rw [if_neg c7] at H
        have c7b0 : decide (48 ≤ (bt a0 x6_1)) = false := decide_eq_false c7
        clear c7
        have H' := Aside0.mk H
        clear H
        have p6 : 0 ≤ (x6_1 : Int) := of_decide_eq_true asm
        have q6 : x6_1 < (a0.size : Int) := of_decide_eq_true asm
        have hx6 := bt_at a0 x6_1
        replace p6 := eq_true p6
        replace q6 := eq_true q6
        go_wp2
        go_meet
        case rel => exact ⟨_, (false), (by first | rfl | (simp; done) | (simp [*]; done)), H', ⟨by have := HK1.out; first | omega | exact Nat.le_refl _⟩, ⟨kR HO_4.out⟩, ⟨bw HB.out⟩⟩
      ·
       rw [if_neg c5] at H
       exact absurd H (by simp)
     case rest =>
      clear HC4
      try clear c2
      try clear c2b0
      try clear c2b1
      try clear p2
      try clear c3
      try clear c3b0
      try clear c5
      try clear c5b0
      try clear p6
      try clear q6
      try clear hx6
      try clear c7
      try clear c7b0
      try clear p8
      try clear q8
      try clear hx8
      try clear p2
      try clear p6
      try clear p8
      try clear q6
      try clear q8
      obtain ⟨kq, x27_3, rfl, HA, HJ3, HO_4, HB⟩ := hcut
      cases kq with
      | zero => exact absurd HA.out (by simp [stowageref03_Unhex.j1])
      | succ kj3 =>
       have H := HA.out
       clear HA
       simp only [stowageref03_Unhex.j1] at H
       have HC9 := Aside0.mk H
       clear H
       go_upto_if 27 with (fail)
       go_cut [7] (fun v7 wc => ∃ (kq : Nat) (x7_8 : Int), v7 = .int .i64 x7_8 ∧ Aside0 (stowageref03_Unhex.j2 kq a0 x4_1 x5_1 x6_1 x7_8 = some (r1, r2)) ∧ Aside0 (kq ≤ kj3) ∧ Aside0 (Kd.R (Kd.int .u8) 5 wc w.heap.size (fun _ => True) u4 x4_1) ∧ Aside0 (Below w.heap.size w wc))
       case first =>
        have H := HC9.out
        clear HC9
        by_cases c10 : x27_3 = true
        ·
         subst c10
         have H1 : (if 0 ≤ x6_1 then (if x6_1 < (a0.size : Int) then (stowageref03_Unhex.j2 kj3 a0 x4_1 x5_1 x6_1 (wrap64 ((wrap64 (bt a0 x6_1)) - 48))) else (none)) else (none)) = some (r1, r2) := by rw [if_pos rfl] at H; exact H
         clear H
         have H := H1
         clear H1
         by_cases c11 : 0 ≤ x6_1
         ·
          rw [if_pos c11] at H
          have c11b0 : decide (0 ≤ x6_1) = true := decide_eq_true c11
          clear c11
          (first | rw [c11b0] | (simp only [i64_w, i32_w]; rw [c11b0]) | skip)
          by_cases c12 : x6_1 < (a0.size : Int)
          ·
           rw [if_pos c12] at H
           have c12b0 : decide (x6_1 < (a0.size : Int)) = true := decide_eq_true c12
           clear c12
           have H' := Aside0.mk H
           clear H
           have p13 : 0 ≤ (x6_1 : Int) := of_decide_eq_true asm
           have q13 : x6_1 < (a0.size : Int) := of_decide_eq_true asm
           have hx13 := bt_at a0 x6_1
           replace p13 := eq_true p13
           replace q13 := eq_true q13
           go_wp2
           go_meet
           case rel => exact ⟨_, (wrap64 ((wrap64 (bt a0 x6_1)) - 48)), (by first | rfl | (simp; done) | (simp [*]; done)), H', ⟨by have := HK1.out; have := HJ3.out; first | omega | exact Nat.le_refl _⟩, ⟨kR HO_4.out⟩, ⟨bw HB.out⟩⟩
          ·
           rw [if_neg c12] at H
           exact absurd H (by simp)
         ·
          rw [if_neg c11] at H
          exact absurd H (by simp)
        ·
         replace c10 := Bool.eq_false_iff.mpr c10
         subst c10
         have H1 : (stowageref03_Unhex.j2 kj3 a0 x4_1 x5_1 x6_1 (-1)) = some (r1, r2) := by rw [if_neg (show ¬ (false = true) by decide)] at H; exact H
         clear H
         have H := H1
         clear H1
         have H' := Aside0.mk H
         clear H
         go_wp2
         go_meet
         case rel => exact ⟨_, ((-1)), (by first | rfl | (simp; done) | (simp [*]; done)), H', ⟨by have := HK1.out; have := HJ3.out; first | omega | exact Nat.le_refl _⟩, ⟨kR HO_4.out⟩, ⟨bw HB.out⟩⟩
       case rest =>
        clear HC9
        try clear c1
        try clear p1
        try clear q1
        try clear hx1
        try clear c2
        try clear c2b0
        try clear c2b1
        try clear p2
        try clear c3
        try clear c3b0
        try clear c5
        try clear c5b0
        try clear p6
        try clear q6
        try clear hx6
        try clear c7
        try clear c7b0
        try clear p8
        try clear q8
        try clear hx8
        try clear c10
        try clear c11
        try clear c11b0
        try clear c12
        try clear c12b0
        try clear p13
        try clear q13
        try clear hx13
        try clear p13
        try clear p2
        try clear p6
        try clear p8
        try clear q13
        try clear q6
        try clear q8
        obtain ⟨kq, x7_8, rfl, HA, HJ8, HO_4, HB⟩ := hcut
        cases kq with
        | zero => exact absurd HA.out (by simp [stowageref03_Unhex.j2])
        | succ kj8 =>
         have H := HA.out
         clear HA
         simp only [stowageref03_Unhex.j2] at H
         have HC14 := Aside0.mk H
         clear H
         go_upto_region 11 with (fail)
         go_cut [42] (fun v42 wc => ∃ (kq : Nat) (x42_13 : Bool), v42 = .bool x42_13 ∧ Aside0 (stowageref03_Unhex.j3 kq a0 x4_1 x5_1 x6_1 x7_8 x42_13 = some (r1, r2)) ∧ Aside0 (kq ≤ kj8) ∧ Aside0 (Kd.R (Kd.int .u8) 5 wc w.heap.size (fun _ => True) u4 x4_1) ∧ Aside0 (Below w.heap.size w wc))
         case first =>
          have H := HC14.out
          clear HC14
          by_cases c15 : 0 ≤ x6_1
          ·
           rw [if_pos c15] at H
           have c15b0 : decide (0 ≤ x6_1) = true := decide_eq_true c15
           clear c15
           (first | rw [c15b0] | (simp only [i64_w, i32_w]; rw [c15b0]) | skip)
           by_cases c16 : x6_1 < (a0.size : Int)
           ·
            rw [if_pos c16] at H
            have c16b0 : decide (x6_1 < (a0.size : Int)) = true := decide_eq_true c16
            clear c16
            by_cases c18 : (bt a0 x6_1) ≥ 97
            ·
             rw [if_pos c18] at H
             have c18b0 : decide (97 ≤ (bt a0 x6_1)) = true := decide_eq_true c18
             clear c18
             have H' := Aside0.mk H
             clear H
             have p17 : 0 ≤ (x6_1 : Int) := of_decide_eq_true asm
             have q17 : x6_1 < (a0.size : Int) := of_decide_eq_true asm
             have hx17 := bt_at a0 x6_1
             replace p17 := eq_true p17
             replace q17 := eq_true q17
             have p19 : 0 ≤ (x6_1 : Int) := of_decide_eq_true asm
             have q19 : x6_1 < (a0.size : Int) := of_decide_eq_true asm
             have hx19 := bt_at a0 x6_1
             replace p19 := eq_true p19
             replace q19 := eq_true q19
             go_wp2
             go_meet
             case rel => exact ⟨_, (decide ((bt a0 x6_1) ≤ 102)), (by first | rfl | (simp; done) | (simp [*]; done)), H', ⟨by have := HK1.out; have := HJ3.out; have := HJ8.out; first | omega | exact Nat.le_refl _⟩, ⟨kR HO_4.out⟩, ⟨bw HB.out⟩⟩
            ·
             rw [if_neg c18] at H
             have c18b0 : decide (97 ≤ (bt a0 x6_1)) = false := decide_eq_false c18
             clear c18
             have H' := Aside0.mk H
             clear H
             have p17 : 0 ≤ (x6_1 : Int) := of_decide_eq_true asm
             have q17 : x6_1 < (a0.size : Int) := of_decide_eq_true asm
             have hx17 := bt_at a0 x6_1
             replace p17 := eq_true p17
             replace q17 := eq_true q17
             go_wp2
             go_meet
             case rel => exact ⟨_, (false), (by first | rfl | (simp; done) | (simp [*]; done)), H', ⟨by have := HK1.out; have := HJ3.out; have := HJ8.out; first | omega | exact Nat.le_refl _⟩, ⟨kR HO_4.out⟩, ⟨bw HB.out⟩⟩
           ·
            rw [if_neg c16] at H
            exact absurd H (by simp)
          ·
           rw [if_neg c15] at H
           exact absurd H (by simp)
         case rest =>
          clear HC14
          try clear c1
          try clear p1
          try clear q1
          try clear hx1
          try clear c2
          try clear c2b0
          try clear c2b1
          try clear p2
          try clear c3
          try clear c3b0
          try clear c5
          try clear c5b0
          try clear p6
          try clear q6
          try clear hx6
          try clear c7
          try clear c7b0
          try clear p8
          try clear q8
          try clear hx8
          try clear c10
          try clear c11
          try clear c11b0
          try clear c12
          try clear c12b0
          try clear p13
          try clear q13
          try clear hx13
          try clear c15
          try clear c15b0
          try clear c16
          try clear c16b0
          try clear p17
          try clear q17
          try clear hx17
          try clear c18
          try clear c18b0
          try clear p19
          try clear q19
          try clear hx19
          try clear p1
          try clear p13
          try clear p17
          try clear p19
          try clear p2
          try clear p6
          try clear p8
          try clear q1
          try clear q13
          try clear q17
          try clear q19
          try clear q6
          try clear q8
          obtain ⟨kq, x42_13, rfl, HA, HJ13, HO_4, HB⟩ := hcut
          cases kq with
          | zero => exact absurd HA.out (by simp [stowageref03_Unhex.j3])
          | succ kj13 =>
           have H := HA.out
           clear HA
           simp only [stowageref03_Unhex.j3] at H
           have HC20 := Aside0.mk H
           clear H
           go_upto_if 42 with (fail)
           go_cut [7] (fun v7 wc => ∃ (kq : Nat) (x7_19 : Int), v7 = .int .i64 x7_19 ∧ Aside0 (stowageref03_Unhex.j4 kq a0 x4_1 x5_1 x6_1 x7_19 = some (r1, r2)) ∧ Aside0 (kq ≤ kj13) ∧ Aside0 (Kd.R (Kd.int .u8) 5 wc w.heap.size (fun _ => True) u4 x4_1) ∧ Aside0 (Below w.heap.size w wc))
           case first =>
            have H := HC20.out
            clear HC20
            by_cases c21 : x42_13 = true
            ·
             subst c21
             have H1 : (if 0 ≤ x6_1 then (if x6_1 < (a0.size : Int) then (stowageref03_Unhex.j4 kj13 a0 x4_1 x5_1 x6_1 (wrap64 ((wrap64 (bt a0 x6_1)) - 87))) else (none)) else (none)) = some (r1, r2) := by rw [if_pos rfl] at H; exact H
             clear H
             have H := H1
             clear H1
             by_cases c22 : 0 ≤ x6_1
             ·
              rw [if_pos c22] at H
              have c22b0 : decide (0 ≤ x6_1) = true := decide_eq_true c22
              clear c22
              (first | rw [c22b0] | (simp only [i64_w, i32_w]; rw [c22b0]) | skip)
              by_cases c23 : x6_1 < (a0.size : Int)
              ·
               rw [if_pos c23] at H
               have c23b0 : decide (x6_1 < (a0.size : Int)) = true := decide_eq_true c23
               clear c23
               have H' := Aside0.mk H
               clear H
               have p24 : 0 ≤ (x6_1 : Int) := of_decide_eq_true asm
               have q24 : x6_1 < (a0.size : Int) := of_decide_eq_true asm
               have hx24 := bt_at a0 x6_1
               replace p24 := eq_true p24
               replace q24 := eq_true q24
               go_wp2
               go_meet
               case rel => exact ⟨_, (wrap64 ((wrap64 (bt a0 x6_1)) - 87)), (by first | rfl | (simp; done) | (simp [*]; done)), H', ⟨by have := HK1.out; have := HJ3.out; have := HJ8.out; have := HJ13.out; first | omega | exact Nat.le_refl _⟩, ⟨kR HO_4.out⟩, ⟨bw HB.out⟩⟩
              ·
               rw [if_neg c23] at H
               exact absurd H (by simp)
             ·
              rw [if_neg c22] at H
              exact absurd H (by simp)
            ·
             replace c21 := Bool.eq_false_iff.mpr c21
             subst c21
             have H1 : (stowageref03_Unhex.j4 kj13 a0 x4_1 x5_1 x6_1 x7_8) = some (r1, r2) := by rw [if_neg (show ¬ (false = true) by decide)] at H; exact H
             clear H
             have H := H1
             clear H1
             have H' := Aside0.mk H
             clear H
             go_wp2
             go_meet
             case rel => exact ⟨_, (x7_8), (by first | rfl | (simp; done) | (simp [*]; done)), H', ⟨by have := HK1.out; have := HJ3.out; have := HJ8.out; have := HJ13.out; first | omega | exact Nat.le_refl _⟩, ⟨kR HO_4.out⟩, ⟨bw HB.out⟩⟩
           case rest =>
            clear HC20
            try clear c1
            try clear p1
            try clear q1
            try clear hx1
            try clear c2
            try clear c2b0
            try clear c2b1
            try clear p2
            try clear q2
            try clear hx2
            try clear c3
            try clear c3b0
            try clear c5
            try clear c5b0
            try clear p6
            try clear q6
            try clear hx6
            try clear c7
            try clear c7b0
            try clear p8
            try clear q8
            try clear hx8
            try clear c10
            try clear c11
            try clear c11b0
            try clear c12
            try clear c12b0
            try clear p13
            try clear q13
            try clear hx13
            try clear c15
            try clear c15b0
            try clear c16
            try clear c16b0
            try clear p17
            try clear q17
            try clear hx17
            try clear c18
            try clear c18b0
            try clear p19
            try clear q19
            try clear hx19
            try clear c21
            try clear c22
            try clear c22b0
            try clear c23
            try clear c23b0
            try clear p24
            try clear q24
            try clear hx24
            try clear p1
            try clear p13
            try clear p17
            try clear p19
            try clear p2
            try clear p24
            try clear p6
            try clear p8
            try clear q1
            try clear q13
            try clear q17
            try clear q19
            try clear q24
            try clear q6
            try clear q8
            obtain ⟨kq, x7_19, rfl, HA, HJ19, HO_4, HB⟩ := hcut
            cases kq with
            | zero => exact absurd HA.out (by simp [stowageref03_Unhex.j4])
            | succ kj19 =>
             have H := HA.out
             clear HA
             simp only [stowageref03_Unhex.j4] at H
             by_cases c25 : x7_19 < 0
             ·
              rw [if_pos c25] at H
              have c25b0 : decide (x7_19 < 0) = true := decide_eq_true c25
              clear c25
              simp only [Option.some.injEq, Prod.mk.injEq] at H
              obtain ⟨rfl, rfl⟩ := H
              go_wp2
              go_ret2
              exact ⟨by first | rfl | (simp [errW_none, errW_some] <;> rfl) | (simp [*, errW_none, errW_some] <;> rfl), by repeat (first | (with_reducible first | exact HB.out | apply below_alloc | apply pw_below_drewN | apply below_drew1) | exact HB.out)⟩
             ·
              rw [if_neg c25] at H
              have c25b0 : decide (x7_19 < 0) = false := decide_eq_false c25
              clear c25
              by_cases c26 : (Int.tmod x6_1 2) = 1
              ·
               rw [if_pos c26] at H
               have c26b0 : ((Int.tmod x6_1 2) == 1) = true := beq_iff_eq.mpr c26
               have c26b1 : ((Int.tmod x6_1 2) != 1) = false := bne_eq_false_iff_eq.mpr c26
               clear c26
               by_cases c27 : x4_1.length < 140737488355328
               ·
                rw [if_pos c27] at H
                have LMc27 := Aside0.mk c27
                clear c27
                obtain ⟨y135, hy135⟩ : ∃ y_ : List Int, y_ = (x4_1 ++ [(wrap64 ((wrap64 ((Int.tmod x5_1 16) * 16)) + x7_19)) % 256]) := ⟨_, rfl⟩
                replace H : (stowageref03_Unhex.l0 kj19 a0 y135 (wrap64 ((wrap64 ((Int.tmod x5_1 16) * 16)) + x7_19)) (wrap64 (x6_1 + 1))) = some (r1, r2) := by first | (rw [hy135]; with_reducible exact H) | (have H2_ := (Option.bind_some _ _).symm.trans H; rw [hy135]; with_reducible exact H2_) | (have H2_ := (Option.bind_some _ _).symm.trans H; with_reducible exact H2_) | with_reducible exact H | (rw [hy135]; exact H) | exact H
                have Ny135 := Aside0.mk hy135
                clear hy135
                have H' := Aside0.mk H
                clear H
                go_wp2_with (first | ((with_reducible refine gate_builtin (b := .append) (xs := #[.tmp 58, .tmp 61]) rfl ?_); at_builtin; refine Kd.R_append (Kd.int .u8) (w0 := w) w.heap.size rfl (.tmp 58) (.tmp 61) 113 5 (.int .u8 0) 1 rfl Tryd.underlying113 info5 rfl (by decide) (by omega) u4 x4_1 ((wrap64 ((wrap64 ((Int.tmod x5_1 16) * 16)) + x7_19)) % 256) [.int .u8 ((wrap64 ((wrap64 ((Int.tmod x5_1 16) * 16)) + x7_19)) % 256)] (fun _ => True) (fun _ => False) rfl rfl ?aP (fun _ hk => hk.elim) ?aF ?aO ?aB ?aS ?aL ?_; (case aP => exact rfl); (case aB => exact (bw HB.out)); (case aF => exact (fun _ _ => trivial)); (case aO => exact (kR HO_4.out)); (case aS => exact (below_size (bw HB.out))); (case aL => have := LMc27.out; omega); intro v136 w28 ho hb hg hat; rw [← Ny135.out] at ho; have n0_ := Aside0.mk (hb); have n1_ := Aside0.mk (ho); clear HB; clear HO_4; have HB := n0_; have HO137 := n1_; clear n0_ n1_; clear ho hb hg hat))
                go_roundg kj19
                case measure => have := HK1.out; have := HJ3.out; have := HJ8.out; have := HJ13.out; have := HJ19.out; omega
                case rel => exact ⟨(y135), (wrap64 ((wrap64 ((Int.tmod x5_1 16) * 16)) + x7_19)), (wrap64 (x6_1 + 1)), (by first | rfl | (simp; done) | (simp [*]; done)), (by first | rfl | (simp; done) | (simp [*]; done)), H', ⟨by have := HK1.out; have := HJ3.out; have := HJ8.out; have := HJ13.out; have := HJ19.out; omega⟩, ⟨kR HO137.out⟩, ⟨bw HB.out⟩⟩
               ·
                rw [if_neg c27] at H
                exact absurd H (by simp)
              ·
               rw [if_neg c26] at H
               have c26b0 : ((Int.tmod x6_1 2) == 1) = false := beq_eq_false_iff_ne.mpr c26
               have c26b1 : ((Int.tmod x6_1 2) != 1) = true := bne_iff_ne.mpr c26
               have H' := Aside0.mk H
               clear H
               go_wp2
               go_roundg kj19
               case measure => have := HK1.out; have := HJ3.out; have := HJ8.out; have := HJ13.out; have := HJ19.out; omega
               case rel => exact ⟨(x4_1), (wrap64 ((wrap64 ((Int.tmod x5_1 16) * 16)) + x7_19)), (wrap64 (x6_1 + 1)), (by first | rfl | (simp; done) | (simp [*]; done)), (by first | rfl | (simp; done) | (simp [*]; done)), H', ⟨by have := HK1.out; have := HJ3.out; have := HJ8.out; have := HJ13.out; have := HJ19.out; omega⟩, ⟨kR HO_4.out⟩, ⟨bw HB.out⟩⟩
    ·
     rw [if_neg c3] at H
     have c3b0 : decide (x6_1 < (a0.size : Int)) = false := decide_eq_false c3
     clear c3
     simp only [Option.some.injEq, Prod.mk.injEq] at H
     obtain ⟨rfl, rfl⟩ := H
     have hcv29 := own_string (P := Tryd.prog) Tryd.underlying113 Tryd.underlying5 Tryd.underlying9 (Kd.own_of_R HO_4.out)
     go_wp2
     go_ret2
     exact ⟨by first | rfl | (simp [errW_none, errW_some] <;> rfl) | (simp [*, errW_none, errW_some] <;> rfl), by repeat (first | (with_reducible first | exact HB.out | apply below_alloc | apply pw_below_drewN | apply below_drew1) | exact HB.out)⟩
 ·
  rw [if_neg c2] at H
  have c2b0 : (((a0.size : Int) % 2) == 0) = false := beq_eq_false_iff_ne.mpr c2
  have c2b1 : (((a0.size : Int) % 2) != 0) = true := bne_iff_ne.mpr c2
  simp only [Option.some.injEq, Prod.mk.injEq] at H
  obtain ⟨rfl, rfl⟩ := H
  go_enter Tryd.func70, Tryd.ntmps70
  go_wp2
  go_ret2
  exact ⟨by first | rfl | (simp [errW_none, errW_some] <;> rfl) | (simp [*, errW_none, errW_some] <;> rfl), by repeat (first | (with_reducible first | exact HB.out | apply below_alloc | apply pw_below_drewN | apply below_drew1) | exact HB.out)⟩

/-! ### stowageref06_May: function 45 -/
def stowageref06_May.f (k : Nat) (a0 : ByteArray) : Option (Bool) := (stowageref03_Unhex.f k a0).bind fun bt138 => (if bt138.2 = 0 then (some ((a0.size : Int) == 64)) else (some false))
theorem stowageref06_May.mono : ∀ a0 k, LeO (stowageref06_May.f k a0) (stowageref06_May.f (k + 1) a0) := by
 intro a0 k
 unfold stowageref06_May.f
 repeat' first
   | (with_reducible exact stowageref03_Unhex.mono _ _)
   | (with_reducible exact LeO.refl _)
   | (with_reducible exact LeO.none _)
   | (with_reducible refine LeO.ite ?_ ?_)
   | (with_reducible refine LeO.bind ?_ (fun _ => ?_))
   | exact stowageref03_Unhex.mono _ _
   | exact LeO.none _
   | refine LeO.ite ?_ ?_
   | refine LeO.bind ?_ (fun _ => ?_)
set_option maxHeartbeats 8000000 in
set_option maxRecDepth 100000 in
theorem stowageref06_May.calls (k : Nat) (a0 : ByteArray) (r : Bool) (w : World) (h : stowageref06_May.f k a0 = some r) :
  Calls Tryd.prog 45 #[.string a0] w fun e w' => e = .returned (.bool r) ∧ Below w.heap.size w w' := by
 have HB := Aside0.mk (Below.refl w.heap.size w)
 have H : ((stowageref03_Unhex.f k a0).bind fun bt138 => (if bt138.2 = 0 then (some ((a0.size : Int) == 64)) else (some false))) = some r := h
 clear h
 replace H := Option.bind_eq_some_iff.mp H
 obtain ⟨⟨t138, t139⟩, A20, H⟩ := H
 replace H : (if t139 = 0 then (some ((a0.size : Int) == 64)) else (some false)) = some r := H
 have A2 := Aside0.mk A20
 clear A20
 by_cases c3 : t139 = 0
 ·
  rw [if_pos c3] at H
  have c3b0 : (t139 == 0) = true := beq_iff_eq.mpr c3
  have c3b1 : (t139 != 0) = false := bne_eq_false_iff_eq.mpr c3
  clear c3
  obtain rfl := Option.some.inj H
  go_enter Tryd.func45, Tryd.ntmps45
  go_wp2_with (first | ((with_reducible refine gate_callee (f := 70) rfl ?_); refine goesL_ (some 7) rfl rfl Tryd.func70 (by kernel_rfl) rfl #[.string a0] rfl gl ?_; (with_reducible refine (stowageref03_Unhex.calls k a0 t138 t139 _ A2.out).mono ?_); rintro e w4 ⟨rfl, hb⟩; refine ⟨_, rfl, ?_⟩; replace HB := Aside0.mk (below_step (bw HB.out) hb); (try clear hb); (try clear hb2); (try clear hk); (try clear hi)))
  go_ret
  exact ⟨by first | rfl | (simp [errW_none, errW_some] <;> rfl) | (simp [*, errW_none, errW_some] <;> rfl), by repeat (first | (with_reducible first | exact HB.out | apply below_alloc | apply pw_below_drewN | apply below_drew1) | exact HB.out)⟩
 ·
  rw [if_neg c3] at H
  have c3b0 : (t139 == 0) = false := beq_eq_false_iff_ne.mpr c3
  have c3b1 : (t139 != 0) = true := bne_iff_ne.mpr c3
  obtain rfl := Option.some.inj H
  go_enter Tryd.func45, Tryd.ntmps45
  go_wp2_with (first | ((with_reducible refine gate_callee (f := 70) rfl ?_); refine goesL_ (some 7) rfl rfl Tryd.func70 (by kernel_rfl) rfl #[.string a0] rfl gl ?_; (with_reducible refine (stowageref03_Unhex.calls k a0 t138 t139 _ A2.out).mono ?_); rintro e w5 ⟨rfl, hb⟩; refine ⟨_, rfl, ?_⟩; replace HB := Aside0.mk (below_step (bw HB.out) hb); (try clear hb); (try clear hb2); (try clear hk); (try clear hi)))
  go_ret
  exact ⟨by first | rfl | (simp [errW_none, errW_some] <;> rfl) | (simp [*, errW_none, errW_some] <;> rfl), by repeat (first | (with_reducible first | exact HB.out | apply below_alloc | apply pw_below_drewN | apply below_drew1) | exact HB.out)⟩

/-! ### stowageref13_Pieces: function 44 -/
def stowageref13_Pieces.l0 : Nat → List (S85) → Int → Int → Option (Int × Int)
 | 0, _, _, _ => none
 | k + 1, x0, x4, x5 => if x5 < (x0.length : Int) then (if 0 ≤ x5 then ((stowageref06_May.f k ((rd_T85 x0 x5).f0)).bind fun t141 => (if t141 = true then (if ((rd_T85 x0 x5).f1) < 1 then (some (0, 1)) else (if ((rd_T85 x0 x5).f1) > 4096 then (some (0, 1)) else (stowageref13_Pieces.l0 k x0 (wrap64 (x4 + ((rd_T85 x0 x5).f1))) (wrap64 (x5 + 1))))) else (some (0, 1)))) else (none)) else (if (x0.length : Int) > 512 then (some (0, 1)) else (some (x4, 0)))
def stowageref13_Pieces.f (k : Nat) (l0 : List (S85)) : Option (Int × Int) := stowageref13_Pieces.l0 k l0 0 0
theorem stowageref13_Pieces.mono_l : ∀ k, (∀ y0 y1 y2, LeO (stowageref13_Pieces.l0 k y0 y1 y2) (stowageref13_Pieces.l0 (k + 1) y0 y1 y2))
 | 0 => fun _ _ _ r h => by simp [stowageref13_Pieces.l0] at h
 | k + 1 => by
  have ih0 := stowageref13_Pieces.mono_l k
  ·
   intro y0 y1 y2
   unfold stowageref13_Pieces.l0
   repeat' first
   | (with_reducible exact ih0 _ _ _)
   | (with_reducible exact stowageref06_May.mono _ _)
   | (with_reducible exact LeO.refl _)
   | (with_reducible exact LeO.none _)
   | (with_reducible refine LeO.ite ?_ ?_)
   | (with_reducible refine LeO.bind ?_ (fun _ => ?_))
   | exact ih0 _ _ _
   | exact stowageref06_May.mono _ _
   | exact LeO.none _
   | refine LeO.ite ?_ ?_
   | refine LeO.bind ?_ (fun _ => ?_)
theorem stowageref13_Pieces.mono : ∀ a0 k, LeO (stowageref13_Pieces.f k a0) (stowageref13_Pieces.f (k + 1) a0) := by
 intro a0 k
 have ih0 := stowageref13_Pieces.mono_l k
 unfold stowageref13_Pieces.f
 repeat' first
   | (with_reducible exact ih0 _ _ _)
   | (with_reducible exact stowageref06_May.mono _ _)
   | (with_reducible exact LeO.refl _)
   | (with_reducible exact LeO.none _)
   | (with_reducible refine LeO.ite ?_ ?_)
   | (with_reducible refine LeO.bind ?_ (fun _ => ?_))
   | exact ih0 _ _ _
   | exact stowageref06_May.mono _ _
   | exact LeO.none _
   | refine LeO.ite ?_ ?_
   | refine LeO.bind ?_ (fun _ => ?_)
set_option maxHeartbeats 8000000 in
set_option maxRecDepth 100000 in
theorem stowageref13_Pieces.calls (k : Nat) (A0 : Option Addr) (c0 : Nat) (l0 : List (S85)) (r1 : Int) (r2 : Int) (w : World) (hr0 : Kd.C k85 w A0 l0.length l0) (hc0 : l0.length ≤ c0) (h : stowageref13_Pieces.f k l0 = some (r1, r2)) :
  Calls Tryd.prog 44 #[.slice A0 l0.length c0] w fun e w' => e = .returned (.tuple #[.int .i64 r1, .int .i64 r2]) ∧ Below w.heap.size w w' := by
 have HR0 := Aside0.mk hr0
 have HC0 := Aside0.mk hc0
 clear hr0 hc0
 have HB := Aside0.mk (Below.refl w.heap.size w)
 have H : (stowageref13_Pieces.l0 k l0 0 0) = some (r1, r2) := h
 clear h
 have H' := Aside0.mk H
 clear H
 go_enter Tryd.func44, Tryd.ntmps44
 go_wp2
 go_loopg [4, 5] k (fun kq v4 v5 w' => ∃ (x4_1 : Int) (x5_1 : Int), v4 = .int .i64 x4_1 ∧ v5 = .int .i64 x5_1 ∧ Aside0 (stowageref13_Pieces.l0 kq l0 x4_1 x5_1 = some (r1, r2)) ∧ Aside0 (kq ≤ k) ∧ Aside0 (Below w.heap.size w w'))
 case atStart => exact ⟨(0), (0), (by first | rfl | (simp; done) | (simp [*]; done)), (by first | rfl | (simp; done) | (simp [*]; done)), H', ⟨Nat.le_refl _⟩, ⟨bw HB.out⟩⟩
 case round =>
  clear H'
  obtain ⟨x4_1, x5_1, rfl, rfl, HA, HK1, HB⟩ := hrel
  cases gk with
  | zero => exact absurd HA.out (by simp [stowageref13_Pieces.l0])
  | succ k1 =>
   have H := HA.out
   clear HA
   simp only [stowageref13_Pieces.l0] at H
   by_cases c2 : x5_1 < (l0.length : Int)
   ·
    rw [if_pos c2] at H
    have c2b0 : decide (x5_1 < (l0.length : Int)) = true := decide_eq_true c2
    clear c2
    by_cases c3 : 0 ≤ x5_1
    ·
     rw [if_pos c3] at H
     have c3b0 : decide (0 ≤ x5_1) = true := decide_eq_true c3
     clear c3
     replace H := Option.bind_eq_some_iff.mp H
     obtain ⟨t141, A40, H⟩ := H
     replace H : (if t141 = true then (if ((rd_T85 l0 x5_1).f1) < 1 then (some (0, 1)) else (if ((rd_T85 l0 x5_1).f1) > 4096 then (some (0, 1)) else (stowageref13_Pieces.l0 k1 l0 (wrap64 (x4_1 + ((rd_T85 l0 x5_1).f1))) (wrap64 (x5_1 + 1))))) else (some (0, 1))) = some (r1, r2) := H
     have A4 := Aside0.mk A40
     clear A40
     by_cases c5 : t141 = true
     ·
      subst c5
      have H1 : (if ((rd_T85 l0 x5_1).f1) < 1 then (some (0, 1)) else (if ((rd_T85 l0 x5_1).f1) > 4096 then (some (0, 1)) else (stowageref13_Pieces.l0 k1 l0 (wrap64 (x4_1 + ((rd_T85 l0 x5_1).f1))) (wrap64 (x5_1 + 1))))) = some (r1, r2) := by rw [if_pos rfl] at H; exact H
      clear H
      have H := H1
      clear H1
      by_cases c6 : ((rd_T85 l0 x5_1).f1) < 1
      ·
       rw [if_pos c6] at H
       have c6b0 : decide (((rd_T85 l0 x5_1).f1) < 1) = true := decide_eq_true c6
       clear c6
       simp only [Option.some.injEq, Prod.mk.injEq] at H
       obtain ⟨rfl, rfl⟩ := H
       have p140 : 0 ≤ (x5_1 : Int) := of_decide_eq_true asm
       have q140 : x5_1 < (l0.length : Int) := of_decide_eq_true asm
       obtain ⟨ad140, e140, hx140_0, hx140_1⟩ := at_T85 HR0.out x5_1 p140 q140
       cases e140
       replace hx140_0 := bc HB.out hx140_0
       replace hx140_1 := bc HB.out hx140_1
       replace p140 := eq_true p140
       replace q140 := eq_true q140
       go_wp2_with (first | ((with_reducible refine gate_callee (f := 45) rfl ?_); refine goesL_ (some 17) rfl rfl Tryd.func45 (by kernel_rfl) rfl #[.string ((rd_T85 l0 x5_1).f0)] rfl gl ?_; (with_reducible refine (stowageref06_May.calls k1 ((rd_T85 l0 x5_1).f0) true _ A4.out).mono ?_); rintro e w7 ⟨rfl, hb⟩; refine ⟨_, rfl, ?_⟩; replace HB := Aside0.mk (below_step (bw HB.out) hb); (try clear hb); (try clear hb2); (try clear hk); (try clear hi); have p142 : 0 ≤ (x5_1 : Int) := of_decide_eq_true asm; have q142 : x5_1 < (l0.length : Int) := of_decide_eq_true asm; obtain ⟨ad142, e142, hx142_0, hx142_1⟩ := at_T85 HR0.out x5_1 p142 q142; obtain rfl : ad140 = ad142 := (by injection e142); replace hx142_0 := bc HB.out hx142_0; replace hx142_1 := bc HB.out hx142_1; replace p142 := eq_true p142; replace q142 := eq_true q142))
       go_ret2
       exact ⟨by first | rfl | (simp [errW_none, errW_some] <;> rfl) | (simp [*, errW_none, errW_some] <;> rfl), by repeat (first | (with_reducible first | exact HB.out | apply below_alloc | apply pw_below_drewN | apply below_drew1) | exact HB.out)⟩
      ·
       rw [if_neg c6] at H
       have c6b0 : decide (((rd_T85 l0 x5_1).f1) < 1) = false := decide_eq_false c6
       clear c6
       by_cases c8 : ((rd_T85 l0 x5_1).f1) > 4096
       ·
        rw [if_pos c8] at H
        have c8b0 : decide (4096 < ((rd_T85 l0 x5_1).f1)) = true := decide_eq_true c8
        clear c8
        simp only [Option.some.injEq, Prod.mk.injEq] at H
        obtain ⟨rfl, rfl⟩ := H
        have p140 : 0 ≤ (x5_1 : Int) := of_decide_eq_true asm
        have q140 : x5_1 < (l0.length : Int) := of_decide_eq_true asm
        obtain ⟨ad140, e140, hx140_0, hx140_1⟩ := at_T85 HR0.out x5_1 p140 q140
        cases e140
        replace hx140_0 := bc HB.out hx140_0
        replace hx140_1 := bc HB.out hx140_1
        replace p140 := eq_true p140
        replace q140 := eq_true q140
        go_wp2_with (first | ((with_reducible refine gate_callee (f := 45) rfl ?_); refine goesL_ (some 17) rfl rfl Tryd.func45 (by kernel_rfl) rfl #[.string ((rd_T85 l0 x5_1).f0)] rfl gl ?_; (with_reducible refine (stowageref06_May.calls k1 ((rd_T85 l0 x5_1).f0) true _ A4.out).mono ?_); rintro e w9 ⟨rfl, hb⟩; refine ⟨_, rfl, ?_⟩; replace HB := Aside0.mk (below_step (bw HB.out) hb); (try clear hb); (try clear hb2); (try clear hk); (try clear hi); have p142 : 0 ≤ (x5_1 : Int) := of_decide_eq_true asm; have q142 : x5_1 < (l0.length : Int) := of_decide_eq_true asm; obtain ⟨ad142, e142, hx142_0, hx142_1⟩ := at_T85 HR0.out x5_1 p142 q142; obtain rfl : ad140 = ad142 := (by injection e142); replace hx142_0 := bc HB.out hx142_0; replace hx142_1 := bc HB.out hx142_1; replace p142 := eq_true p142; replace q142 := eq_true q142; have p143 : 0 ≤ (x5_1 : Int) := of_decide_eq_true asm; have q143 : x5_1 < (l0.length : Int) := of_decide_eq_true asm; obtain ⟨ad143, e143, hx143_0, hx143_1⟩ := at_T85 HR0.out x5_1 p143 q143; obtain rfl : ad140 = ad143 := (by injection e143); replace hx143_0 := bc HB.out hx143_0; replace hx143_1 := bc HB.out hx143_1; replace p143 := eq_true p143; replace q143 := eq_true q143))
        go_ret2
        exact ⟨by first | rfl | (simp [errW_none, errW_some] <;> rfl) | (simp [*, errW_none, errW_some] <;> rfl), by repeat (first | (with_reducible first | exact HB.out | apply below_alloc | apply pw_below_drewN | apply below_drew1) | exact HB.out)⟩
       ·
        rw [if_neg c8] at H
        have c8b0 : decide (4096 < ((rd_T85 l0 x5_1).f1)) = false := decide_eq_false c8
        clear c8
        have H' := Aside0.mk H
        clear H
        have p140 : 0 ≤ (x5_1 : Int) := of_decide_eq_true asm
        have q140 : x5_1 < (l0.length : Int) := of_decide_eq_true asm
        obtain ⟨ad140, e140, hx140_0, hx140_1⟩ := at_T85 HR0.out x5_1 p140 q140
        cases e140
        replace hx140_0 := bc HB.out hx140_0
        replace hx140_1 := bc HB.out hx140_1
        replace p140 := eq_true p140
        replace q140 := eq_true q140
        go_wp2_with (first | ((with_reducible refine gate_callee (f := 45) rfl ?_); refine goesL_ (some 17) rfl rfl Tryd.func45 (by kernel_rfl) rfl #[.string ((rd_T85 l0 x5_1).f0)] rfl gl ?_; (with_reducible refine (stowageref06_May.calls k1 ((rd_T85 l0 x5_1).f0) true _ A4.out).mono ?_); rintro e w10 ⟨rfl, hb⟩; refine ⟨_, rfl, ?_⟩; replace HB := Aside0.mk (below_step (bw HB.out) hb); (try clear hb); (try clear hb2); (try clear hk); (try clear hi); have p142 : 0 ≤ (x5_1 : Int) := of_decide_eq_true asm; have q142 : x5_1 < (l0.length : Int) := of_decide_eq_true asm; obtain ⟨ad142, e142, hx142_0, hx142_1⟩ := at_T85 HR0.out x5_1 p142 q142; obtain rfl : ad140 = ad142 := (by injection e142); replace hx142_0 := bc HB.out hx142_0; replace hx142_1 := bc HB.out hx142_1; replace p142 := eq_true p142; replace q142 := eq_true q142; have p143 : 0 ≤ (x5_1 : Int) := of_decide_eq_true asm; have q143 : x5_1 < (l0.length : Int) := of_decide_eq_true asm; obtain ⟨ad143, e143, hx143_0, hx143_1⟩ := at_T85 HR0.out x5_1 p143 q143; obtain rfl : ad140 = ad143 := (by injection e143); replace hx143_0 := bc HB.out hx143_0; replace hx143_1 := bc HB.out hx143_1; replace p143 := eq_true p143; replace q143 := eq_true q143; have p144 : 0 ≤ (x5_1 : Int) := of_decide_eq_true asm; have q144 : x5_1 < (l0.length : Int) := of_decide_eq_true asm; obtain ⟨ad144, e144, hx144_0, hx144_1⟩ := at_T85 HR0.out x5_1 p144 q144; obtain rfl : ad140 = ad144 := (by injection e144); replace hx144_0 := bc HB.out hx144_0; replace hx144_1 := bc HB.out hx144_1; replace p144 := eq_true p144; replace q144 := eq_true q144))
        go_roundg k1
        case measure => have := HK1.out; omega
        case rel => exact ⟨(wrap64 (x4_1 + ((rd_T85 l0 x5_1).f1))), (wrap64 (x5_1 + 1)), (by first | rfl | (simp; done) | (simp [*]; done)), (by first | rfl | (simp; done) | (simp [*]; done)), H', ⟨by have := HK1.out; omega⟩, ⟨bw HB.out⟩⟩
     ·
      replace c5 := Bool.eq_false_iff.mpr c5
      subst c5
      have H1 : (some (0, 1)) = some (r1, r2) := by rw [if_neg (show ¬ (false = true) by decide)] at H; exact H
      clear H
      have H := H1
      clear H1
      simp only [Option.some.injEq, Prod.mk.injEq] at H
      obtain ⟨rfl, rfl⟩ := H
      have p140 : 0 ≤ (x5_1 : Int) := of_decide_eq_true asm
      have q140 : x5_1 < (l0.length : Int) := of_decide_eq_true asm
      obtain ⟨ad140, e140, hx140_0, hx140_1⟩ := at_T85 HR0.out x5_1 p140 q140
      cases e140
      replace hx140_0 := bc HB.out hx140_0
      replace hx140_1 := bc HB.out hx140_1
      replace p140 := eq_true p140
      replace q140 := eq_true q140
      go_wp2_with (first | ((with_reducible refine gate_callee (f := 45) rfl ?_); refine goesL_ (some 17) rfl rfl Tryd.func45 (by kernel_rfl) rfl #[.string ((rd_T85 l0 x5_1).f0)] rfl gl ?_; (with_reducible refine (stowageref06_May.calls k1 ((rd_T85 l0 x5_1).f0) false _ A4.out).mono ?_); rintro e w11 ⟨rfl, hb⟩; refine ⟨_, rfl, ?_⟩; replace HB := Aside0.mk (below_step (bw HB.out) hb); (try clear hb); (try clear hb2); (try clear hk); (try clear hi)))
      go_ret2
      exact ⟨by first | rfl | (simp [errW_none, errW_some] <;> rfl) | (simp [*, errW_none, errW_some] <;> rfl), by repeat (first | (with_reducible first | exact HB.out | apply below_alloc | apply pw_below_drewN | apply below_drew1) | exact HB.out)⟩
    ·
     rw [if_neg c3] at H
     exact absurd H (by simp)
   ·
    rw [if_neg c2] at H
    have c2b0 : decide (x5_1 < (l0.length : Int)) = false := decide_eq_false c2
    clear c2
    by_cases c12 : (l0.length : Int) > 512
    ·
     rw [if_pos c12] at H
     have c12b0 : decide (512 < (l0.length : Int)) = true := decide_eq_true c12
     have c12b1 : decide (512 < l0.length) = true := decide_eq_true (by omega)
     clear c12
     simp only [Option.some.injEq, Prod.mk.injEq] at H
     obtain ⟨rfl, rfl⟩ := H
     go_wp2
     go_ret2
     exact ⟨by first | rfl | (simp [errW_none, errW_some] <;> rfl) | (simp [*, errW_none, errW_some] <;> rfl), by repeat (first | (with_reducible first | exact HB.out | apply below_alloc | apply pw_below_drewN | apply below_drew1) | exact HB.out)⟩
    ·
     rw [if_neg c12] at H
     have c12b0 : decide (512 < (l0.length : Int)) = false := decide_eq_false c12
     have c12b1 : decide (512 < l0.length) = false := decide_eq_false (by omega)
     clear c12
     simp only [Option.some.injEq, Prod.mk.injEq] at H
     obtain ⟨rfl, rfl⟩ := H
     go_wp2
     go_ret2
     exact ⟨by first | rfl | (simp [errW_none, errW_some] <;> rfl) | (simp [*, errW_none, errW_some] <;> rfl), by repeat (first | (with_reducible first | exact HB.out | apply below_alloc | apply pw_below_drewN | apply below_drew1) | exact HB.out)⟩

end Go.Proofs.YtoiockmmlanimaaDoor.Oj
end
section
-- Written for this claim by hyb.py, a driver of this session's over the kit's printer.
namespace Go.Proofs.YtoiockmmlanimaaDoor.Oj
open Go.RowKit Go.Proofs.YtoiockmmlanimaaDoorW.PrintWords Go.Proofs.YtoiockmmlanimaaDoorW.PrintLast Go.Proofs.YtoiockmmlanimaaDoorW.PrintMore
attribute [local go_sem] max2_int min2_int max_two min_two max_three min_three max_four min_four   -- for this text's walks alone
set_option linter.unusedVariables false
set_option linter.unusedSimpArgs false

/-! ### stowageref14_Check: function 20 -/
def stowageref14_Check.f (k : Nat) (a0_0 : Int) (a0_1 : Int) (a0_2 : ByteArray) (l0_3 : List (S85)) : Option (Int) := (stowageref13_Pieces.f k l0_3).bind fun bt146 => (if a0_0 < 1 then (some 1) else (if a0_0 > 100 then (some 1) else (if bt146.2 = 0 then (if bt146.1 = a0_1 then ((stowageref06_May.f k a0_2).bind fun t148 => (if t148 = true then (some 0) else (some 1))) else (some 1)) else (some 1))))
theorem stowageref14_Check.mono : ∀ a0 a1 a2 a3 k, LeO (stowageref14_Check.f k a0 a1 a2 a3) (stowageref14_Check.f (k + 1) a0 a1 a2 a3) := by
 intro a0 a1 a2 a3 k
 unfold stowageref14_Check.f
 repeat' first
   | (with_reducible exact stowageref06_May.mono _ _)
   | (with_reducible exact stowageref13_Pieces.mono _ _)
   | (with_reducible exact LeO.refl _)
   | (with_reducible exact LeO.none _)
   | (with_reducible refine LeO.ite ?_ ?_)
   | (with_reducible refine LeO.bind ?_ (fun _ => ?_))
   | exact stowageref06_May.mono _ _
   | exact stowageref13_Pieces.mono _ _
   | exact LeO.none _
   | refine LeO.ite ?_ ?_
   | refine LeO.bind ?_ (fun _ => ?_)
set_option maxHeartbeats 8000000 in
set_option maxRecDepth 100000 in
theorem stowageref14_Check.calls (k : Nat) (a0_0 : Int) (a0_1 : Int) (a0_2 : ByteArray) (A0_3 : Option Addr) (c0_3 : Nat) (l0_3 : List (S85)) (r : Int) (w : World) (hr0_3 : Kd.C k85 w A0_3 l0_3.length l0_3) (hc0_3 : l0_3.length ≤ c0_3) (h : stowageref14_Check.f k a0_0 a0_1 a0_2 l0_3 = some r) :
  Calls Tryd.prog 20 #[.agg #[.int .i64 a0_0, .int .i64 a0_1, .string a0_2, .slice A0_3 l0_3.length c0_3]] w fun e w' => e = .returned (.int .i64 r) ∧ Below w.heap.size w w' := by
 have hu52 := Tryd.underlying52
 have HR0_3 := Aside0.mk hr0_3
 have HC0_3 := Aside0.mk hc0_3
 clear hr0_3 hc0_3
 have HB := Aside0.mk (Below.refl w.heap.size w)
 have H : ((stowageref13_Pieces.f k l0_3).bind fun bt146 => (if a0_0 < 1 then (some 1) else (if a0_0 > 100 then (some 1) else (if bt146.2 = 0 then (if bt146.1 = a0_1 then ((stowageref06_May.f k a0_2).bind fun t148 => (if t148 = true then (some 0) else (some 1))) else (some 1)) else (some 1))))) = some r := h
 clear h
 replace H := Option.bind_eq_some_iff.mp H
 obtain ⟨⟨t146, t147⟩, A20, H⟩ := H
 replace H : (if a0_0 < 1 then (some 1) else (if a0_0 > 100 then (some 1) else (if t147 = 0 then (if t146 = a0_1 then ((stowageref06_May.f k a0_2).bind fun t148 => (if t148 = true then (some 0) else (some 1))) else (some 1)) else (some 1)))) = some r := H
 have A2 := Aside0.mk A20
 clear A20
 by_cases c3 : a0_0 < 1
 ·
  rw [if_pos c3] at H
  have c3b0 : decide (a0_0 < 1) = true := decide_eq_true c3
  clear c3
  obtain rfl := Option.some.inj H
  go_enter Tryd.func20, Tryd.ntmps20
  go_wp2_with (first | ((with_reducible refine gate_dst (N := 1) rfl ?_); refine box_event ?hg (N := 1) ?hd (cs := #[.int .i64 a0_0, .int .i64 a0_1, .string a0_2, .slice A0_3 l0_3.length c0_3]) (t := 52) ?hr ?_; (case hd => rfl); (case hg => rfl); (case hr => first | (go_simp; done) | (go_simp; rfl)); intro gb145 hg w4 hbox hb; have n0_ := Aside0.mk (below_step (bw HB.out) hb); have n1_ := Aside0.mk (hbox); have n2_ := Aside0.mk ((by rw [hg]; exact (below_size (bw HB.out)) : w.heap.size ≤ gb145)); have n3_ := Aside0.mk ((by rw [hg]; exact (below_size (bw HB.out)) : w.heap.size ≤ gb145)); clear HB; have HB := n0_; have BK145 := n1_; have GW145 := n2_; have GE145 := n3_; clear n0_ n1_ n2_ n3_; clear hb hbox hg; obtain ⟨hcz5_0, hcz5_1, hcz5_2, hcz5_3, hfz5_0, hfz5_1, hfz5_2, hfz5_3⟩ := cz4 BK145.out) | ((with_reducible refine gate_callee (f := 44) rfl ?_); refine goesL_ (some 8) rfl rfl Tryd.func44 (by kernel_rfl) rfl #[.slice A0_3 l0_3.length c0_3] rfl gl ?_; (with_reducible refine (stowageref13_Pieces.calls k _ _ l0_3 t146 t147 _ ?side1 ?side2 A2.out).mono ?_); (case side1 => exact kC (Kd.C_below HR0_3.out HB.out)); (case side2 => exact HC0_3.out); rintro e w6 ⟨rfl, hb⟩; refine ⟨_, rfl, ?_⟩; replace BK145 := Aside0.mk (blk_below (g := gb145) (o := .cells #[.int .i64 a0_0, .int .i64 a0_1, .string a0_2, .slice A0_3 l0_3.length c0_3] 52 (0, 0)) (bk BK145.out) hb); replace HB := Aside0.mk (below_step (bws HB.out) hb); (try clear hb); (try clear hb2); (try clear hk); (try clear hi); obtain ⟨hcz7_0, hcz7_1, hcz7_2, hcz7_3, hfz7_0, hfz7_1, hfz7_2, hfz7_3⟩ := cz4 BK145.out))
  go_ret
  exact ⟨by first | rfl | (simp [errW_none, errW_some] <;> rfl) | (simp [*, errW_none, errW_some] <;> rfl), by repeat (first | (with_reducible first | exact HB.out | apply below_alloc | apply pw_below_drewN | apply below_drew1 | refine below_set ?_ GE145.out) | exact HB.out)⟩
 ·
  rw [if_neg c3] at H
  have c3b0 : decide (a0_0 < 1) = false := decide_eq_false c3
  clear c3
  by_cases c8 : a0_0 > 100
  ·
   rw [if_pos c8] at H
   have c8b0 : decide (100 < a0_0) = true := decide_eq_true c8
   clear c8
   obtain rfl := Option.some.inj H
   go_enter Tryd.func20, Tryd.ntmps20
   go_wp2_with (first | ((with_reducible refine gate_dst (N := 1) rfl ?_); refine box_event ?hg (N := 1) ?hd (cs := #[.int .i64 a0_0, .int .i64 a0_1, .string a0_2, .slice A0_3 l0_3.length c0_3]) (t := 52) ?hr ?_; (case hd => rfl); (case hg => rfl); (case hr => first | (go_simp; done) | (go_simp; rfl)); intro gb145 hg w9 hbox hb; have n0_ := Aside0.mk (below_step (bw HB.out) hb); have n1_ := Aside0.mk (hbox); have n2_ := Aside0.mk ((by rw [hg]; exact (below_size (bw HB.out)) : w.heap.size ≤ gb145)); have n3_ := Aside0.mk ((by rw [hg]; exact (below_size (bw HB.out)) : w.heap.size ≤ gb145)); clear HB; have HB := n0_; have BK145 := n1_; have GW145 := n2_; have GE145 := n3_; clear n0_ n1_ n2_ n3_; clear hb hbox hg; obtain ⟨hcz10_0, hcz10_1, hcz10_2, hcz10_3, hfz10_0, hfz10_1, hfz10_2, hfz10_3⟩ := cz4 BK145.out) | ((with_reducible refine gate_callee (f := 44) rfl ?_); refine goesL_ (some 8) rfl rfl Tryd.func44 (by kernel_rfl) rfl #[.slice A0_3 l0_3.length c0_3] rfl gl ?_; (with_reducible refine (stowageref13_Pieces.calls k _ _ l0_3 t146 t147 _ ?side1 ?side2 A2.out).mono ?_); (case side1 => exact kC (Kd.C_below HR0_3.out HB.out)); (case side2 => exact HC0_3.out); rintro e w11 ⟨rfl, hb⟩; refine ⟨_, rfl, ?_⟩; replace BK145 := Aside0.mk (blk_below (g := gb145) (o := .cells #[.int .i64 a0_0, .int .i64 a0_1, .string a0_2, .slice A0_3 l0_3.length c0_3] 52 (0, 0)) (bk BK145.out) hb); replace HB := Aside0.mk (below_step (bws HB.out) hb); (try clear hb); (try clear hb2); (try clear hk); (try clear hi); obtain ⟨hcz12_0, hcz12_1, hcz12_2, hcz12_3, hfz12_0, hfz12_1, hfz12_2, hfz12_3⟩ := cz4 BK145.out))
   go_ret
   exact ⟨by first | rfl | (simp [errW_none, errW_some] <;> rfl) | (simp [*, errW_none, errW_some] <;> rfl), by repeat (first | (with_reducible first | exact HB.out | apply below_alloc | apply pw_below_drewN | apply below_drew1 | refine below_set ?_ GE145.out) | exact HB.out)⟩
  ·
   rw [if_neg c8] at H
   have c8b0 : decide (100 < a0_0) = false := decide_eq_false c8
   clear c8
   by_cases c13 : t147 = 0
   ·
    rw [if_pos c13] at H
    have c13b0 : (t147 == 0) = true := beq_iff_eq.mpr c13
    have c13b1 : (t147 != 0) = false := bne_eq_false_iff_eq.mpr c13
    clear c13
    by_cases c14 : t146 = a0_1
    ·
     rw [if_pos c14] at H
     have c14b0 : (t146 == a0_1) = true := beq_iff_eq.mpr c14
     have c14b1 : (t146 != a0_1) = false := bne_eq_false_iff_eq.mpr c14
     clear c14
     replace H := Option.bind_eq_some_iff.mp H
     obtain ⟨t148, A150, H⟩ := H
     replace H : (if t148 = true then (some 0) else (some 1)) = some r := H
     have A15 := Aside0.mk A150
     clear A150
     by_cases c16 : t148 = true
     ·
      subst c16
      have H1 : (some 0) = some r := by rw [if_pos rfl] at H; exact H
      clear H
      have H := H1
      clear H1
      obtain rfl := Option.some.inj H
      go_enter Tryd.func20, Tryd.ntmps20
      go_wp2_with (first | ((with_reducible refine gate_dst (N := 1) rfl ?_); refine box_event ?hg (N := 1) ?hd (cs := #[.int .i64 a0_0, .int .i64 a0_1, .string a0_2, .slice A0_3 l0_3.length c0_3]) (t := 52) ?hr ?_; (case hd => rfl); (case hg => rfl); (case hr => first | (go_simp; done) | (go_simp; rfl)); intro gb145 hg w17 hbox hb; have n0_ := Aside0.mk (below_step (bw HB.out) hb); have n1_ := Aside0.mk (hbox); have n2_ := Aside0.mk ((by rw [hg]; exact (below_size (bw HB.out)) : w.heap.size ≤ gb145)); have n3_ := Aside0.mk ((by rw [hg]; exact (below_size (bw HB.out)) : w.heap.size ≤ gb145)); clear HB; have HB := n0_; have BK145 := n1_; have GW145 := n2_; have GE145 := n3_; clear n0_ n1_ n2_ n3_; clear hb hbox hg; obtain ⟨hcz18_0, hcz18_1, hcz18_2, hcz18_3, hfz18_0, hfz18_1, hfz18_2, hfz18_3⟩ := cz4 BK145.out) | ((with_reducible refine gate_callee (f := 44) rfl ?_); refine goesL_ (some 8) rfl rfl Tryd.func44 (by kernel_rfl) rfl #[.slice A0_3 l0_3.length c0_3] rfl gl ?_; (with_reducible refine (stowageref13_Pieces.calls k _ _ l0_3 t146 t147 _ ?side1 ?side2 A2.out).mono ?_); (case side1 => exact kC (Kd.C_below HR0_3.out HB.out)); (case side2 => exact HC0_3.out); rintro e w19 ⟨rfl, hb⟩; refine ⟨_, rfl, ?_⟩; replace BK145 := Aside0.mk (blk_below (g := gb145) (o := .cells #[.int .i64 a0_0, .int .i64 a0_1, .string a0_2, .slice A0_3 l0_3.length c0_3] 52 (0, 0)) (bk BK145.out) hb); replace HB := Aside0.mk (below_step (bws HB.out) hb); (try clear hb); (try clear hb2); (try clear hk); (try clear hi); obtain ⟨hcz20_0, hcz20_1, hcz20_2, hcz20_3, hfz20_0, hfz20_1, hfz20_2, hfz20_3⟩ := cz4 BK145.out) | (go_at_call 45; (with_reducible refine (stowageref06_May.calls k a0_2 true _ A15.out).mono ?_); rintro e w21 ⟨rfl, hb⟩; replace BK145 := Aside0.mk (blk_below (g := gb145) (o := .cells #[.int .i64 a0_0, .int .i64 a0_1, .string a0_2, .slice A0_3 l0_3.length c0_3] 52 (0, 0)) (bk BK145.out) hb); replace HB := Aside0.mk (below_step (bws HB.out) hb); (try clear hb); (try clear hb2); (try clear hk); (try clear hi)))
      go_ret
      exact ⟨by first | rfl | (simp [errW_none, errW_some] <;> rfl) | (simp [*, errW_none, errW_some] <;> rfl), by repeat (first | (with_reducible first | exact HB.out | apply below_alloc | apply pw_below_drewN | apply below_drew1 | refine below_set ?_ GE145.out) | exact HB.out)⟩
     ·
      replace c16 := Bool.eq_false_iff.mpr c16
      subst c16
      have H1 : (some 1) = some r := by rw [if_neg (show ¬ (false = true) by decide)] at H; exact H
      clear H
      have H := H1
      clear H1
      obtain rfl := Option.some.inj H
      go_enter Tryd.func20, Tryd.ntmps20
      go_wp2_with (first | ((with_reducible refine gate_dst (N := 1) rfl ?_); refine box_event ?hg (N := 1) ?hd (cs := #[.int .i64 a0_0, .int .i64 a0_1, .string a0_2, .slice A0_3 l0_3.length c0_3]) (t := 52) ?hr ?_; (case hd => rfl); (case hg => rfl); (case hr => first | (go_simp; done) | (go_simp; rfl)); intro gb145 hg w22 hbox hb; have n0_ := Aside0.mk (below_step (bw HB.out) hb); have n1_ := Aside0.mk (hbox); have n2_ := Aside0.mk ((by rw [hg]; exact (below_size (bw HB.out)) : w.heap.size ≤ gb145)); have n3_ := Aside0.mk ((by rw [hg]; exact (below_size (bw HB.out)) : w.heap.size ≤ gb145)); clear HB; have HB := n0_; have BK145 := n1_; have GW145 := n2_; have GE145 := n3_; clear n0_ n1_ n2_ n3_; clear hb hbox hg; obtain ⟨hcz23_0, hcz23_1, hcz23_2, hcz23_3, hfz23_0, hfz23_1, hfz23_2, hfz23_3⟩ := cz4 BK145.out) | ((with_reducible refine gate_callee (f := 44) rfl ?_); refine goesL_ (some 8) rfl rfl Tryd.func44 (by kernel_rfl) rfl #[.slice A0_3 l0_3.length c0_3] rfl gl ?_; (with_reducible refine (stowageref13_Pieces.calls k _ _ l0_3 t146 t147 _ ?side1 ?side2 A2.out).mono ?_); (case side1 => exact kC (Kd.C_below HR0_3.out HB.out)); (case side2 => exact HC0_3.out); rintro e w24 ⟨rfl, hb⟩; refine ⟨_, rfl, ?_⟩; replace BK145 := Aside0.mk (blk_below (g := gb145) (o := .cells #[.int .i64 a0_0, .int .i64 a0_1, .string a0_2, .slice A0_3 l0_3.length c0_3] 52 (0, 0)) (bk BK145.out) hb); replace HB := Aside0.mk (below_step (bws HB.out) hb); (try clear hb); (try clear hb2); (try clear hk); (try clear hi); obtain ⟨hcz25_0, hcz25_1, hcz25_2, hcz25_3, hfz25_0, hfz25_1, hfz25_2, hfz25_3⟩ := cz4 BK145.out) | (go_at_call 45; (with_reducible refine (stowageref06_May.calls k a0_2 false _ A15.out).mono ?_); rintro e w26 ⟨rfl, hb⟩; replace BK145 := Aside0.mk (blk_below (g := gb145) (o := .cells #[.int .i64 a0_0, .int .i64 a0_1, .string a0_2, .slice A0_3 l0_3.length c0_3] 52 (0, 0)) (bk BK145.out) hb); replace HB := Aside0.mk (below_step (bws HB.out) hb); (try clear hb); (try clear hb2); (try clear hk); (try clear hi)))
      go_ret
      exact ⟨by first | rfl | (simp [errW_none, errW_some] <;> rfl) | (simp [*, errW_none, errW_some] <;> rfl), by repeat (first | (with_reducible first | exact HB.out | apply below_alloc | apply pw_below_drewN | apply below_drew1 | refine below_set ?_ GE145.out) | exact HB.out)⟩
    ·
     rw [if_neg c14] at H
     have c14b0 : (t146 == a0_1) = false := beq_eq_false_iff_ne.mpr c14
     have c14b1 : (t146 != a0_1) = true := bne_iff_ne.mpr c14
     obtain rfl := Option.some.inj H
     go_enter Tryd.func20, Tryd.ntmps20
     go_wp2_with (first | ((with_reducible refine gate_dst (N := 1) rfl ?_); refine box_event ?hg (N := 1) ?hd (cs := #[.int .i64 a0_0, .int .i64 a0_1, .string a0_2, .slice A0_3 l0_3.length c0_3]) (t := 52) ?hr ?_; (case hd => rfl); (case hg => rfl); (case hr => first | (go_simp; done) | (go_simp; rfl)); intro gb145 hg w27 hbox hb; have n0_ := Aside0.mk (below_step (bw HB.out) hb); have n1_ := Aside0.mk (hbox); have n2_ := Aside0.mk ((by rw [hg]; exact (below_size (bw HB.out)) : w.heap.size ≤ gb145)); have n3_ := Aside0.mk ((by rw [hg]; exact (below_size (bw HB.out)) : w.heap.size ≤ gb145)); clear HB; have HB := n0_; have BK145 := n1_; have GW145 := n2_; have GE145 := n3_; clear n0_ n1_ n2_ n3_; clear hb hbox hg; obtain ⟨hcz28_0, hcz28_1, hcz28_2, hcz28_3, hfz28_0, hfz28_1, hfz28_2, hfz28_3⟩ := cz4 BK145.out) | ((with_reducible refine gate_callee (f := 44) rfl ?_); refine goesL_ (some 8) rfl rfl Tryd.func44 (by kernel_rfl) rfl #[.slice A0_3 l0_3.length c0_3] rfl gl ?_; (with_reducible refine (stowageref13_Pieces.calls k _ _ l0_3 t146 t147 _ ?side1 ?side2 A2.out).mono ?_); (case side1 => exact kC (Kd.C_below HR0_3.out HB.out)); (case side2 => exact HC0_3.out); rintro e w29 ⟨rfl, hb⟩; refine ⟨_, rfl, ?_⟩; replace BK145 := Aside0.mk (blk_below (g := gb145) (o := .cells #[.int .i64 a0_0, .int .i64 a0_1, .string a0_2, .slice A0_3 l0_3.length c0_3] 52 (0, 0)) (bk BK145.out) hb); replace HB := Aside0.mk (below_step (bws HB.out) hb); (try clear hb); (try clear hb2); (try clear hk); (try clear hi); obtain ⟨hcz30_0, hcz30_1, hcz30_2, hcz30_3, hfz30_0, hfz30_1, hfz30_2, hfz30_3⟩ := cz4 BK145.out))
     go_ret
     exact ⟨by first | rfl | (simp [errW_none, errW_some] <;> rfl) | (simp [*, errW_none, errW_some] <;> rfl), by repeat (first | (with_reducible first | exact HB.out | apply below_alloc | apply pw_below_drewN | apply below_drew1 | refine below_set ?_ GE145.out) | exact HB.out)⟩
   ·
    rw [if_neg c13] at H
    have c13b0 : (t147 == 0) = false := beq_eq_false_iff_ne.mpr c13
    have c13b1 : (t147 != 0) = true := bne_iff_ne.mpr c13
    obtain rfl := Option.some.inj H
    go_enter Tryd.func20, Tryd.ntmps20
    go_wp2_with (first | ((with_reducible refine gate_dst (N := 1) rfl ?_); refine box_event ?hg (N := 1) ?hd (cs := #[.int .i64 a0_0, .int .i64 a0_1, .string a0_2, .slice A0_3 l0_3.length c0_3]) (t := 52) ?hr ?_; (case hd => rfl); (case hg => rfl); (case hr => first | (go_simp; done) | (go_simp; rfl)); intro gb145 hg w31 hbox hb; have n0_ := Aside0.mk (below_step (bw HB.out) hb); have n1_ := Aside0.mk (hbox); have n2_ := Aside0.mk ((by rw [hg]; exact (below_size (bw HB.out)) : w.heap.size ≤ gb145)); have n3_ := Aside0.mk ((by rw [hg]; exact (below_size (bw HB.out)) : w.heap.size ≤ gb145)); clear HB; have HB := n0_; have BK145 := n1_; have GW145 := n2_; have GE145 := n3_; clear n0_ n1_ n2_ n3_; clear hb hbox hg; obtain ⟨hcz32_0, hcz32_1, hcz32_2, hcz32_3, hfz32_0, hfz32_1, hfz32_2, hfz32_3⟩ := cz4 BK145.out) | ((with_reducible refine gate_callee (f := 44) rfl ?_); refine goesL_ (some 8) rfl rfl Tryd.func44 (by kernel_rfl) rfl #[.slice A0_3 l0_3.length c0_3] rfl gl ?_; (with_reducible refine (stowageref13_Pieces.calls k _ _ l0_3 t146 t147 _ ?side1 ?side2 A2.out).mono ?_); (case side1 => exact kC (Kd.C_below HR0_3.out HB.out)); (case side2 => exact HC0_3.out); rintro e w33 ⟨rfl, hb⟩; refine ⟨_, rfl, ?_⟩; replace BK145 := Aside0.mk (blk_below (g := gb145) (o := .cells #[.int .i64 a0_0, .int .i64 a0_1, .string a0_2, .slice A0_3 l0_3.length c0_3] 52 (0, 0)) (bk BK145.out) hb); replace HB := Aside0.mk (below_step (bws HB.out) hb); (try clear hb); (try clear hb2); (try clear hk); (try clear hi); obtain ⟨hcz34_0, hcz34_1, hcz34_2, hcz34_3, hfz34_0, hfz34_1, hfz34_2, hfz34_3⟩ := cz4 BK145.out))
    go_ret
    exact ⟨by first | rfl | (simp [errW_none, errW_some] <;> rfl) | (simp [*, errW_none, errW_some] <;> rfl), by repeat (first | (with_reducible first | exact HB.out | apply below_alloc | apply pw_below_drewN | apply below_drew1 | refine below_set ?_ GE145.out) | exact HB.out)⟩

end Go.Proofs.YtoiockmmlanimaaDoor.Oj
end
section
-- Written for this claim by hyb.py, a driver of this session's over the kit's printer.
namespace Go.Proofs.YtoiockmmlanimaaDoor.Oj
open Go.RowKit Go.Proofs.YtoiockmmlanimaaDoorW.PrintWords Go.Proofs.YtoiockmmlanimaaDoorW.PrintLast Go.Proofs.YtoiockmmlanimaaDoorW.PrintMore
attribute [local go_sem] max2_int min2_int max_two min_two max_three min_three max_four min_four   -- for this text's walks alone
set_option linter.unusedVariables false
set_option linter.unusedSimpArgs false

/-! ### stowageref14_May: function 33 -/
def stowageref14_May.l0 : Nat → List (S52) → Int → Option (Bool)
 | 0, _, _ => none
 | k + 1, x0, x3 => if x3 < (x0.length : Int) then (if 0 ≤ x3 then ((stowageref14_Check.f k ((rd_T52 x0 x3).f0) ((rd_T52 x0 x3).f1) ((rd_T52 x0 x3).f2) ((rd_T52 x0 x3).f3)).bind fun t150 => (if t150 = 0 then (if x3 > 0 then (if 0 ≤ (wrap64 (x3 - 1)) then (if (wrap64 (x3 - 1)) < (x0.length : Int) then (if ((rd_T52 x0 (wrap64 (x3 - 1))).f0) ≥ ((rd_T52 x0 x3).f0) then (some false) else (stowageref14_May.l0 k x0 (wrap64 (x3 + 1)))) else (none)) else (none)) else (stowageref14_May.l0 k x0 (wrap64 (x3 + 1)))) else (some false))) else (none)) else (some true)
def stowageref14_May.f (k : Nat) (l0 : List (S52)) : Option (Bool) := stowageref14_May.l0 k l0 0
theorem stowageref14_May.mono_l : ∀ k, (∀ y0 y1, LeO (stowageref14_May.l0 k y0 y1) (stowageref14_May.l0 (k + 1) y0 y1))
 | 0 => fun _ _ r h => by simp [stowageref14_May.l0] at h
 | k + 1 => by
  have ih0 := stowageref14_May.mono_l k
  ·
   intro y0 y1
   unfold stowageref14_May.l0
   repeat' first
   | (with_reducible exact ih0 _ _)
   | (with_reducible exact stowageref14_Check.mono _ _ _ _ _)
   | (with_reducible exact LeO.refl _)
   | (with_reducible exact LeO.none _)
   | (with_reducible refine LeO.ite ?_ ?_)
   | (with_reducible refine LeO.bind ?_ (fun _ => ?_))
   | exact ih0 _ _
   | exact stowageref14_Check.mono _ _ _ _ _
   | exact LeO.none _
   | refine LeO.ite ?_ ?_
   | refine LeO.bind ?_ (fun _ => ?_)
theorem stowageref14_May.mono : ∀ a0 k, LeO (stowageref14_May.f k a0) (stowageref14_May.f (k + 1) a0) := by
 intro a0 k
 have ih0 := stowageref14_May.mono_l k
 unfold stowageref14_May.f
 repeat' first
   | (with_reducible exact ih0 _ _)
   | (with_reducible exact stowageref14_Check.mono _ _ _ _ _)
   | (with_reducible exact LeO.refl _)
   | (with_reducible exact LeO.none _)
   | (with_reducible refine LeO.ite ?_ ?_)
   | (with_reducible refine LeO.bind ?_ (fun _ => ?_))
   | exact ih0 _ _
   | exact stowageref14_Check.mono _ _ _ _ _
   | exact LeO.none _
   | refine LeO.ite ?_ ?_
   | refine LeO.bind ?_ (fun _ => ?_)
def stowageref14_May.T4 : Bool × List (List Nat × List Nat) := (true, [([], []), ([], []), ([0, 1], [0, 1]), ([2], [2]), ([3], [3]), ([4], [4]), ([5, 4], [5]), ([6], [6]), ([7, 6], [6, 7]), ([8, 6, 6], [6, 8]), ([9], [9]), ([9], [9]), ([11, 9], [9, 11]), ([10, 12, 9], [9, 10, 12]), ([13, 9], [9, 13]), ([14, 9], [9, 14]), ([9], [9]), ([9], [9]), ([16, 17, 9], [9, 16, 17]), ([18, 9], [9, 18]), ([19, 9], [9, 19]), ([15, 20, 9], [9, 15, 20]), ([9, 21, 6], [6, 9, 21]), ([6, 22], [6, 22])])
def stowageref14_May.B4 : List Nat := [0, 0, 3, 7, 15, 31, 63, 127, 255, 511, 1023, 1023, 3071, 8191, 16383, 32767, 1023, 1023, 197631, 459775, 984063, 2097151, 4194303, 8388607]
theorem stowageref14_May.tab4 : rtab .any (opsOf Tryd.f33 4) = stowageref14_May.T4 := by kernel_rfl
theorem stowageref14_May.bits4 : waitsOk stowageref14_May.T4.2 stowageref14_May.B4 = true := by kernel_rfl
set_option maxHeartbeats 8000000 in
set_option maxRecDepth 100000 in
theorem stowageref14_May.calls (k : Nat) (A0 : Option Addr) (c0 : Nat) (l0 : List (S52)) (r : Bool) (w : World) (hr0 : Kd.C k52 w A0 l0.length l0) (hc0 : l0.length ≤ c0) (h : stowageref14_May.f k l0 = some r) :
  Calls Tryd.prog 33 #[.slice A0 l0.length c0] w fun e w' => e = .returned (.bool r) ∧ Below w.heap.size w w' := by
 have hu52 := Tryd.underlying52
 have HR0 := Aside0.mk hr0
 have HC0 := Aside0.mk hc0
 clear hr0 hc0
 have HB := Aside0.mk (Below.refl w.heap.size w)
 have H : (stowageref14_May.l0 k l0 0) = some r := h
 clear h
 have H' := Aside0.mk H
 clear H
 go_enter Tryd.func33, Tryd.ntmps33
 go_wp2
 go_loopg [3] k (fun kq v3 w' => ∃ (x3_1 : Int), v3 = .int .i64 x3_1 ∧ Aside0 (stowageref14_May.l0 kq l0 x3_1 = some r) ∧ Aside0 (kq ≤ k) ∧ Aside0 (Below w.heap.size w w'))
 case atStart => exact ⟨(0), (by first | rfl | (simp; done) | (simp [*]; done)), H', ⟨Nat.le_refl _⟩, ⟨bw HB.out⟩⟩
 case round =>
  clear H'
  obtain ⟨x3_1, rfl, HA, HK1, HB⟩ := hrel
  cases gk with
  | zero => exact absurd HA.out (by simp [stowageref14_May.l0])
  | succ k1 =>
   have H := HA.out
   clear HA
   simp only [stowageref14_May.l0] at H
   by_cases c2 : x3_1 < (l0.length : Int)
   ·
    rw [if_pos c2] at H
    have c2b0 : decide (x3_1 < (l0.length : Int)) = true := decide_eq_true c2
    clear c2
    by_cases c3 : 0 ≤ x3_1
    ·
     rw [if_pos c3] at H
     have c3b0 : decide (0 ≤ x3_1) = true := decide_eq_true c3
     clear c3
     replace H := Option.bind_eq_some_iff.mp H
     obtain ⟨t150, A40, H⟩ := H
     replace H : (if t150 = 0 then (if x3_1 > 0 then (if 0 ≤ (wrap64 (x3_1 - 1)) then (if (wrap64 (x3_1 - 1)) < (l0.length : Int) then (if ((rd_T52 l0 (wrap64 (x3_1 - 1))).f0) ≥ ((rd_T52 l0 x3_1).f0) then (some false) else (stowageref14_May.l0 k1 l0 (wrap64 (x3_1 + 1)))) else (none)) else (none)) else (stowageref14_May.l0 k1 l0 (wrap64 (x3_1 + 1)))) else (some false)) = some r := H
     have A4 := Aside0.mk A40
     clear A40
     by_cases c5 : t150 = 0
     ·
      rw [if_pos c5] at H
      have c5b0 : (t150 == 0) = true := beq_iff_eq.mpr c5
      have c5b1 : (t150 != 0) = false := bne_eq_false_iff_eq.mpr c5
      clear c5
      by_cases c6 : x3_1 > 0
      ·
       rw [if_pos c6] at H
       have c6b0 : decide (0 < x3_1) = true := decide_eq_true c6
       clear c6
       obtain ⟨ji7, hji7⟩ : ∃ j_ : Int, (wrap64 (x3_1 - 1)) = j_ := ⟨_, rfl⟩
       replace H : (if 0 ≤ (ji7) then (if (ji7) < (l0.length : Int) then (if ((rd_T52 l0 (ji7)).f0) ≥ ((rd_T52 l0 x3_1).f0) then (some false) else (stowageref14_May.l0 k1 l0 (wrap64 (x3_1 + 1)))) else (none)) else (none)) = some r := by first | (rw [hji7] at H; exact H) | (simp only [hji7] at H ⊢; exact H)
       (try rw [hji7] at A4)
       have hji7w : (IntKind.i64.wrap (x3_1 - 1)) = ji7 := (i64_w _).trans hji7
       by_cases c8 : 0 ≤ (ji7)
       ·
        rw [if_pos c8] at H
        have c8b0 : decide (0 ≤ (ji7)) = true := decide_eq_true c8
        clear c8
        by_cases c9 : (ji7) < (l0.length : Int)
        ·
         rw [if_pos c9] at H
         have c9b0 : decide ((ji7) < (l0.length : Int)) = true := decide_eq_true c9
         clear c9
         by_cases c10 : ((rd_T52 l0 (ji7)).f0) ≥ ((rd_T52 l0 x3_1).f0)
         ·
          rw [if_pos c10] at H
          have c10b0 : decide (((rd_T52 l0 x3_1).f0) ≤ ((rd_T52 l0 (ji7)).f0)) = true := decide_eq_true c10
          clear c10
          obtain rfl := Option.some.inj H
          try go_wp2
          replace HB := Aside0.mk (below_drew1 HB.out)
          have p149 : 0 ≤ (x3_1 : Int) := of_decide_eq_true asm
          have q149 : x3_1 < (l0.length : Int) := of_decide_eq_true asm
          obtain ⟨ad149, A149_3, c149_3, e149, hx149_0, hx149_1, hx149_2, hx149_3, hl149_3, hi149_3⟩ := at_T52 HR0.out x3_1 p149 q149
          have hw149_3 := hx149_3
          have hw149_2 := hx149_2
          have hw149_1 := hx149_1
          have hw149_0 := hx149_0
          cases e149
          replace hx149_0 := bc HB.out hx149_0
          replace hx149_1 := bc HB.out hx149_1
          replace hx149_2 := bc HB.out hx149_2
          replace hx149_3 := bc HB.out hx149_3
          have HR149_3 := Aside0.mk hi149_3
          have HC149_3 := Aside0.mk hl149_3
          clear hi149_3 hl149_3
          replace p149 := eq_true p149
          replace q149 := eq_true q149
          have p151 : 0 ≤ ((ji7) : Int) := of_decide_eq_true asm
          have q151 : (ji7) < (l0.length : Int) := of_decide_eq_true asm
          obtain ⟨ad151, A151_3, c151_3, e151, hx151_0, hx151_1, hx151_2, hx151_3, hl151_3, hi151_3⟩ := at_T52 HR0.out (ji7) p151 q151
          have hw151_3 := hx151_3
          have hw151_2 := hx151_2
          have hw151_1 := hx151_1
          have hw151_0 := hx151_0
          obtain rfl : ad149 = ad151 := (by injection e151)
          replace hx151_0 := bc HB.out hx151_0
          replace hx151_1 := bc HB.out hx151_1
          replace hx151_2 := bc HB.out hx151_2
          replace hx151_3 := bc HB.out hx151_3
          have HR151_3 := Aside0.mk hi151_3
          have HC151_3 := Aside0.mk hl151_3
          clear hi151_3 hl151_3
          replace p151 := eq_true p151
          replace q151 := eq_true q151
          have p152 : 0 ≤ (x3_1 : Int) := of_decide_eq_true asm
          have q152 : x3_1 < (l0.length : Int) := of_decide_eq_true asm
          obtain ⟨ad152, A152_3, c152_3, e152, hx152_0, hx152_1, hx152_2, hx152_3, hl152_3, hi152_3⟩ := at_T52 HR0.out x3_1 p152 q152
          have hw152_3 := hx152_3
          have hw152_2 := hx152_2
          have hw152_1 := hx152_1
          have hw152_0 := hx152_0
          obtain rfl : ad149 = ad152 := (by injection e152)
          replace hx152_0 := bc HB.out hx152_0
          replace hx152_1 := bc HB.out hx152_1
          replace hx152_2 := bc HB.out hx152_2
          replace hx152_3 := bc HB.out hx152_3
          have HR152_3 := Aside0.mk hi152_3
          have HC152_3 := Aside0.mk hl152_3
          clear hi152_3 hl152_3
          replace p152 := eq_true p152
          replace q152 := eq_true q152
          refine start_ (n := 24) (S := fun w' => w'.cell? (ad149.add ((x3_1).toNat * 4)) = some (.int .i64 ((rd_T52 l0 x3_1).f0)) ∧ w'.cell? ⟨(ad149.add ((x3_1).toNat * 4)).block, (ad149.add ((x3_1).toNat * 4)).off + 1, none⟩ = some (.int .i64 ((rd_T52 l0 x3_1).f1)) ∧ w'.cell? ⟨(ad149.add ((x3_1).toNat * 4)).block, (ad149.add ((x3_1).toNat * 4)).off + 2, none⟩ = some (.string ((rd_T52 l0 x3_1).f2)) ∧ w'.cell? ⟨(ad149.add ((x3_1).toNat * 4)).block, (ad149.add ((x3_1).toNat * 4)).off + 3, none⟩ = some (.slice A149_3 ((rd_T52 l0 x3_1).f3).length c149_3) ∧ w'.cell? (ad149.add (((ji7)).toNat * 4)) = some (.int .i64 ((rd_T52 l0 (ji7)).f0)) ∧ w'.cell? ⟨(ad149.add (((ji7)).toNat * 4)).block, (ad149.add (((ji7)).toNat * 4)).off + 1, none⟩ = some (.int .i64 ((rd_T52 l0 (ji7)).f1)) ∧ w'.cell? ⟨(ad149.add (((ji7)).toNat * 4)).block, (ad149.add (((ji7)).toNat * 4)).off + 2, none⟩ = some (.string ((rd_T52 l0 (ji7)).f2)) ∧ w'.cell? ⟨(ad149.add (((ji7)).toNat * 4)).block, (ad149.add (((ji7)).toNat * 4)).off + 3, none⟩ = some (.slice A151_3 ((rd_T52 l0 (ji7)).f3).length c151_3) ∧ w'.cell? (ad149.add ((x3_1).toNat * 4)) = some (.int .i64 ((rd_T52 l0 x3_1).f0)) ∧ w'.cell? ⟨(ad149.add ((x3_1).toNat * 4)).block, (ad149.add ((x3_1).toNat * 4)).off + 1, none⟩ = some (.int .i64 ((rd_T52 l0 x3_1).f1)) ∧ w'.cell? ⟨(ad149.add ((x3_1).toNat * 4)).block, (ad149.add ((x3_1).toNat * 4)).off + 2, none⟩ = some (.string ((rd_T52 l0 x3_1).f2)) ∧ w'.cell? ⟨(ad149.add ((x3_1).toNat * 4)).block, (ad149.add ((x3_1).toNat * 4)).off + 3, none⟩ = some (.slice A152_3 ((rd_T52 l0 x3_1).f3).length c152_3)) (ds := []) #[false, false, false, false, false, false, false, false, false, false, false, false, false, false, false, false, false, false, false, false, false, false, false, false] (by kernel_rfl) rfl rfl ⟨(bc HB.out hw149_0), (bc HB.out hw149_1), (bc HB.out hw149_2), (bc HB.out hw149_3), (bc HB.out hw151_0), (bc HB.out hw151_1), (bc HB.out hw151_2), (bc HB.out hw151_3), (bc HB.out hw152_0), (bc HB.out hw152_1), (bc HB.out hw152_2), (bc HB.out hw152_3)⟩ (fun hHeld => ?_); refine with_tabW stowageref14_May.tab4 stowageref14_May.bits4 (fun HT_ HW_ => ?_)
          generalize wr.drew = w11 at HB HR149_3 HR151_3 HR152_3 hx149_0 hx149_1 hx149_2 hx149_3 hx151_0 hx151_1 hx151_2 hx151_3 hx152_0 hx152_1 hx152_2 hx152_3 hHeld ⊢
          refine pu 0 (some 10) HT_.out ?_
          refine pu 1 (some 11) HT_.out ?_
          refine pu 2 (some 12) HT_.out ?_
          refine tk 3 (some 13) HT_.out HW_.out hHeld ?_
          refine one_ (i := 4) (N := some 14) #[true, true, true, true, true, false, false, false, false, false, false, false, false, false, false, false, false, false, false, false, false, false, false, false] rfl rfl (one_of HT_.out (by kernel_rfl)) (by decide) (fun K hK => ?_)
          refine goes_ Tryd.func20 (by kernel_rfl) rfl #[.agg #[.int .i64 ((rd_T52 l0 x3_1).f0), .int .i64 ((rd_T52 l0 x3_1).f1), .string ((rd_T52 l0 x3_1).f2), .slice A149_3 ((rd_T52 l0 x3_1).f3).length c149_3]] (by rfl) rfl rfl gl ?_
          with_reducible refine (stowageref14_Check.calls k1 ((rd_T52 l0 x3_1).f0) ((rd_T52 l0 x3_1).f1) ((rd_T52 l0 x3_1).f2) _ _ ((rd_T52 l0 x3_1).f3) t150 _ ?side1 ?side2 A4.out).mono ?_
          (case side1 => exact kC (Kd.C_below HR149_3.out HB.out))
          (case side2 => exact HC149_3.out)
          rintro e w12 ⟨rfl, hb⟩
          refine ⟨_, rfl, ?_⟩
          replace HB := Aside0.mk (below_step (bw HB.out) hb)
          (try clear hb)
          (try clear hb2)
          (try clear hk)
          (try clear hi)
          refine hK.out _ _ ⟨(bc HB.out hw149_0), (bc HB.out hw149_1), (bc HB.out hw149_2), (bc HB.out hw149_3), (bc HB.out hw151_0), (bc HB.out hw151_1), (bc HB.out hw151_2), (bc HB.out hw151_3), (bc HB.out hw152_0), (bc HB.out hw152_1), (bc HB.out hw152_2), (bc HB.out hw152_3)⟩ (fun hHeld => ?_)
          clear hK K
          refine norm_ (a' := ?_) ?_ ?_
          rotate_left
          ·
           show Act.put _ (some 14) _ = _
           simp only [Act.put, List.setIfInBounds_toArray, List.set_cons_zero, List.set_cons_succ, i64_w, i32_w]
           rfl
          refine pu 5 (some 15) HT_.out ?_
          refine pu 6 (some 16) HT_.out ?_
          refine pu 7 (some 17) HT_.out ?_
          refine pu 8 (some 18) HT_.out ?_
          refine pu 9 (some 19) HT_.out ?_
          refine pu 10 (some 20) HT_.out ?_
          refine pu 11 (some 21) HT_.out ?_
          refine pu 12 (some 22) HT_.out ?_
          refine pu 13 (some 23) HT_.out ?_
          refine pu 14 (some 24) HT_.out ?_
          refine pu 16 (some 26) HT_.out ?_
          refine pu 17 (some 27) HT_.out ?_
          refine pu 18 (some 28) HT_.out ?_
          refine pu 19 (some 29) HT_.out ?_
          refine tk 15 (some 25) HT_.out HW_.out hHeld ?_
          refine tk 20 (some 30) HT_.out HW_.out hHeld ?_
          refine pu 21 (some 31) HT_.out ?_
          refine pu 22 (some 32) HT_.out ?_
          refine pu 23 (some 33) HT_.out ?_
          refine done_ (done_of HT_.out (by kernel_rfl)) ?_
          try go_wp2
          go_ret
          exact ⟨by first | rfl | (simp [errW_none, errW_some] <;> rfl) | (simp only [← hji7]; first | rfl | (simp [errW_none, errW_some] <;> rfl)) | (simp [*, errW_none, errW_some] <;> rfl), by repeat (first | (with_reducible first | exact HB.out | apply below_alloc | apply pw_below_drewN | apply below_drew1) | exact HB.out)⟩
         ·
          rw [if_neg c10] at H
          have c10b0 : decide (((rd_T52 l0 x3_1).f0) ≤ ((rd_T52 l0 (ji7)).f0)) = false := decide_eq_false c10
          clear c10
          have H' := Aside0.mk H
          clear H
          try go_wp2
          replace HB := Aside0.mk (below_drew1 HB.out)
          have p149 : 0 ≤ (x3_1 : Int) := of_decide_eq_true asm
          have q149 : x3_1 < (l0.length : Int) := of_decide_eq_true asm
          obtain ⟨ad149, A149_3, c149_3, e149, hx149_0, hx149_1, hx149_2, hx149_3, hl149_3, hi149_3⟩ := at_T52 HR0.out x3_1 p149 q149
          have hw149_3 := hx149_3
          have hw149_2 := hx149_2
          have hw149_1 := hx149_1
          have hw149_0 := hx149_0
          cases e149
          replace hx149_0 := bc HB.out hx149_0
          replace hx149_1 := bc HB.out hx149_1
          replace hx149_2 := bc HB.out hx149_2
          replace hx149_3 := bc HB.out hx149_3
          have HR149_3 := Aside0.mk hi149_3
          have HC149_3 := Aside0.mk hl149_3
          clear hi149_3 hl149_3
          replace p149 := eq_true p149
          replace q149 := eq_true q149
          have p151 : 0 ≤ ((ji7) : Int) := of_decide_eq_true asm
          have q151 : (ji7) < (l0.length : Int) := of_decide_eq_true asm
          obtain ⟨ad151, A151_3, c151_3, e151, hx151_0, hx151_1, hx151_2, hx151_3, hl151_3, hi151_3⟩ := at_T52 HR0.out (ji7) p151 q151
          have hw151_3 := hx151_3
          have hw151_2 := hx151_2
          have hw151_1 := hx151_1
          have hw151_0 := hx151_0
          obtain rfl : ad149 = ad151 := (by injection e151)
          replace hx151_0 := bc HB.out hx151_0
          replace hx151_1 := bc HB.out hx151_1
          replace hx151_2 := bc HB.out hx151_2
          replace hx151_3 := bc HB.out hx151_3
          have HR151_3 := Aside0.mk hi151_3
          have HC151_3 := Aside0.mk hl151_3
          clear hi151_3 hl151_3
          replace p151 := eq_true p151
          replace q151 := eq_true q151
          have p152 : 0 ≤ (x3_1 : Int) := of_decide_eq_true asm
          have q152 : x3_1 < (l0.length : Int) := of_decide_eq_true asm
          obtain ⟨ad152, A152_3, c152_3, e152, hx152_0, hx152_1, hx152_2, hx152_3, hl152_3, hi152_3⟩ := at_T52 HR0.out x3_1 p152 q152
          have hw152_3 := hx152_3
          have hw152_2 := hx152_2
          have hw152_1 := hx152_1
          have hw152_0 := hx152_0
          obtain rfl : ad149 = ad152 := (by injection e152)
          replace hx152_0 := bc HB.out hx152_0
          replace hx152_1 := bc HB.out hx152_1
          replace hx152_2 := bc HB.out hx152_2
          replace hx152_3 := bc HB.out hx152_3
          have HR152_3 := Aside0.mk hi152_3
          have HC152_3 := Aside0.mk hl152_3
          clear hi152_3 hl152_3
          replace p152 := eq_true p152
          replace q152 := eq_true q152
          refine start_ (n := 24) (S := fun w' => w'.cell? (ad149.add ((x3_1).toNat * 4)) = some (.int .i64 ((rd_T52 l0 x3_1).f0)) ∧ w'.cell? ⟨(ad149.add ((x3_1).toNat * 4)).block, (ad149.add ((x3_1).toNat * 4)).off + 1, none⟩ = some (.int .i64 ((rd_T52 l0 x3_1).f1)) ∧ w'.cell? ⟨(ad149.add ((x3_1).toNat * 4)).block, (ad149.add ((x3_1).toNat * 4)).off + 2, none⟩ = some (.string ((rd_T52 l0 x3_1).f2)) ∧ w'.cell? ⟨(ad149.add ((x3_1).toNat * 4)).block, (ad149.add ((x3_1).toNat * 4)).off + 3, none⟩ = some (.slice A149_3 ((rd_T52 l0 x3_1).f3).length c149_3) ∧ w'.cell? (ad149.add (((ji7)).toNat * 4)) = some (.int .i64 ((rd_T52 l0 (ji7)).f0)) ∧ w'.cell? ⟨(ad149.add (((ji7)).toNat * 4)).block, (ad149.add (((ji7)).toNat * 4)).off + 1, none⟩ = some (.int .i64 ((rd_T52 l0 (ji7)).f1)) ∧ w'.cell? ⟨(ad149.add (((ji7)).toNat * 4)).block, (ad149.add (((ji7)).toNat * 4)).off + 2, none⟩ = some (.string ((rd_T52 l0 (ji7)).f2)) ∧ w'.cell? ⟨(ad149.add (((ji7)).toNat * 4)).block, (ad149.add (((ji7)).toNat * 4)).off + 3, none⟩ = some (.slice A151_3 ((rd_T52 l0 (ji7)).f3).length c151_3) ∧ w'.cell? (ad149.add ((x3_1).toNat * 4)) = some (.int .i64 ((rd_T52 l0 x3_1).f0)) ∧ w'.cell? ⟨(ad149.add ((x3_1).toNat * 4)).block, (ad149.add ((x3_1).toNat * 4)).off + 1, none⟩ = some (.int .i64 ((rd_T52 l0 x3_1).f1)) ∧ w'.cell? ⟨(ad149.add ((x3_1).toNat * 4)).block, (ad149.add ((x3_1).toNat * 4)).off + 2, none⟩ = some (.string ((rd_T52 l0 x3_1).f2)) ∧ w'.cell? ⟨(ad149.add ((x3_1).toNat * 4)).block, (ad149.add ((x3_1).toNat * 4)).off + 3, none⟩ = some (.slice A152_3 ((rd_T52 l0 x3_1).f3).length c152_3)) (ds := []) #[false, false, false, false, false, false, false, false, false, false, false, false, false, false, false, false, false, false, false, false, false, false, false, false] (by kernel_rfl) rfl rfl ⟨(bc HB.out hw149_0), (bc HB.out hw149_1), (bc HB.out hw149_2), (bc HB.out hw149_3), (bc HB.out hw151_0), (bc HB.out hw151_1), (bc HB.out hw151_2), (bc HB.out hw151_3), (bc HB.out hw152_0), (bc HB.out hw152_1), (bc HB.out hw152_2), (bc HB.out hw152_3)⟩ (fun hHeld => ?_); refine with_tabW stowageref14_May.tab4 stowageref14_May.bits4 (fun HT_ HW_ => ?_)
          generalize wr.drew = w13 at HB HR149_3 HR151_3 HR152_3 hx149_0 hx149_1 hx149_2 hx149_3 hx151_0 hx151_1 hx151_2 hx151_3 hx152_0 hx152_1 hx152_2 hx152_3 hHeld ⊢
          refine pu 0 (some 10) HT_.out ?_
          refine pu 1 (some 11) HT_.out ?_
          refine pu 2 (some 12) HT_.out ?_
          refine tk 3 (some 13) HT_.out HW_.out hHeld ?_
          refine one_ (i := 4) (N := some 14) #[true, true, true, true, true, false, false, false, false, false, false, false, false, false, false, false, false, false, false, false, false, false, false, false] rfl rfl (one_of HT_.out (by kernel_rfl)) (by decide) (fun K hK => ?_)
          refine goes_ Tryd.func20 (by kernel_rfl) rfl #[.agg #[.int .i64 ((rd_T52 l0 x3_1).f0), .int .i64 ((rd_T52 l0 x3_1).f1), .string ((rd_T52 l0 x3_1).f2), .slice A149_3 ((rd_T52 l0 x3_1).f3).length c149_3]] (by rfl) rfl rfl gl ?_
          with_reducible refine (stowageref14_Check.calls k1 ((rd_T52 l0 x3_1).f0) ((rd_T52 l0 x3_1).f1) ((rd_T52 l0 x3_1).f2) _ _ ((rd_T52 l0 x3_1).f3) t150 _ ?side1 ?side2 A4.out).mono ?_
          (case side1 => exact kC (Kd.C_below HR149_3.out HB.out))
          (case side2 => exact HC149_3.out)
          rintro e w14 ⟨rfl, hb⟩
          refine ⟨_, rfl, ?_⟩
          replace HB := Aside0.mk (below_step (bw HB.out) hb)
          (try clear hb)
          (try clear hb2)
          (try clear hk)
          (try clear hi)
          refine hK.out _ _ ⟨(bc HB.out hw149_0), (bc HB.out hw149_1), (bc HB.out hw149_2), (bc HB.out hw149_3), (bc HB.out hw151_0), (bc HB.out hw151_1), (bc HB.out hw151_2), (bc HB.out hw151_3), (bc HB.out hw152_0), (bc HB.out hw152_1), (bc HB.out hw152_2), (bc HB.out hw152_3)⟩ (fun hHeld => ?_)
          clear hK K
          refine norm_ (a' := ?_) ?_ ?_
          rotate_left
          ·
           show Act.put _ (some 14) _ = _
           simp only [Act.put, List.setIfInBounds_toArray, List.set_cons_zero, List.set_cons_succ, i64_w, i32_w]
           rfl
          refine pu 5 (some 15) HT_.out ?_
          refine pu 6 (some 16) HT_.out ?_
          refine pu 7 (some 17) HT_.out ?_
          refine pu 8 (some 18) HT_.out ?_
          refine pu 9 (some 19) HT_.out ?_
          refine pu 10 (some 20) HT_.out ?_
          refine pu 11 (some 21) HT_.out ?_
          refine pu 12 (some 22) HT_.out ?_
          refine pu 13 (some 23) HT_.out ?_
          refine pu 14 (some 24) HT_.out ?_
          refine pu 16 (some 26) HT_.out ?_
          refine pu 17 (some 27) HT_.out ?_
          refine pu 18 (some 28) HT_.out ?_
          refine pu 19 (some 29) HT_.out ?_
          refine tk 15 (some 25) HT_.out HW_.out hHeld ?_
          refine tk 20 (some 30) HT_.out HW_.out hHeld ?_
          refine pu 21 (some 31) HT_.out ?_
          refine pu 22 (some 32) HT_.out ?_
          refine pu 23 (some 33) HT_.out ?_
          refine done_ (done_of HT_.out (by kernel_rfl)) ?_
          try go_wp2
          go_roundg k1
          case measure => have := HK1.out; omega
          case rel => exact ⟨(wrap64 (x3_1 + 1)), (by first | rfl | (simp; done) | (simp [*]; done)), H', ⟨by have := HK1.out; omega⟩, ⟨bw HB.out⟩⟩
        ·
         rw [if_neg c9] at H
         exact absurd H (by simp)
       ·
        rw [if_neg c8] at H
        exact absurd H (by simp)
      ·
       rw [if_neg c6] at H
       have c6b0 : decide (0 < x3_1) = false := decide_eq_false c6
       clear c6
       have H' := Aside0.mk H
       clear H
       try go_wp2
       replace HB := Aside0.mk (below_drew1 HB.out)
       have p149 : 0 ≤ (x3_1 : Int) := of_decide_eq_true asm
       have q149 : x3_1 < (l0.length : Int) := of_decide_eq_true asm
       obtain ⟨ad149, A149_3, c149_3, e149, hx149_0, hx149_1, hx149_2, hx149_3, hl149_3, hi149_3⟩ := at_T52 HR0.out x3_1 p149 q149
       have hw149_3 := hx149_3
       have hw149_2 := hx149_2
       have hw149_1 := hx149_1
       have hw149_0 := hx149_0
       cases e149
       replace hx149_0 := bc HB.out hx149_0
       replace hx149_1 := bc HB.out hx149_1
       replace hx149_2 := bc HB.out hx149_2
       replace hx149_3 := bc HB.out hx149_3
       have HR149_3 := Aside0.mk hi149_3
       have HC149_3 := Aside0.mk hl149_3
       clear hi149_3 hl149_3
       replace p149 := eq_true p149
       replace q149 := eq_true q149
       refine start_ (n := 24) (S := fun w' => w'.cell? (ad149.add ((x3_1).toNat * 4)) = some (.int .i64 ((rd_T52 l0 x3_1).f0)) ∧ w'.cell? ⟨(ad149.add ((x3_1).toNat * 4)).block, (ad149.add ((x3_1).toNat * 4)).off + 1, none⟩ = some (.int .i64 ((rd_T52 l0 x3_1).f1)) ∧ w'.cell? ⟨(ad149.add ((x3_1).toNat * 4)).block, (ad149.add ((x3_1).toNat * 4)).off + 2, none⟩ = some (.string ((rd_T52 l0 x3_1).f2)) ∧ w'.cell? ⟨(ad149.add ((x3_1).toNat * 4)).block, (ad149.add ((x3_1).toNat * 4)).off + 3, none⟩ = some (.slice A149_3 ((rd_T52 l0 x3_1).f3).length c149_3)) (ds := []) #[false, false, false, false, false, false, false, false, false, false, false, false, false, false, false, false, false, false, false, false, false, false, false, false] (by kernel_rfl) rfl rfl ⟨(bc HB.out hw149_0), (bc HB.out hw149_1), (bc HB.out hw149_2), (bc HB.out hw149_3)⟩ (fun hHeld => ?_); refine with_tabW stowageref14_May.tab4 stowageref14_May.bits4 (fun HT_ HW_ => ?_)
       generalize wr.drew = w15 at HB HR149_3 hx149_0 hx149_1 hx149_2 hx149_3 hHeld ⊢
       refine pu 0 (some 10) HT_.out ?_
       refine pu 1 (some 11) HT_.out ?_
       refine pu 2 (some 12) HT_.out ?_
       refine tk 3 (some 13) HT_.out HW_.out hHeld ?_
       refine one_ (i := 4) (N := some 14) #[true, true, true, true, true, false, false, false, false, false, false, false, false, false, false, false, false, false, false, false, false, false, false, false] rfl rfl (one_of HT_.out (by kernel_rfl)) (by decide) (fun K hK => ?_)
       refine goes_ Tryd.func20 (by kernel_rfl) rfl #[.agg #[.int .i64 ((rd_T52 l0 x3_1).f0), .int .i64 ((rd_T52 l0 x3_1).f1), .string ((rd_T52 l0 x3_1).f2), .slice A149_3 ((rd_T52 l0 x3_1).f3).length c149_3]] (by rfl) rfl rfl gl ?_
       with_reducible refine (stowageref14_Check.calls k1 ((rd_T52 l0 x3_1).f0) ((rd_T52 l0 x3_1).f1) ((rd_T52 l0 x3_1).f2) _ _ ((rd_T52 l0 x3_1).f3) t150 _ ?side1 ?side2 A4.out).mono ?_
       (case side1 => exact kC (Kd.C_below HR149_3.out HB.out))
       (case side2 => exact HC149_3.out)
       rintro e w16 ⟨rfl, hb⟩
       refine ⟨_, rfl, ?_⟩
       replace HB := Aside0.mk (below_step (bw HB.out) hb)
       (try clear hb)
       (try clear hb2)
       (try clear hk)
       (try clear hi)
       refine hK.out _ _ ⟨(bc HB.out hw149_0), (bc HB.out hw149_1), (bc HB.out hw149_2), (bc HB.out hw149_3)⟩ (fun hHeld => ?_)
       clear hK K
       refine norm_ (a' := ?_) ?_ ?_
       rotate_left
       ·
        show Act.put _ (some 14) _ = _
        simp only [Act.put, List.setIfInBounds_toArray, List.set_cons_zero, List.set_cons_succ, i64_w, i32_w]
        rfl
       refine pu 5 (some 15) HT_.out ?_
       refine pu 6 (some 16) HT_.out ?_
       refine pu 7 (some 17) HT_.out ?_
       refine pu 8 (some 18) HT_.out ?_
       refine pu 9 (some 19) HT_.out ?_
       refine un 10 (some 20) HT_.out ?_
       refine un 11 (some 21) HT_.out ?_
       refine un 12 (some 22) HT_.out ?_
       refine un 13 (some 23) HT_.out ?_
       refine un 14 (some 24) HT_.out ?_
       refine un 15 (some 25) HT_.out ?_
       refine un 16 (some 26) HT_.out ?_
       refine un 17 (some 27) HT_.out ?_
       refine un 18 (some 28) HT_.out ?_
       refine un 19 (some 29) HT_.out ?_
       refine un 20 (some 30) HT_.out ?_
       refine un 21 (some 31) HT_.out ?_
       refine pu 22 (some 32) HT_.out ?_
       refine pu 23 (some 33) HT_.out ?_
       refine done_ (done_of HT_.out (by kernel_rfl)) ?_
       try go_wp2
       go_roundg k1
       case measure => have := HK1.out; omega
       case rel => exact ⟨(wrap64 (x3_1 + 1)), (by first | rfl | (simp; done) | (simp [*]; done)), H', ⟨by have := HK1.out; omega⟩, ⟨bw HB.out⟩⟩
     ·
      rw [if_neg c5] at H
      have c5b0 : (t150 == 0) = false := beq_eq_false_iff_ne.mpr c5
      have c5b1 : (t150 != 0) = true := bne_iff_ne.mpr c5
      obtain rfl := Option.some.inj H
      try go_wp2
      replace HB := Aside0.mk (below_drew1 HB.out)
      have p149 : 0 ≤ (x3_1 : Int) := of_decide_eq_true asm
      have q149 : x3_1 < (l0.length : Int) := of_decide_eq_true asm
      obtain ⟨ad149, A149_3, c149_3, e149, hx149_0, hx149_1, hx149_2, hx149_3, hl149_3, hi149_3⟩ := at_T52 HR0.out x3_1 p149 q149
      have hw149_3 := hx149_3
      have hw149_2 := hx149_2
      have hw149_1 := hx149_1
      have hw149_0 := hx149_0
      cases e149
      replace hx149_0 := bc HB.out hx149_0
      replace hx149_1 := bc HB.out hx149_1
      replace hx149_2 := bc HB.out hx149_2
      replace hx149_3 := bc HB.out hx149_3
      have HR149_3 := Aside0.mk hi149_3
      have HC149_3 := Aside0.mk hl149_3
      clear hi149_3 hl149_3
      replace p149 := eq_true p149
      replace q149 := eq_true q149
      refine start_ (n := 24) (S := fun w' => w'.cell? (ad149.add ((x3_1).toNat * 4)) = some (.int .i64 ((rd_T52 l0 x3_1).f0)) ∧ w'.cell? ⟨(ad149.add ((x3_1).toNat * 4)).block, (ad149.add ((x3_1).toNat * 4)).off + 1, none⟩ = some (.int .i64 ((rd_T52 l0 x3_1).f1)) ∧ w'.cell? ⟨(ad149.add ((x3_1).toNat * 4)).block, (ad149.add ((x3_1).toNat * 4)).off + 2, none⟩ = some (.string ((rd_T52 l0 x3_1).f2)) ∧ w'.cell? ⟨(ad149.add ((x3_1).toNat * 4)).block, (ad149.add ((x3_1).toNat * 4)).off + 3, none⟩ = some (.slice A149_3 ((rd_T52 l0 x3_1).f3).length c149_3)) (ds := []) #[false, false, false, false, false, false, false, false, false, false, false, false, false, false, false, false, false, false, false, false, false, false, false, false] (by kernel_rfl) rfl rfl ⟨(bc HB.out hw149_0), (bc HB.out hw149_1), (bc HB.out hw149_2), (bc HB.out hw149_3)⟩ (fun hHeld => ?_); refine with_tabW stowageref14_May.tab4 stowageref14_May.bits4 (fun HT_ HW_ => ?_)
      generalize wr.drew = w17 at HB HR149_3 hx149_0 hx149_1 hx149_2 hx149_3 hHeld ⊢
      refine pu 0 (some 10) HT_.out ?_
      refine pu 1 (some 11) HT_.out ?_
      refine pu 2 (some 12) HT_.out ?_
      refine tk 3 (some 13) HT_.out HW_.out hHeld ?_
      refine one_ (i := 4) (N := some 14) #[true, true, true, true, true, false, false, false, false, false, false, false, false, false, false, false, false, false, false, false, false, false, false, false] rfl rfl (one_of HT_.out (by kernel_rfl)) (by decide) (fun K hK => ?_)
      refine goes_ Tryd.func20 (by kernel_rfl) rfl #[.agg #[.int .i64 ((rd_T52 l0 x3_1).f0), .int .i64 ((rd_T52 l0 x3_1).f1), .string ((rd_T52 l0 x3_1).f2), .slice A149_3 ((rd_T52 l0 x3_1).f3).length c149_3]] (by rfl) rfl rfl gl ?_
      with_reducible refine (stowageref14_Check.calls k1 ((rd_T52 l0 x3_1).f0) ((rd_T52 l0 x3_1).f1) ((rd_T52 l0 x3_1).f2) _ _ ((rd_T52 l0 x3_1).f3) t150 _ ?side1 ?side2 A4.out).mono ?_
      (case side1 => exact kC (Kd.C_below HR149_3.out HB.out))
      (case side2 => exact HC149_3.out)
      rintro e w18 ⟨rfl, hb⟩
      refine ⟨_, rfl, ?_⟩
      replace HB := Aside0.mk (below_step (bw HB.out) hb)
      (try clear hb)
      (try clear hb2)
      (try clear hk)
      (try clear hi)
      refine hK.out _ _ ⟨(bc HB.out hw149_0), (bc HB.out hw149_1), (bc HB.out hw149_2), (bc HB.out hw149_3)⟩ (fun hHeld => ?_)
      clear hK K
      refine norm_ (a' := ?_) ?_ ?_
      rotate_left
      ·
       show Act.put _ (some 14) _ = _
       simp only [Act.put, List.setIfInBounds_toArray, List.set_cons_zero, List.set_cons_succ, i64_w, i32_w]
       rfl
      refine pu 5 (some 15) HT_.out ?_
      refine pu 6 (some 16) HT_.out ?_
      refine un 7 (some 17) HT_.out ?_
      refine un 8 (some 18) HT_.out ?_
      refine un 9 (some 19) HT_.out ?_
      refine un 10 (some 20) HT_.out ?_
      refine un 11 (some 21) HT_.out ?_
      refine un 12 (some 22) HT_.out ?_
      refine un 13 (some 23) HT_.out ?_
      refine un 14 (some 24) HT_.out ?_
      refine un 15 (some 25) HT_.out ?_
      refine un 16 (some 26) HT_.out ?_
      refine un 17 (some 27) HT_.out ?_
      refine un 18 (some 28) HT_.out ?_
      refine un 19 (some 29) HT_.out ?_
      refine un 20 (some 30) HT_.out ?_
      refine un 21 (some 31) HT_.out ?_
      refine un 22 (some 32) HT_.out ?_
      refine pu 23 (some 33) HT_.out ?_
      refine done_ (done_of HT_.out (by kernel_rfl)) ?_
      try go_wp2
      go_ret
      exact ⟨by first | rfl | (simp [errW_none, errW_some] <;> rfl) | (simp [*, errW_none, errW_some] <;> rfl), by repeat (first | (with_reducible first | exact HB.out | apply below_alloc | apply pw_below_drewN | apply below_drew1) | exact HB.out)⟩
    ·
     rw [if_neg c3] at H
     exact absurd H (by simp)
   ·
    rw [if_neg c2] at H
    have c2b0 : decide (x3_1 < (l0.length : Int)) = false := decide_eq_false c2
    clear c2
    obtain rfl := Option.some.inj H
    go_wp2
    go_ret
    exact ⟨by first | rfl | (simp [errW_none, errW_some] <;> rfl) | (simp [*, errW_none, errW_some] <;> rfl), by repeat (first | (with_reducible first | exact HB.out | apply below_alloc | apply pw_below_drewN | apply below_drew1) | exact HB.out)⟩

end Go.Proofs.YtoiockmmlanimaaDoor.Oj
end
section
-- Written for this claim by hyb.py, a driver of this session's over the kit's printer.
namespace Go.Proofs.YtoiockmmlanimaaDoor.Oj
open Go.RowKit Go.Proofs.YtoiockmmlanimaaDoorW.PrintWords Go.Proofs.YtoiockmmlanimaaDoorW.PrintLast Go.Proofs.YtoiockmmlanimaaDoorW.PrintMore
attribute [local go_sem] max2_int min2_int max_two min_two max_three min_three max_four min_four   -- for this text's walks alone
set_option linter.unusedVariables false
set_option linter.unusedSimpArgs false

/-! ### stowageref14_at: function 34 -/
def stowageref14_at.l0 : Nat → List (S52) → Int → Int → ByteArray → Option (Int)
 | 0, _, _, _, _ => none
 | k + 1, x0, x5, x154000, x154001 => if x5 < (x0.length : Int) then (if 0 ≤ x5 then (if ((rd_T52 x0 x5).f0) = x154000 then (if ((rd_T52 x0 x5).f2).toList = x154001.toList then (some x5) else (stowageref14_at.l0 k x0 (wrap64 (x5 + 1)) x154000 x154001)) else (stowageref14_at.l0 k x0 (wrap64 (x5 + 1)) x154000 x154001)) else (none)) else (some (-1))
def stowageref14_at.f (k : Nat) (l0 : List (S52)) (a1_0 : Int) (a1_1 : ByteArray) : Option (Int) := stowageref14_at.l0 k l0 0 a1_0 a1_1
theorem stowageref14_at.mono_l : ∀ k, (∀ y0 y1 y2 y3, LeO (stowageref14_at.l0 k y0 y1 y2 y3) (stowageref14_at.l0 (k + 1) y0 y1 y2 y3))
 | 0 => fun _ _ _ _ r h => by simp [stowageref14_at.l0] at h
 | k + 1 => by
  have ih0 := stowageref14_at.mono_l k
  ·
   intro y0 y1 y2 y3
   unfold stowageref14_at.l0
   repeat' first
   | (with_reducible exact ih0 _ _ _ _)
   | (with_reducible exact LeO.refl _)
   | (with_reducible exact LeO.none _)
   | (with_reducible refine LeO.ite ?_ ?_)
   | (with_reducible refine LeO.bind ?_ (fun _ => ?_))
   | exact ih0 _ _ _ _
   | exact LeO.none _
   | refine LeO.ite ?_ ?_
   | refine LeO.bind ?_ (fun _ => ?_)
theorem stowageref14_at.mono : ∀ a0 a1 a2 k, LeO (stowageref14_at.f k a0 a1 a2) (stowageref14_at.f (k + 1) a0 a1 a2) := by
 intro a0 a1 a2 k
 have ih0 := stowageref14_at.mono_l k
 unfold stowageref14_at.f
 repeat' first
   | (with_reducible exact ih0 _ _ _ _)
   | (with_reducible exact LeO.refl _)
   | (with_reducible exact LeO.none _)
   | (with_reducible refine LeO.ite ?_ ?_)
   | (with_reducible refine LeO.bind ?_ (fun _ => ?_))
   | exact ih0 _ _ _ _
   | exact LeO.none _
   | refine LeO.ite ?_ ?_
   | refine LeO.bind ?_ (fun _ => ?_)
set_option maxHeartbeats 8000000 in
set_option maxRecDepth 100000 in
theorem stowageref14_at.calls (k : Nat) (A0 : Option Addr) (c0 : Nat) (l0 : List (S52)) (a1_0 : Int) (a1_1 : ByteArray) (r : Int) (w : World) (hr0 : Kd.C k52 w A0 l0.length l0) (hc0 : l0.length ≤ c0) (h : stowageref14_at.f k l0 a1_0 a1_1 = some r) :
  Calls Tryd.prog 34 #[.slice A0 l0.length c0, .agg #[.int .i64 a1_0, .string a1_1]] w fun e w' => e = .returned (.int .i64 r) ∧ Below w.heap.size w w' := by
 have hu79 := Tryd.underlying79
 have HR0 := Aside0.mk hr0
 have HC0 := Aside0.mk hc0
 clear hr0 hc0
 have HB := Aside0.mk (Below.refl w.heap.size w)
 have H : (stowageref14_at.l0 k l0 0 a1_0 a1_1) = some r := h
 clear h
 have H' := Aside0.mk H
 clear H
 go_enter Tryd.func34, Tryd.ntmps34
 go_wp2_with (first | ((with_reducible refine gate_dst (N := 3) rfl ?_); refine box_event ?hg (N := 3) ?hd (cs := #[.int .i64 a1_0, .string a1_1]) (t := 79) ?hr ?_; (case hd => rfl); (case hg => rfl); (case hr => first | (go_simp; done) | (go_simp; rfl)); intro gb153 hg w3 hbox hb; have n0_ := Aside0.mk (below_step (bw HB.out) hb); have n1_ := Aside0.mk (hbox); have n2_ := Aside0.mk ((by rw [hg]; exact (below_size (bw HB.out)) : w.heap.size ≤ gb153)); have n3_ := Aside0.mk ((by rw [hg]; exact (below_size (bw HB.out)) : w.heap.size ≤ gb153)); clear HB; have HB := n0_; have BK153 := n1_; have GW153 := n2_; have GE153 := n3_; clear n0_ n1_ n2_ n3_; clear hb hbox hg))
 repeat (go_quiet (first | ((with_reducible refine gate_dst (N := 3) rfl ?_); refine box_event ?hg (N := 3) ?hd (cs := #[.int .i64 a1_0, .string a1_1]) (t := 79) ?hr ?_; (case hd => rfl); (case hg => rfl); (case hr => first | (go_simp; done) | (go_simp; rfl)); intro gb153 hg w3 hbox hb; have n0_ := Aside0.mk (below_step (bw HB.out) hb); have n1_ := Aside0.mk (hbox); have n2_ := Aside0.mk ((by rw [hg]; exact (below_size (bw HB.out)) : w.heap.size ≤ gb153)); have n3_ := Aside0.mk ((by rw [hg]; exact (below_size (bw HB.out)) : w.heap.size ≤ gb153)); clear HB; have HB := n0_; have BK153 := n1_; have GW153 := n2_; have GE153 := n3_; clear n0_ n1_ n2_ n3_; clear hb hbox hg)); try go_wp2_with (first | ((with_reducible refine gate_dst (N := 3) rfl ?_); refine box_event ?hg (N := 3) ?hd (cs := #[.int .i64 a1_0, .string a1_1]) (t := 79) ?hr ?_; (case hd => rfl); (case hg => rfl); (case hr => first | (go_simp; done) | (go_simp; rfl)); intro gb153 hg w3 hbox hb; have n0_ := Aside0.mk (below_step (bw HB.out) hb); have n1_ := Aside0.mk (hbox); have n2_ := Aside0.mk ((by rw [hg]; exact (below_size (bw HB.out)) : w.heap.size ≤ gb153)); have n3_ := Aside0.mk ((by rw [hg]; exact (below_size (bw HB.out)) : w.heap.size ≤ gb153)); clear HB; have HB := n0_; have BK153 := n1_; have GW153 := n2_; have GE153 := n3_; clear n0_ n1_ n2_ n3_; clear hb hbox hg)))
 go_loopg [5] k (fun kq v5 w' => ∃ (x5_1 : Int), v5 = .int .i64 x5_1 ∧ Aside0 (stowageref14_at.l0 kq l0 x5_1 a1_0 a1_1 = some r) ∧ Aside0 (kq ≤ k) ∧ Aside0 (w'.heap[gb153]? = some (.cells #[.int .i64 a1_0, .string a1_1] 79 (0, 0))) ∧ Aside0 (Below w.heap.size w w'))
 case atStart => exact ⟨(0), (by first | rfl | (simp; done) | (simp [*]; done)), H', ⟨Nat.le_refl _⟩, ⟨bk BK153.out⟩, ⟨bws HB.out⟩⟩
 case round =>
  clear H'
  try clear p2
  try clear c3
  obtain ⟨x5_1, rfl, HA, HK1, BK153, HB⟩ := hrel
  cases gk with
  | zero => exact absurd HA.out (by simp [stowageref14_at.l0])
  | succ k1 =>
   have H := HA.out
   clear HA
   simp only [stowageref14_at.l0] at H
   by_cases c4 : x5_1 < (l0.length : Int)
   ·
    rw [if_pos c4] at H
    have c4b0 : decide (x5_1 < (l0.length : Int)) = true := decide_eq_true c4
    clear c4
    by_cases c5 : 0 ≤ x5_1
    ·
     rw [if_pos c5] at H
     have c5b0 : decide (0 ≤ x5_1) = true := decide_eq_true c5
     clear c5
     by_cases c6 : ((rd_T52 l0 x5_1).f0) = a1_0
     ·
      rw [if_pos c6] at H
      have c6b0 : (((rd_T52 l0 x5_1).f0) == a1_0) = true := beq_iff_eq.mpr c6
      have c6b1 : (((rd_T52 l0 x5_1).f0) != a1_0) = false := bne_eq_false_iff_eq.mpr c6
      clear c6
      by_cases c7 : ((rd_T52 l0 x5_1).f2).toList = a1_1.toList
      ·
       rw [if_pos c7] at H
       have c7b0 : (((rd_T52 l0 x5_1).f2).toList == a1_1.toList) = true := beq_iff_eq.mpr c7
       have c7b1 : (((rd_T52 l0 x5_1).f2).toList != a1_1.toList) = false := bne_eq_false_iff_eq.mpr c7
       clear c7
       obtain rfl := Option.some.inj H
       have p154 : 0 ≤ (x5_1 : Int) := of_decide_eq_true asm
       have q154 : x5_1 < (l0.length : Int) := of_decide_eq_true asm
       obtain ⟨ad154, A154_3, c154_3, e154, hx154_0, hx154_1, hx154_2, hx154_3, hl154_3, hi154_3⟩ := at_T52 HR0.out x5_1 p154 q154
       cases e154
       replace hx154_0 := bc HB.out hx154_0
       replace hx154_1 := bc HB.out hx154_1
       replace hx154_2 := bc HB.out hx154_2
       replace hx154_3 := bc HB.out hx154_3
       have HR154_3 := Aside0.mk hi154_3
       have HC154_3 := Aside0.mk hl154_3
       clear hi154_3 hl154_3
       replace p154 := eq_true p154
       replace q154 := eq_true q154
       obtain ⟨hcz8_0, hcz8_1, hfz8_0, hfz8_1⟩ := cz2 BK153.out
       have p155 : 0 ≤ (x5_1 : Int) := of_decide_eq_true asm
       have q155 : x5_1 < (l0.length : Int) := of_decide_eq_true asm
       obtain ⟨ad155, A155_3, c155_3, e155, hx155_0, hx155_1, hx155_2, hx155_3, hl155_3, hi155_3⟩ := at_T52 HR0.out x5_1 p155 q155
       obtain rfl : ad154 = ad155 := (by injection e155)
       replace hx155_0 := bc HB.out hx155_0
       replace hx155_1 := bc HB.out hx155_1
       replace hx155_2 := bc HB.out hx155_2
       replace hx155_3 := bc HB.out hx155_3
       have HR155_3 := Aside0.mk hi155_3
       have HC155_3 := Aside0.mk hl155_3
       clear hi155_3 hl155_3
       replace p155 := eq_true p155
       replace q155 := eq_true q155
       have ea_ := Option.some.inj (hx154_3.symm.trans hx155_3)
       injection ea_ with ea_ en_ ec_
       subst ea_
       subst ec_
       clear en_
       go_wp2
       repeat (go_quiet (fail); try go_wp2)
       go_ret
       exact ⟨by first | rfl | (simp [errW_none, errW_some] <;> rfl) | (simp [*, errW_none, errW_some] <;> rfl), by repeat (first | (with_reducible first | exact HB.out | apply below_alloc | apply pw_below_drewN | apply below_drew1 | refine below_set ?_ GE153.out) | exact HB.out)⟩
      ·
       rw [if_neg c7] at H
       have c7b0 : (((rd_T52 l0 x5_1).f2).toList == a1_1.toList) = false := beq_eq_false_iff_ne.mpr c7
       have c7b1 : (((rd_T52 l0 x5_1).f2).toList != a1_1.toList) = true := bne_iff_ne.mpr c7
       have H' := Aside0.mk H
       clear H
       have p154 : 0 ≤ (x5_1 : Int) := of_decide_eq_true asm
       have q154 : x5_1 < (l0.length : Int) := of_decide_eq_true asm
       obtain ⟨ad154, A154_3, c154_3, e154, hx154_0, hx154_1, hx154_2, hx154_3, hl154_3, hi154_3⟩ := at_T52 HR0.out x5_1 p154 q154
       cases e154
       replace hx154_0 := bc HB.out hx154_0
       replace hx154_1 := bc HB.out hx154_1
       replace hx154_2 := bc HB.out hx154_2
       replace hx154_3 := bc HB.out hx154_3
       have HR154_3 := Aside0.mk hi154_3
       have HC154_3 := Aside0.mk hl154_3
       clear hi154_3 hl154_3
       replace p154 := eq_true p154
       replace q154 := eq_true q154
       obtain ⟨hcz9_0, hcz9_1, hfz9_0, hfz9_1⟩ := cz2 BK153.out
       have p155 : 0 ≤ (x5_1 : Int) := of_decide_eq_true asm
       have q155 : x5_1 < (l0.length : Int) := of_decide_eq_true asm
       obtain ⟨ad155, A155_3, c155_3, e155, hx155_0, hx155_1, hx155_2, hx155_3, hl155_3, hi155_3⟩ := at_T52 HR0.out x5_1 p155 q155
       obtain rfl : ad154 = ad155 := (by injection e155)
       replace hx155_0 := bc HB.out hx155_0
       replace hx155_1 := bc HB.out hx155_1
       replace hx155_2 := bc HB.out hx155_2
       replace hx155_3 := bc HB.out hx155_3
       have HR155_3 := Aside0.mk hi155_3
       have HC155_3 := Aside0.mk hl155_3
       clear hi155_3 hl155_3
       replace p155 := eq_true p155
       replace q155 := eq_true q155
       have ea_ := Option.some.inj (hx154_3.symm.trans hx155_3)
       injection ea_ with ea_ en_ ec_
       subst ea_
       subst ec_
       clear en_
       go_wp2
       repeat (go_quiet (fail); try go_wp2)
       go_roundg k1
       case measure => have := HK1.out; omega
       case rel => exact ⟨(wrap64 (x5_1 + 1)), (by first | rfl | (simp; done) | (simp [*]; done)), H', ⟨by have := HK1.out; omega⟩, ⟨bk BK153.out⟩, ⟨bws HB.out⟩⟩
     ·
      rw [if_neg c6] at H
      have c6b0 : (((rd_T52 l0 x5_1).f0) == a1_0) = false := beq_eq_false_iff_ne.mpr c6
      have c6b1 : (((rd_T52 l0 x5_1).f0) != a1_0) = true := bne_iff_ne.mpr c6
      have H' := Aside0.mk H
      clear H
      have p154 : 0 ≤ (x5_1 : Int) := of_decide_eq_true asm
      have q154 : x5_1 < (l0.length : Int) := of_decide_eq_true asm
      obtain ⟨ad154, A154_3, c154_3, e154, hx154_0, hx154_1, hx154_2, hx154_3, hl154_3, hi154_3⟩ := at_T52 HR0.out x5_1 p154 q154
      cases e154
      replace hx154_0 := bc HB.out hx154_0
      replace hx154_1 := bc HB.out hx154_1
      replace hx154_2 := bc HB.out hx154_2
      replace hx154_3 := bc HB.out hx154_3
      have HR154_3 := Aside0.mk hi154_3
      have HC154_3 := Aside0.mk hl154_3
      clear hi154_3 hl154_3
      replace p154 := eq_true p154
      replace q154 := eq_true q154
      obtain ⟨hcz10_0, hcz10_1, hfz10_0, hfz10_1⟩ := cz2 BK153.out
      go_wp2
      repeat (go_quiet (fail); try go_wp2)
      go_roundg k1
      case measure => have := HK1.out; omega
      case rel => exact ⟨(wrap64 (x5_1 + 1)), (by first | rfl | (simp; done) | (simp [*]; done)), H', ⟨by have := HK1.out; omega⟩, ⟨bk BK153.out⟩, ⟨bws HB.out⟩⟩
    ·
     rw [if_neg c5] at H
     exact absurd H (by simp)
   ·
    rw [if_neg c4] at H
    have c4b0 : decide (x5_1 < (l0.length : Int)) = false := decide_eq_false c4
    clear c4
    obtain rfl := Option.some.inj H
    go_wp2
    repeat (go_quiet (fail); try go_wp2)
    go_ret
    exact ⟨by first | rfl | (simp [errW_none, errW_some] <;> rfl) | (simp [*, errW_none, errW_some] <;> rfl), by repeat (first | (with_reducible first | exact HB.out | apply below_alloc | apply pw_below_drewN | apply below_drew1 | refine below_set ?_ GE153.out) | exact HB.out)⟩

/-! ### stowageref03_Hex: function 35 -/
mutual
def stowageref03_Hex.l0 : Nat → ByteArray → List Int → Int → Option (ByteArray)
 | 0, _, _, _ => none
 | k + 1, x0, x3, x4 => if x4 < (x0.size : Int) then (if 0 ≤ x4 then ((some (([(Int.tdiv (bt x0 x4) 16) % 256, Int.tmod (bt x0 x4) 16] : List Int) : List Int)).bind fun y156 => (stowageref03_Hex.l1 k x0 x3 x4 y156 (y156.length : Int) 0)) else (none)) else (some (strOfNums x3))
def stowageref03_Hex.l1 : Nat → ByteArray → List Int → Int → List Int → Int → Int → Option (ByteArray)
 | 0, _, _, _, _, _, _ => none
 | k + 1, x0, x3, x4, x21, x22, x23 => if x23 < x22 then (if 0 ≤ x23 then (if x23 < (x21.length : Int) then (if (rd x21 x23) < 10 then (if x3.length < 140737488355328 then (stowageref03_Hex.l1 k x0 (x3 ++ [(48 + (rd x21 x23)) % 256]) x4 x21 x22 (wrap64 (x23 + 1))) else (none)) else (if x3.length < 140737488355328 then (stowageref03_Hex.l1 k x0 (x3 ++ [(87 + (rd x21 x23)) % 256]) x4 x21 x22 (wrap64 (x23 + 1))) else (none))) else (none)) else (none)) else (stowageref03_Hex.l0 k x0 x3 (wrap64 (x4 + 1)))
end
def stowageref03_Hex.f (k : Nat) (a0 : ByteArray) : Option (ByteArray) := stowageref03_Hex.l0 k a0 ([] : List Int) 0
theorem stowageref03_Hex.mono_l : ∀ k, (∀ y0 y1 y2, LeO (stowageref03_Hex.l0 k y0 y1 y2) (stowageref03_Hex.l0 (k + 1) y0 y1 y2)) ∧ (∀ y0 y1 y2 y3 y4 y5, LeO (stowageref03_Hex.l1 k y0 y1 y2 y3 y4 y5) (stowageref03_Hex.l1 (k + 1) y0 y1 y2 y3 y4 y5))
 | 0 => ⟨fun _ _ _ r h => by simp [stowageref03_Hex.l0] at h, fun _ _ _ _ _ _ r h => by simp [stowageref03_Hex.l1] at h⟩
 | k + 1 => by
  obtain ⟨ih0, ih1⟩ := stowageref03_Hex.mono_l k
  refine ⟨?_, ?_⟩
  all_goals intros
  all_goals first | unfold stowageref03_Hex.l0 | unfold stowageref03_Hex.l1
  all_goals repeat' first
  | (with_reducible exact ih0 _ _ _)
  | (with_reducible exact ih1 _ _ _ _ _ _)
  | (with_reducible exact LeO.refl _)
  | (with_reducible exact LeO.none _)
  | (with_reducible refine LeO.ite ?_ ?_)
  | (with_reducible refine LeO.bind ?_ (fun _ => ?_))
  | exact ih0 _ _ _
  | exact ih1 _ _ _ _ _ _
  | exact LeO.none _
  | refine LeO.ite ?_ ?_
  | refine LeO.bind ?_ (fun _ => ?_)
theorem stowageref03_Hex.mono : ∀ a0 k, LeO (stowageref03_Hex.f k a0) (stowageref03_Hex.f (k + 1) a0) := by
 intro a0 k
 obtain ⟨ih0, ih1⟩ := stowageref03_Hex.mono_l k
 unfold stowageref03_Hex.f
 repeat' first
   | (with_reducible exact ih0 _ _ _)
   | (with_reducible exact ih1 _ _ _ _ _ _)
   | (with_reducible exact LeO.refl _)
   | (with_reducible exact LeO.none _)
   | (with_reducible refine LeO.ite ?_ ?_)
   | (with_reducible refine LeO.bind ?_ (fun _ => ?_))
   | exact ih0 _ _ _
   | exact ih1 _ _ _ _ _ _
   | exact LeO.none _
   | refine LeO.ite ?_ ?_
   | refine LeO.bind ?_ (fun _ => ?_)
def stowageref03_Hex.T5 : Bool × List (List Nat × List Nat) := (true, [([], []), ([], []), ([0, 1], [0, 1]), ([2], [2]), ([], []), ([], []), ([4, 5], [4, 5]), ([6], [6]), ([3, 7], [3, 7]), ([8], [8]), ([], [])])
def stowageref03_Hex.B5 : List Nat := [0, 0, 3, 7, 0, 0, 48, 112, 255, 511, 0]
theorem stowageref03_Hex.tab5 : rtab .any (opsOf Tryd.f35 5) = stowageref03_Hex.T5 := by kernel_rfl
theorem stowageref03_Hex.bits5 : waitsOk stowageref03_Hex.T5.2 stowageref03_Hex.B5 = true := by kernel_rfl
set_option maxHeartbeats 8000000 in
set_option maxRecDepth 100000 in
theorem stowageref03_Hex.calls (k : Nat) (a0 : ByteArray) (r : ByteArray) (w : World) (h : stowageref03_Hex.f k a0 = some r) :
  Calls Tryd.prog 35 #[.string a0] w fun e w' => e = .returned (.string r) ∧ Below w.heap.size w w' := by
 have HB := Aside0.mk (Below.refl w.heap.size w)
 have H : (stowageref03_Hex.l0 k a0 ([] : List Int) 0) = some r := h
 clear h
 have H' := Aside0.mk H
 clear H
 go_enter Tryd.func35, Tryd.ntmps35
 go_wp2
 go_loopg [3, 4] k (fun kq v3 v4 w' => ∃ (x3_1 : List Int) (x4_1 : Int), v4 = .int .i64 x4_1 ∧ Aside0 (stowageref03_Hex.l0 kq a0 x3_1 x4_1 = some r) ∧ Aside0 (kq ≤ k) ∧ Aside0 (Kd.R (Kd.int .u8) 5 w' w.heap.size (fun _ => True) v3 x3_1) ∧ Aside0 (Below w.heap.size w w'))
 case atStart => exact ⟨(([] : List Int)), (0), (by first | rfl | (simp; done) | (simp [*]; done)), H', ⟨Nat.le_refl _⟩, ⟨by first | exact Kd.R_nil _ _ _ _ _ | exact Kd.N_nil _ _ _ _ _ | exact Kd.V_nil _ _ _ _ _ | exact Kd.Q_nil _ _ _ _ _ | exact Kd.S_nil _ _ _ _ _⟩, ⟨bw HB.out⟩⟩
 case round =>
  clear H'
  obtain ⟨x3_1, x4_1, rfl, HA, HK1, HO_3, HB⟩ := hrel
  cases gk with
  | zero => exact absurd HA.out (by simp [stowageref03_Hex.l0])
  | succ k1 =>
   have H := HA.out
   clear HA
   simp only [stowageref03_Hex.l0] at H
   by_cases c2 : x4_1 < (a0.size : Int)
   ·
    rw [if_pos c2] at H
    have c2b0 : decide (x4_1 < (a0.size : Int)) = true := decide_eq_true c2
    clear c2
    by_cases c3 : 0 ≤ x4_1
    ·
     rw [if_pos c3] at H
     have c3b0 : decide (0 ≤ x4_1) = true := decide_eq_true c3
     clear c3
     obtain ⟨y156, hy156⟩ : ∃ y_ : List Int, y_ = (([(Int.tdiv (bt a0 x4_1) 16) % 256, Int.tmod (bt a0 x4_1) 16] : List Int)) := ⟨_, rfl⟩
     replace H : (stowageref03_Hex.l1 k1 a0 x3_1 x4_1 y156 (y156.length : Int) 0) = some r := by first | (rw [hy156]; with_reducible exact H) | (have H2_ := (Option.bind_some _ _).symm.trans H; rw [hy156]; with_reducible exact H2_) | (have H2_ := (Option.bind_some _ _).symm.trans H; with_reducible exact H2_) | with_reducible exact H | (rw [hy156]; exact H) | exact H
     have Ny156 := Aside0.mk hy156
     clear hy156
     have H' := Aside0.mk H
     clear H
     try go_wp2
     replace HO_3 := Aside0.mk (Kd.R_drew HO_3.out)
     replace HB := Aside0.mk (below_drew1 HB.out)
     have p4 : 0 ≤ (x4_1 : Int) := of_decide_eq_true asm
     have q4 : x4_1 < (a0.size : Int) := of_decide_eq_true asm
     have hx4 := bt_at a0 x4_1
     replace p4 := eq_true p4
     replace q4 := eq_true q4
     have p5 : 0 ≤ (x4_1 : Int) := of_decide_eq_true asm
     have q5 : x4_1 < (a0.size : Int) := of_decide_eq_true asm
     have hx5 := bt_at a0 x4_1
     replace p5 := eq_true p5
     replace q5 := eq_true q5
     refine start_ (n := 11) (S := fun w' => True) (ds := []) #[false, false, false, false, false, false, false, false, false, false, false] (by kernel_rfl) rfl rfl trivial (fun hHeld => ?_); refine with_tabW stowageref03_Hex.tab5 stowageref03_Hex.bits5 (fun HT_ HW_ => ?_)
     generalize wr.drew = w6 at HO_3 HB hHeld ⊢
     refine pu 0 (some 13) HT_.out ?_
     refine pu 1 (some 14) HT_.out ?_
     refine pu 4 (some 17) HT_.out ?_
     refine pu 5 (some 18) HT_.out ?_
     refine pu 10 (some 23) HT_.out ?_
     refine tk 2 (some 15) HT_.out HW_.out hHeld ?_
     refine pu 3 (some 16) HT_.out ?_
     refine tk 6 (some 19) HT_.out HW_.out hHeld ?_
     refine pu 7 (some 20) HT_.out ?_
     refine one_ (i := 8) (N := some 21) #[true, true, true, true, true, true, true, true, true, false, true] rfl rfl (one_of HT_.out (by kernel_rfl)) (by decide) (fun K hK => ?_)
     refine Kd.R_lit_step (Kd.int .u8) _ 5 ?hg (N := 21) ?hd (xs := ([(Int.tdiv (bt a0 x4_1) 16) % 256, Int.tmod (bt a0 x4_1) 16] : List Int)) (inner := [.int .u8 ((Int.tdiv (bt a0 x4_1) 16) % 256), .int .u8 (Int.tmod (bt a0 x4_1) 16)]) (ok := fun _ => True) (okp := fun _ => True) ?hr ?hp (fun _ hk => hk) trivial (Below.refl _ _) (Nat.le_refl _) (by simp) ?_; (case hd => rfl); (case hg => rfl); (case hr => first | (go_simp; done) | (go_simp; rfl)); (case hp => exact (Reps.one (show Kd.M (Kd.int .u8) _ _ _ ((Int.tdiv (bt a0 x4_1) 16) % 256) [.int .u8 ((Int.tdiv (bt a0 x4_1) 16) % 256)] from rfl) (Reps.one (show Kd.M (Kd.int .u8) _ _ _ (Int.tmod (bt a0 x4_1) 16) [.int .u8 (Int.tmod (bt a0 x4_1) 16)] from rfl) (Reps.none _ _))))
     intro v157 w7 ho8 hb hg_ hnew_
     clear hg_ hnew_
     (first | rw [← Ny156.out] at ho8 | (simp only [Int.reduceToNat] at ho8; rw [← Ny156.out] at ho8))
     have n0_ := Aside0.mk (Kd.R_elder' (kR HO_3.out) (Kd.R_base ho8) hb)
     have n1_ := Aside0.mk (Kd.R_lower (Kd.R_new' ho8 (Kd.R_lt (kR HO_3.out))) (below_size (bw HB.out)))
     have n2_ := Aside0.mk (below_step (bw HB.out) hb)
     clear HO_3
     clear HB
     have HO_3 := n0_
     have HO158 := n1_
     have HB := n2_
     clear n0_ n1_ n2_
     clear hb ho8
     obtain ⟨Ao9, co9, eo9⟩ := Kd.R_slice HO158.out
     (first | subst eo9 | (injection eo9 with f1_ f2_ f3_; have f4_ := f1_.symm; have f5_ := f3_.symm; clear f1_ f2_ f3_; subst f4_; subst f5_))
     refine hK.out _ _ trivial (fun hHeld => ?_)
     clear hK K
     refine norm_ (a' := ?_) ?_ ?_
     rotate_left
     ·
      show Act.put _ (some 21) _ = _
      simp only [Act.put, List.setIfInBounds_toArray, List.set_cons_zero, List.set_cons_succ, i64_w, i32_w]
      rfl
     refine pu 9 (some 22) HT_.out ?_
     refine done_ (done_of HT_.out (by kernel_rfl)) ?_
     try go_wp2
     go_loopg [3, 23] k1 (fun kq v3 v23 w' => ∃ (x3_2 : List Int) (x23_2 : Int), v23 = .int .i64 x23_2 ∧ Aside0 (stowageref03_Hex.l1 kq a0 x3_2 x4_1 y156 (y156.length : Int) x23_2 = some r) ∧ Aside0 (kq ≤ k1) ∧ Aside0 (Kd.R (Kd.int .u8) 5 w' w.heap.size (fun k_ => some k_ ≠ ((.slice Ao9 y156.length co9) : Value).ownBlock) v3 x3_2) ∧ Aside0 (Kd.R (Kd.int .u8) 5 w' w.heap.size (fun k_ => some k_ ≠ (v3 : Value).ownBlock) (.slice Ao9 y156.length co9) y156) ∧ Aside0 (Below w.heap.size w w'))
     case atStart => exact ⟨(x3_1), (0), (by first | rfl | (simp; done) | (simp [*]; done)), H', ⟨Nat.le_refl _⟩, ⟨by (with_reducible repeat (first | apply Kd.R_alloc | apply Kd.R_drewN | apply Kd.R_drew)); exact Kd.R_mono HO_3.out (fun _ hk => hk.2)⟩, ⟨by (with_reducible repeat (first | apply Kd.R_alloc | apply Kd.R_drewN | apply Kd.R_drew)); exact Kd.R_mono HO158.out (fun _ hk => hk.2)⟩, ⟨bw HB.out⟩⟩
     case round =>
      clear H'
      try clear c2
      try clear c2b0
      try clear p2
      try clear c3
      try clear c3b0
      try clear p4
      try clear q4
      try clear hx4
      try clear p5
      try clear q5
      try clear hx5
      try clear p4
      try clear p5
      try clear q4
      try clear q5
      obtain ⟨x3_2, x23_2, rfl, HA, HK2, HO_3, HO_21, HB⟩ := hrel
      cases gk with
      | zero => exact absurd HA.out (by simp [stowageref03_Hex.l1])
      | succ k2 =>
       have H := HA.out
       clear HA
       simp only [stowageref03_Hex.l1] at H
       by_cases c10 : x23_2 < (y156.length : Int)
       ·
        rw [if_pos c10] at H
        have c10b0 : decide (x23_2 < (y156.length : Int)) = true := decide_eq_true c10
        clear c10
        by_cases c11 : 0 ≤ x23_2
        ·
         rw [if_pos c11] at H
         have c11b0 : decide (0 ≤ x23_2) = true := decide_eq_true c11
         clear c11
         by_cases c12 : x23_2 < (y156.length : Int)
         ·
          rw [if_pos c12] at H
          have c12b0 : decide (x23_2 < (y156.length : Int)) = true := decide_eq_true c12
          clear c12
          by_cases c13 : (rd y156 x23_2) < 10
          ·
           rw [if_pos c13] at H
           have c13b0 : decide ((rd y156 x23_2) < 10) = true := decide_eq_true c13
           clear c13
           by_cases c14 : x3_2.length < 140737488355328
           ·
            rw [if_pos c14] at H
            have LMc14 := Aside0.mk c14
            clear c14
            obtain ⟨y160, hy160⟩ : ∃ y_ : List Int, y_ = (x3_2 ++ [(48 + (rd y156 x23_2)) % 256]) := ⟨_, rfl⟩
            replace H : (stowageref03_Hex.l1 k2 a0 y160 x4_1 y156 (y156.length : Int) (wrap64 (x23_2 + 1))) = some r := by first | (rw [hy160]; with_reducible exact H) | (have H2_ := (Option.bind_some _ _).symm.trans H; rw [hy160]; with_reducible exact H2_) | (have H2_ := (Option.bind_some _ _).symm.trans H; with_reducible exact H2_) | with_reducible exact H | (rw [hy160]; exact H) | exact H
            have Ny160 := Aside0.mk hy160
            clear hy160
            have H' := Aside0.mk H
            clear H
            have p159 : 0 ≤ (x23_2 : Int) := of_decide_eq_true asm
            have q159 : x23_2 < (y156.length : Int) := of_decide_eq_true asm
            obtain ⟨ad159, e159, hx159_0⟩ := Kd.at_int (Kd.R_reads' HO_21.out).2.2 x23_2 p159 q159
            cases e159
            replace p159 := eq_true p159
            replace q159 := eq_true q159
            go_wp2_with (first | ((with_reducible refine gate_builtin (b := .append) (xs := #[.tmp 29, .tmp 32]) rfl ?_); at_builtin; refine Kd.R_append (Kd.int .u8) (w0 := w) w.heap.size rfl (.tmp 29) (.tmp 32) 113 5 (.int .u8 0) 1 rfl Tryd.underlying113 info5 rfl (by decide) (by omega) u3 x3_2 ((48 + (rd y156 x23_2)) % 256) [.int .u8 ((48 + (rd y156 x23_2)) % 256)] (fun k_ => some k_ ≠ (.slice (some ad159) y156.length co9 : Value).ownBlock) (fun _ => False) rfl rfl ?aP (fun _ hk => hk.elim) ?aF ?aO ?aB ?aS ?aL ?_; (case aP => exact rfl); (case aB => exact (bw HB.out)); (case aF => exact (fun k_ hk => Kd.fresh' (Kd.R_lt (kR HO_21.out)) k_ hk)); (case aO => exact (kR HO_3.out)); (case aS => exact (below_size (bw HB.out))); (case aL => have := LMc14.out; omega); intro v161 w15 ho hb hg hat; rw [← Ny160.out] at ho; have n0_ := Aside0.mk (Kd.R_after (ok := (fun _ => True)) (by (with_reducible repeat (first | apply Kd.R_alloc | apply Kd.R_drewN | apply Kd.R_drew)); exact Kd.R_mono HO_21.out (fun _ hk => ⟨trivial, hk⟩)) hg hat); have n1_ := Aside0.mk (hb); have n2_ := Aside0.mk (ho); clear HO_21; clear HB; clear HO_3; have HO_21 := n0_; have HB := n1_; have HO162 := n2_; clear n0_ n1_ n2_; clear ho hb hg hat))
            go_roundg k2
            case measure => have := HK1.out; have := HK2.out; omega
            case rel => exact ⟨(y160), (wrap64 (x23_2 + 1)), (by first | rfl | (simp; done) | (simp [*]; done)), H', ⟨by have := HK1.out; have := HK2.out; omega⟩, ⟨kR HO162.out⟩, ⟨by (with_reducible repeat (first | apply Kd.R_alloc | apply Kd.R_drewN | apply Kd.R_drew)); exact Kd.R_mono HO_21.out (fun _ hk => hk.2)⟩, ⟨bw HB.out⟩⟩
           ·
            rw [if_neg c14] at H
            exact absurd H (by simp)
          ·
           rw [if_neg c13] at H
           have c13b0 : decide ((rd y156 x23_2) < 10) = false := decide_eq_false c13
           clear c13
           by_cases c16 : x3_2.length < 140737488355328
           ·
            rw [if_pos c16] at H
            have LMc16 := Aside0.mk c16
            clear c16
            obtain ⟨y163, hy163⟩ : ∃ y_ : List Int, y_ = (x3_2 ++ [(87 + (rd y156 x23_2)) % 256]) := ⟨_, rfl⟩
            replace H : (stowageref03_Hex.l1 k2 a0 y163 x4_1 y156 (y156.length : Int) (wrap64 (x23_2 + 1))) = some r := by first | (rw [hy163]; with_reducible exact H) | (have H2_ := (Option.bind_some _ _).symm.trans H; rw [hy163]; with_reducible exact H2_) | (have H2_ := (Option.bind_some _ _).symm.trans H; with_reducible exact H2_) | with_reducible exact H | (rw [hy163]; exact H) | exact H
            have Ny163 := Aside0.mk hy163
            clear hy163
            have H' := Aside0.mk H
            clear H
            have p159 : 0 ≤ (x23_2 : Int) := of_decide_eq_true asm
            have q159 : x23_2 < (y156.length : Int) := of_decide_eq_true asm
            obtain ⟨ad159, e159, hx159_0⟩ := Kd.at_int (Kd.R_reads' HO_21.out).2.2 x23_2 p159 q159
            cases e159
            replace p159 := eq_true p159
            replace q159 := eq_true q159
            go_wp2_with (first | ((with_reducible refine gate_builtin (b := .append) (xs := #[.tmp 34, .tmp 37]) rfl ?_); at_builtin; refine Kd.R_append (Kd.int .u8) (w0 := w) w.heap.size rfl (.tmp 34) (.tmp 37) 113 5 (.int .u8 0) 1 rfl Tryd.underlying113 info5 rfl (by decide) (by omega) u3 x3_2 ((87 + (rd y156 x23_2)) % 256) [.int .u8 ((87 + (rd y156 x23_2)) % 256)] (fun k_ => some k_ ≠ (.slice (some ad159) y156.length co9 : Value).ownBlock) (fun _ => False) rfl rfl ?aP (fun _ hk => hk.elim) ?aF ?aO ?aB ?aS ?aL ?_; (case aP => exact rfl); (case aB => exact (bw HB.out)); (case aF => exact (fun k_ hk => Kd.fresh' (Kd.R_lt (kR HO_21.out)) k_ hk)); (case aO => exact (kR HO_3.out)); (case aS => exact (below_size (bw HB.out))); (case aL => have := LMc16.out; omega); intro v164 w17 ho hb hg hat; rw [← Ny163.out] at ho; have n0_ := Aside0.mk (Kd.R_after (ok := (fun _ => True)) (by (with_reducible repeat (first | apply Kd.R_alloc | apply Kd.R_drewN | apply Kd.R_drew)); exact Kd.R_mono HO_21.out (fun _ hk => ⟨trivial, hk⟩)) hg hat); have n1_ := Aside0.mk (hb); have n2_ := Aside0.mk (ho); clear HO_21; clear HB; clear HO_3; have HO_21 := n0_; have HB := n1_; have HO165 := n2_; clear n0_ n1_ n2_; clear ho hb hg hat))
            go_roundg k2
            case measure => have := HK1.out; have := HK2.out; omega
            case rel => exact ⟨(y163), (wrap64 (x23_2 + 1)), (by first | rfl | (simp; done) | (simp [*]; done)), H', ⟨by have := HK1.out; have := HK2.out; omega⟩, ⟨kR HO165.out⟩, ⟨by (with_reducible repeat (first | apply Kd.R_alloc | apply Kd.R_drewN | apply Kd.R_drew)); exact Kd.R_mono HO_21.out (fun _ hk => hk.2)⟩, ⟨bw HB.out⟩⟩
           ·
            rw [if_neg c16] at H
            exact absurd H (by simp)
         ·
          rw [if_neg c12] at H
          exact absurd H (by simp)
        ·
         rw [if_neg c11] at H
         exact absurd H (by simp)
       ·
        rw [if_neg c10] at H
        have c10b0 : decide (x23_2 < (y156.length : Int)) = false := decide_eq_false c10
        clear c10
        have H' := Aside0.mk H
        clear H
        go_wp2
        go_roundg k2
        case measure => have := HK1.out; have := HK2.out; omega
        case rel => exact ⟨(x3_2), (wrap64 (x4_1 + 1)), (by first | rfl | (simp; done) | (simp [*]; done)), H', ⟨by have := HK1.out; have := HK2.out; omega⟩, ⟨by (with_reducible repeat (first | apply Kd.R_alloc | apply Kd.R_drewN | apply Kd.R_drew)); exact Kd.R_mono HO_3.out (fun _ hk => trivial)⟩, ⟨bw HB.out⟩⟩
    ·
     rw [if_neg c3] at H
     exact absurd H (by simp)
   ·
    rw [if_neg c2] at H
    have c2b0 : decide (x4_1 < (a0.size : Int)) = false := decide_eq_false c2
    clear c2
    obtain rfl := Option.some.inj H
    have hcv18 := own_string (P := Tryd.prog) Tryd.underlying113 Tryd.underlying5 Tryd.underlying9 (Kd.own_of_R HO_3.out)
    go_wp2
    go_ret
    exact ⟨by first | rfl | (simp [errW_none, errW_some] <;> rfl) | (simp [*, errW_none, errW_some] <;> rfl), by repeat (first | (with_reducible first | exact HB.out | apply below_alloc | apply pw_below_drewN | apply below_drew1) | exact HB.out)⟩

end Go.Proofs.YtoiockmmlanimaaDoor.Oj
end
section
-- Written for this claim by hyb.py, a driver of this session's over the kit's printer.
namespace Go.Proofs.YtoiockmmlanimaaDoor.Oj
open Go.RowKit Go.Proofs.YtoiockmmlanimaaDoorW.PrintWords Go.Proofs.YtoiockmmlanimaaDoorW.PrintLast Go.Proofs.YtoiockmmlanimaaDoorW.PrintMore
attribute [local go_sem] max2_int min2_int max_two min_two max_three min_three max_four min_four   -- for this text's walks alone
set_option linter.unusedVariables false
set_option linter.unusedSimpArgs false

/-! ### EXT stowageref03_Tagged: function 36 -/
def stowageref03_Tagged.f (a0 : Int) (l1 : List ByteArray) : Option ByteArray := Sha.tagF a0 l1
theorem stowageref03_Tagged.calls (a0 : Int) (A1 : Option Addr) (c1 : Nat) (l1 : List ByteArray) (r : ByteArray) (w : World) (hr1 : Kd.C Kd.string w A1 l1.length l1) (hc1 : l1.length ≤ c1) (h : stowageref03_Tagged.f a0 l1 = some r) :
    Calls Tryd.prog 36 #[.int .u8 a0, .slice A1 l1.length c1] w fun e w' => e = .returned (.string r) ∧ Below w.heap.size w w' := by
  unfold stowageref03_Tagged.f Sha.tagF at h
  split at h
  · rename_i hc
    cases h
    rw [Sha.Y_int a0 hc.1 hc.2.1]
    exact Sha.RTagged _ A1 c1 l1 w hr1 hc1 hc.2.2
  · cases h

end Go.Proofs.YtoiockmmlanimaaDoor.Oj
end
