/- Merged of several texts of this session's by merge.py. -/
import Derived.Test.YtoiockmmlanimaaDoorMb3
import Derived.Lib.Hide
import Derived.IntWalk
import Derived.Deep.QuietTactic
import Derived.BigQuiet
import Derived.OwnWalk
import Derived.Lib.Walk
import Derived.Deep.RegionWith
section
namespace Go.Proofs.YtoiockmmlanimaaDoor.Ob
open Go.RowKit Go.Proofs.YtoiockmmlanimaaDoorW.PrintWords Go.Proofs.YtoiockmmlanimaaDoorW.PrintLast Go.Proofs.YtoiockmmlanimaaDoorW.PrintMore
attribute [local go_sem] max2_int min2_int max_two min_two max_three min_three max_four min_four
set_option linter.unusedVariables false
set_option linter.unusedSimpArgs false
mutual
def stowageref03_Unhex.l0 : Nat → ByteArray → List Int → Int → Int → Option (ByteArray × Int)
 | 0, _, _, _, _ => none
 | k + 1, x0, x4, x5, x6 => if x6 < (x0.size : Int) then (if 0 ≤ x6 then (if (bt x0 x6) ≥ 48 then (stowageref03_Unhex.j1 k x0 x4 x5 x6 (-1) (decide ((bt x0 x6) ≤ 57))) else (stowageref03_Unhex.j1 k x0 x4 x5 x6 (-1) false)) else (none)) else (some (strOfNums x4, 0))
def stowageref03_Unhex.j1 : Nat → ByteArray → List Int → Int → Int → Int → Bool → Option (ByteArray × Int)
 | 0, _, _, _, _, _, _ => none
 | k + 1, x0, x4, x5, x6, x7, x27 => if x27 = true then (if 0 ≤ x6 then (if x6 < (x0.size : Int) then (stowageref03_Unhex.j2 k x0 x4 x5 x6 (wrap64 ((wrap64 (bt x0 x6)) - 48))) else (none)) else (none)) else (stowageref03_Unhex.j2 k x0 x4 x5 x6 x7)
def stowageref03_Unhex.j2 : Nat → ByteArray → List Int → Int → Int → Int → Option (ByteArray × Int)
 | 0, _, _, _, _, _ => none
 | k + 1, x0, x4, x5, x6, x7 => if 0 ≤ x6 then (if x6 < (x0.size : Int) then (if (bt x0 x6) ≥ 97 then (stowageref03_Unhex.j3 k x0 x4 x5 x6 x7 (decide ((bt x0 x6) ≤ 102))) else (stowageref03_Unhex.j3 k x0 x4 x5 x6 x7 false)) else (none)) else (none)
def stowageref03_Unhex.j3 : Nat → ByteArray → List Int → Int → Int → Int → Bool → Option (ByteArray × Int)
 | 0, _, _, _, _, _, _ => none
 | k + 1, x0, x4, x5, x6, x7, x42 => if x42 = true then (if 0 ≤ x6 then (if x6 < (x0.size : Int) then (stowageref03_Unhex.j4 k x0 x4 x5 x6 (wrap64 ((wrap64 (bt x0 x6)) - 87))) else (none)) else (none)) else (stowageref03_Unhex.j4 k x0 x4 x5 x6 x7)
def stowageref03_Unhex.j4 : Nat → ByteArray → List Int → Int → Int → Int → Option (ByteArray × Int)
 | 0, _, _, _, _, _ => none
 | k + 1, x0, x4, x5, x6, x7 => if x7 < 0 then (some ((⟨#[]⟩ : ByteArray), 3)) else (if (Int.tmod x6 2) = 1 then (if x4.length < 140737488355328 then (stowageref03_Unhex.l0 k x0 (x4 ++ [(wrap64 ((wrap64 ((Int.tmod x5 16) * 16)) + x7)) % 256]) (wrap64 ((wrap64 ((Int.tmod x5 16) * 16)) + x7)) (wrap64 (x6 + 1))) else (none)) else (stowageref03_Unhex.l0 k x0 x4 (wrap64 ((wrap64 ((Int.tmod x5 16) * 16)) + x7)) (wrap64 (x6 + 1))))
end
def stowageref03_Unhex.f (k : Nat) (a0 : ByteArray) : Option (ByteArray × Int) := if ((a0.size : Int) % 2) = 0 then (stowageref03_Unhex.l0 k a0 ([] : List Int) 0 0) else (some ((⟨#[]⟩ : ByteArray), 3))
theorem stowageref03_Unhex.mono_l : ∀ k, (∀ y0 y1 y2 y3, LeO (stowageref03_Unhex.l0 k y0 y1 y2 y3) (stowageref03_Unhex.l0 (k + 1) y0 y1 y2 y3)) ∧ (∀ y0 y1 y2 y3 y4 y5, LeO (stowageref03_Unhex.j1 k y0 y1 y2 y3 y4 y5) (stowageref03_Unhex.j1 (k + 1) y0 y1 y2 y3 y4 y5)) ∧ (∀ y0 y1 y2 y3 y4, LeO (stowageref03_Unhex.j2 k y0 y1 y2 y3 y4) (stowageref03_Unhex.j2 (k + 1) y0 y1 y2 y3 y4)) ∧ (∀ y0 y1 y2 y3 y4 y5, LeO (stowageref03_Unhex.j3 k y0 y1 y2 y3 y4 y5) (stowageref03_Unhex.j3 (k + 1) y0 y1 y2 y3 y4 y5)) ∧ (∀ y0 y1 y2 y3 y4, LeO (stowageref03_Unhex.j4 k y0 y1 y2 y3 y4) (stowageref03_Unhex.j4 (k + 1) y0 y1 y2 y3 y4))
 | 0 => ⟨fun _ _ _ _ r h => by simp [stowageref03_Unhex.l0] at h, fun _ _ _ _ _ _ r h => by simp [stowageref03_Unhex.j1] at h, fun _ _ _ _ _ r h => by simp [stowageref03_Unhex.j2] at h, fun _ _ _ _ _ _ r h => by simp [stowageref03_Unhex.j3] at h, fun _ _ _ _ _ r h => by simp [stowageref03_Unhex.j4] at h⟩
 | k + 1 => by
  obtain ⟨ih0, ih1, ih2, ih3, ih4⟩ := stowageref03_Unhex.mono_l k
  refine ⟨?_, ?_, ?_, ?_, ?_⟩
  all_goals intros
  all_goals first | unfold stowageref03_Unhex.l0 | unfold stowageref03_Unhex.j1 | unfold stowageref03_Unhex.j2 | unfold stowageref03_Unhex.j3 | unfold stowageref03_Unhex.j4
  all_goals repeat' (with_reducible first | exact ih0 _ _ _ _ | exact ih1 _ _ _ _ _ _ | exact ih2 _ _ _ _ _ | exact ih3 _ _ _ _ _ _ | exact ih4 _ _ _ _ _ | exact LeO.refl _ | exact LeO.none _ | refine LeO.ite ?_ ?_ | refine LeO.bind ?_ (fun _ => ?_))
theorem stowageref03_Unhex.mono : ∀ a0 k, LeO (stowageref03_Unhex.f k a0) (stowageref03_Unhex.f (k + 1) a0) := by
 intro a0 k
 obtain ⟨ih0, ih1, ih2, ih3, ih4⟩ := stowageref03_Unhex.mono_l k
 unfold stowageref03_Unhex.f
 repeat' (with_reducible first | exact ih0 _ _ _ _ | exact ih1 _ _ _ _ _ _ | exact ih2 _ _ _ _ _ | exact ih3 _ _ _ _ _ _ | exact ih4 _ _ _ _ _ | exact LeO.refl _ | exact LeO.none _ | refine LeO.ite ?_ ?_ | refine LeO.bind ?_ (fun _ => ?_))
set_option maxHeartbeats 8000000 in
set_option maxRecDepth 100000 in
theorem stowageref03_Unhex.calls (k : Nat) (a0 : ByteArray) (r1 : ByteArray) (r2 : Int) (w : World) (h : stowageref03_Unhex.f k a0 = some (r1, r2)) :
  Calls Tryd.prog 70 #[.string a0] w fun e w' => e = .returned (.tuple #[.string r1, .int .i64 r2]) ∧ Below w.heap.size w w' := by
 have HB := am (Below.refl w.heap.size w)
 have H := h
 clear h
 unfold stowageref03_Unhex.f at H
 by_cases c2 : ((a0.size : Int) % 2) = 0
 ·
  rw [if_pos c2] at H
  have c2b0 := beq_iff_eq.mpr c2
  have c2b1 := bne_eq_false_iff_eq.mpr c2
  clear c2
  have H' := am H
  clear H
  go_enter Tryd.func70, Tryd.ntmps70
  go_wp2
  go_loopg [4, 5, 6] k (fun kq v4 v5 v6 w' => ∃ (x4_1 : List Int) (x5_1 : Int) (x6_1 : Int), v5 = .int .i64 x5_1 ∧ v6 = .int .i64 x6_1 ∧ Aside0 (stowageref03_Unhex.l0 kq a0 x4_1 x5_1 x6_1 = some (r1, r2)) ∧ Aside0 (kq ≤ k) ∧ Aside0 (Kd.R (Kd.int .u8) 5 w' w.heap.size (fun _ => True) v4 x4_1) ∧ Aside0 (Below w.heap.size w w'))
  case atStart => exact ⟨(([] : List Int)), (0), (0), rs, rs, H', ⟨Nat.le_refl _⟩, ⟨niR⟩, ⟨bw HB.out⟩⟩
  case round =>
   clear H'
   try clear c2
   try clear c2b0
   try clear c2b1
   try clear p2
   obtain ⟨x4_1, x5_1, x6_1, rfl, rfl, HA, HK1, HO_4, HB⟩ := hrel
   cases gk with
   | zero => exact absurd HA.out (by simp [stowageref03_Unhex.l0])
   | succ k1 =>
    have H := HA.out
    clear HA
    simp only [stowageref03_Unhex.l0] at H
    rcases iteD H with ⟨c3b0, H⟩ | ⟨c3b0, H⟩
    ·
     have HC4 := am H
     clear H
     go_upto_region 9 with (fail)
     go_cut [27] (fun v27 wc => ∃ (kq : Nat) (x27_3 : Bool), v27 = .bool x27_3 ∧ Aside0 (stowageref03_Unhex.j1 kq a0 x4_1 x5_1 x6_1 (-1) x27_3 = some (r1, r2)) ∧ Aside0 (kq ≤ k1) ∧ Aside0 (Kd.R (Kd.int .u8) 5 wc w.heap.size (fun _ => True) u4 x4_1) ∧ Aside0 (Below w.heap.size w wc))
     case first =>
      have H := HC4.out
      clear HC4
      rcases iteD H with ⟨c5b0, H⟩ | ⟨_, H⟩
      ·
       (first | rw [c5b0] | (simp only [i64_w, i32_w]; rw [c5b0]) | skip)
       rcases iteD H with ⟨c7b0, H⟩ | ⟨c7b0, H⟩
       ·
        have H' := am H
        clear H
        have p6 := pz x6_1
        have q6 := pl x6_1 (a0.size : Int)
        have hx6 := bt_at a0 x6_1
        have p8 := pz x6_1
        have q8 := pl x6_1 (a0.size : Int)
        have hx8 := bt_at a0 x6_1
        go_wp2
        go_meet
        case rel => exact ⟨_, (decide ((bt a0 x6_1) ≤ 57)), rs, H', ⟨by have := HK1.out; first | omega | exact Nat.le_refl _⟩, ⟨kR HO_4.out⟩, ⟨bw HB.out⟩⟩
       ·
        have H' := am H
        clear H
        have p6 := pz x6_1
        have q6 := pl x6_1 (a0.size : Int)
        have hx6 := bt_at a0 x6_1
        go_wp2
        go_meet
        case rel => exact ⟨_, (false), rs, H', ⟨by have := HK1.out; first | omega | exact Nat.le_refl _⟩, ⟨kR HO_4.out⟩, ⟨bw HB.out⟩⟩
      ·
       exact absurd H (by simp)
     case rest =>
      clear HC4
      try clear c2
      try clear c2b0
      try clear c2b1
      try clear p2
      try clear c3
      try clear c3b0
      try clear c5
      try clear c5b0
      try clear p6
      try clear q6
      try clear hx6
      try clear c7
      try clear c7b0
      try clear p8
      try clear q8
      try clear hx8
      try clear p2
      try clear p6
      try clear p8
      try clear q6
      try clear q8
      obtain ⟨kq, x27_3, rfl, HA, HJ3, HO_4, HB⟩ := hcut
      cases kq with
      | zero => exact absurd HA.out (by simp [stowageref03_Unhex.j1])
      | succ kj3 =>
       have H := HA.out
       clear HA
       simp only [stowageref03_Unhex.j1] at H
       have HC9 := am H
       clear H
       go_upto_if 27 with (fail)
       go_cut [7] (fun v7 wc => ∃ (kq : Nat) (x7_8 : Int), v7 = .int .i64 x7_8 ∧ Aside0 (stowageref03_Unhex.j2 kq a0 x4_1 x5_1 x6_1 x7_8 = some (r1, r2)) ∧ Aside0 (kq ≤ kj3) ∧ Aside0 (Kd.R (Kd.int .u8) 5 wc w.heap.size (fun _ => True) u4 x4_1) ∧ Aside0 (Below w.heap.size w wc))
       case first =>
        have H := HC9.out
        clear HC9
        by_cases c10 : x27_3 = true
        ·
         subst c10
         rw [if_pos rfl] at H
         rcases iteD H with ⟨c11b0, H⟩ | ⟨_, H⟩
         ·
          (first | rw [c11b0] | (simp only [i64_w, i32_w]; rw [c11b0]) | skip)
          rcases iteD H with ⟨c12b0, H⟩ | ⟨_, H⟩
          ·
           have H' := am H
           clear H
           have p13 := pz x6_1
           have q13 := pl x6_1 (a0.size : Int)
           have hx13 := bt_at a0 x6_1
           go_wp2
           go_meet
           case rel => exact ⟨_, (wrap64 ((wrap64 (bt a0 x6_1)) - 48)), rs, H', ⟨by have := HK1.out; have := HJ3.out; first | omega | exact Nat.le_refl _⟩, ⟨kR HO_4.out⟩, ⟨bw HB.out⟩⟩
          ·
           exact absurd H (by simp)
         ·
          exact absurd H (by simp)
        ·
         replace c10 := Bool.eq_false_iff.mpr c10
         subst c10
         rw [if_neg (show ¬ (false = true) by decide)] at H
         have H' := am H
         clear H
         go_wp2
         go_meet
         case rel => exact ⟨_, ((-1)), rs, H', ⟨by have := HK1.out; have := HJ3.out; first | omega | exact Nat.le_refl _⟩, ⟨kR HO_4.out⟩, ⟨bw HB.out⟩⟩
       case rest =>
        clear HC9
        try clear c1
        try clear p1
        try clear q1
        try clear hx1
        try clear c2
        try clear c2b0
        try clear c2b1
        try clear p2
        try clear c3
        try clear c3b0
        try clear c5
        try clear c5b0
        try clear p6
        try clear q6
        try clear hx6
        try clear c7
        try clear c7b0
        try clear p8
        try clear q8
        try clear hx8
        try clear c10
        try clear c11
        try clear c11b0
        try clear c12
        try clear c12b0
        try clear p13
        try clear q13
        try clear hx13
        try clear p13
        try clear p2
        try clear p6
        try clear p8
        try clear q13
        try clear q6
        try clear q8
        obtain ⟨kq, x7_8, rfl, HA, HJ8, HO_4, HB⟩ := hcut
        cases kq with
        | zero => exact absurd HA.out (by simp [stowageref03_Unhex.j2])
        | succ kj8 =>
         have H := HA.out
         clear HA
         simp only [stowageref03_Unhex.j2] at H
         have HC14 := am H
         clear H
         go_upto_region 11 with (fail)
         go_cut [42] (fun v42 wc => ∃ (kq : Nat) (x42_13 : Bool), v42 = .bool x42_13 ∧ Aside0 (stowageref03_Unhex.j3 kq a0 x4_1 x5_1 x6_1 x7_8 x42_13 = some (r1, r2)) ∧ Aside0 (kq ≤ kj8) ∧ Aside0 (Kd.R (Kd.int .u8) 5 wc w.heap.size (fun _ => True) u4 x4_1) ∧ Aside0 (Below w.heap.size w wc))
         case first =>
          have H := HC14.out
          clear HC14
          rcases iteD H with ⟨c15b0, H⟩ | ⟨_, H⟩
          ·
           (first | rw [c15b0] | (simp only [i64_w, i32_w]; rw [c15b0]) | skip)
           rcases iteD H with ⟨c16b0, H⟩ | ⟨_, H⟩
           ·
            rcases iteD H with ⟨c18b0, H⟩ | ⟨c18b0, H⟩
            ·
             have H' := am H
             clear H
             have p17 := pz x6_1
             have q17 := pl x6_1 (a0.size : Int)
             have hx17 := bt_at a0 x6_1
             have p19 := pz x6_1
             have q19 := pl x6_1 (a0.size : Int)
             have hx19 := bt_at a0 x6_1
             go_wp2
             go_meet
             case rel => exact ⟨_, (decide ((bt a0 x6_1) ≤ 102)), rs, H', ⟨by have := HK1.out; have := HJ3.out; have := HJ8.out; first | omega | exact Nat.le_refl _⟩, ⟨kR HO_4.out⟩, ⟨bw HB.out⟩⟩
            ·
             have H' := am H
             clear H
             have p17 := pz x6_1
             have q17 := pl x6_1 (a0.size : Int)
             have hx17 := bt_at a0 x6_1
             go_wp2
             go_meet
             case rel => exact ⟨_, (false), rs, H', ⟨by have := HK1.out; have := HJ3.out; have := HJ8.out; first | omega | exact Nat.le_refl _⟩, ⟨kR HO_4.out⟩, ⟨bw HB.out⟩⟩
           ·
            exact absurd H (by simp)
          ·
           exact absurd H (by simp)
         case rest =>
          clear HC14
          try clear c1
          try clear p1
          try clear q1
          try clear hx1
          try clear c2
          try clear c2b0
          try clear c2b1
          try clear p2
          try clear c3
          try clear c3b0
          try clear c5
          try clear c5b0
          try clear p6
          try clear q6
          try clear hx6
          try clear c7
          try clear c7b0
          try clear p8
          try clear q8
          try clear hx8
          try clear c10
          try clear c11
          try clear c11b0
          try clear c12
          try clear c12b0
          try clear p13
          try clear q13
          try clear hx13
          try clear c15
          try clear c15b0
          try clear c16
          try clear c16b0
          try clear p17
          try clear q17
          try clear hx17
          try clear c18
          try clear c18b0
          try clear p19
          try clear q19
          try clear hx19
          try clear p1
          try clear p13
          try clear p17
          try clear p19
          try clear p2
          try clear p6
          try clear p8
          try clear q1
          try clear q13
          try clear q17
          try clear q19
          try clear q6
          try clear q8
          obtain ⟨kq, x42_13, rfl, HA, HJ13, HO_4, HB⟩ := hcut
          cases kq with
          | zero => exact absurd HA.out (by simp [stowageref03_Unhex.j3])
          | succ kj13 =>
           have H := HA.out
           clear HA
           simp only [stowageref03_Unhex.j3] at H
           have HC20 := am H
           clear H
           go_upto_if 42 with (fail)
           go_cut [7] (fun v7 wc => ∃ (kq : Nat) (x7_19 : Int), v7 = .int .i64 x7_19 ∧ Aside0 (stowageref03_Unhex.j4 kq a0 x4_1 x5_1 x6_1 x7_19 = some (r1, r2)) ∧ Aside0 (kq ≤ kj13) ∧ Aside0 (Kd.R (Kd.int .u8) 5 wc w.heap.size (fun _ => True) u4 x4_1) ∧ Aside0 (Below w.heap.size w wc))
           case first =>
            have H := HC20.out
            clear HC20
            by_cases c21 : x42_13 = true
            ·
             subst c21
             rw [if_pos rfl] at H
             rcases iteD H with ⟨c22b0, H⟩ | ⟨_, H⟩
             ·
              (first | rw [c22b0] | (simp only [i64_w, i32_w]; rw [c22b0]) | skip)
              rcases iteD H with ⟨c23b0, H⟩ | ⟨_, H⟩
              ·
               have H' := am H
               clear H
               have p24 := pz x6_1
               have q24 := pl x6_1 (a0.size : Int)
               have hx24 := bt_at a0 x6_1
               go_wp2
               go_meet
               case rel => exact ⟨_, (wrap64 ((wrap64 (bt a0 x6_1)) - 87)), rs, H', ⟨by have := HK1.out; have := HJ3.out; have := HJ8.out; have := HJ13.out; first | omega | exact Nat.le_refl _⟩, ⟨kR HO_4.out⟩, ⟨bw HB.out⟩⟩
              ·
               exact absurd H (by simp)
             ·
              exact absurd H (by simp)
            ·
             replace c21 := Bool.eq_false_iff.mpr c21
             subst c21
             rw [if_neg (show ¬ (false = true) by decide)] at H
             have H' := am H
             clear H
             go_wp2
             go_meet
             case rel => exact ⟨_, (x7_8), rs, H', ⟨by have := HK1.out; have := HJ3.out; have := HJ8.out; have := HJ13.out; first | omega | exact Nat.le_refl _⟩, ⟨kR HO_4.out⟩, ⟨bw HB.out⟩⟩
           case rest =>
            clear HC20
            try clear c1
            try clear p1
            try clear q1
            try clear hx1
            try clear c2
            try clear c2b0
            try clear c2b1
            try clear p2
            try clear q2
            try clear hx2
            try clear c3
            try clear c3b0
            try clear c5
            try clear c5b0
            try clear p6
            try clear q6
            try clear hx6
            try clear c7
            try clear c7b0
            try clear p8
            try clear q8
            try clear hx8
            try clear c10
            try clear c11
            try clear c11b0
            try clear c12
            try clear c12b0
            try clear p13
            try clear q13
            try clear hx13
            try clear c15
            try clear c15b0
            try clear c16
            try clear c16b0
            try clear p17
            try clear q17
            try clear hx17
            try clear c18
            try clear c18b0
            try clear p19
            try clear q19
            try clear hx19
            try clear c21
            try clear c22
            try clear c22b0
            try clear c23
            try clear c23b0
            try clear p24
            try clear q24
            try clear hx24
            try clear p1
            try clear p13
            try clear p17
            try clear p19
            try clear p2
            try clear p24
            try clear p6
            try clear p8
            try clear q1
            try clear q13
            try clear q17
            try clear q19
            try clear q24
            try clear q6
            try clear q8
            obtain ⟨kq, x7_19, rfl, HA, HJ19, HO_4, HB⟩ := hcut
            cases kq with
            | zero => exact absurd HA.out (by simp [stowageref03_Unhex.j4])
            | succ kj19 =>
             have H := HA.out
             clear HA
             simp only [stowageref03_Unhex.j4] at H
             rcases iteD H with ⟨c25b0, H⟩ | ⟨c25b0, H⟩
             ·
              simp only [Option.some.injEq, Prod.mk.injEq] at H
              obtain ⟨rfl, rfl⟩ := H
              go_wp2
              go_ret2
              exact ⟨rf, bw HB.out⟩
             ·
              by_cases c26 : (Int.tmod x6_1 2) = 1
              ·
               rw [if_pos c26] at H
               have c26b0 := beq_iff_eq.mpr c26
               have c26b1 := bne_eq_false_iff_eq.mpr c26
               clear c26
               by_cases c27 : x4_1.length < 140737488355328
               ·
                rw [if_pos c27] at H
                have LMc27 := am c27
                clear c27
                obtain ⟨y235, hy235⟩ : ∃ y_ : List Int, y_ = (x4_1 ++ [(wrap64 ((wrap64 ((Int.tmod x5_1 16) * 16)) + x7_19)) % 256]) := ⟨_, rfl⟩
                replace H : (stowageref03_Unhex.l0 kj19 a0 y235 (wrap64 ((wrap64 ((Int.tmod x5_1 16) * 16)) + x7_19)) (wrap64 (x6_1 + 1))) = some (r1, r2) := by first | (rw [hy235]; with_reducible exact H) | (have H2_ := (Option.bind_some _ _).symm.trans H; rw [hy235]; with_reducible exact H2_) | (have H2_ := (Option.bind_some _ _).symm.trans H; with_reducible exact H2_) | with_reducible exact H | (rw [hy235]; exact H) | exact H
                have Ny235 := am hy235
                clear hy235
                have H' := am H
                clear H
                go_wp2_with (first | ((with_reducible refine gate_builtin (b := .append) (xs := #[.tmp 58, .tmp 61]) rfl ?_); at_builtin; refine Kd.R_append (Kd.int .u8) (w0 := w) w.heap.size rfl (.tmp 58) (.tmp 61) 113 5 (.int .u8 0) 1 rfl Tryd.underlying113 info5 rfl (by decide) (by omega) u4 x4_1 ((wrap64 ((wrap64 ((Int.tmod x5_1 16) * 16)) + x7_19)) % 256) [.int .u8 ((wrap64 ((wrap64 ((Int.tmod x5_1 16) * 16)) + x7_19)) % 256)] (fun _ => True) (fun _ => False) rfl rfl ?aP (fun _ hk => hk.elim) ?aF ?aO ?aB ?aS ?aL ?_; (case aP => exact rfl); (case aB => exact (bw HB.out)); (case aF => exact (fun _ _ => trivial)); (case aO => exact (kR HO_4.out)); (case aS => exact (below_size (bw HB.out))); (case aL => have := LMc27.out; omega); intro v236 w28 ho hb hg hat; rw [← Ny235.out] at ho; have n0_ := am (hb); have n1_ := am (ho); clear HB; clear HO_4; have HB := n0_; have HO237 := n1_; clear n0_ n1_; clear ho hb hg hat))
                go_roundg kj19
                case measure => have := HK1.out; have := HJ3.out; have := HJ8.out; have := HJ13.out; have := HJ19.out; omega
                case rel => exact ⟨(y235), (wrap64 ((wrap64 ((Int.tmod x5_1 16) * 16)) + x7_19)), (wrap64 (x6_1 + 1)), rs, rs, H', ⟨by have := HK1.out; have := HJ3.out; have := HJ8.out; have := HJ13.out; have := HJ19.out; omega⟩, ⟨kR HO237.out⟩, ⟨bw HB.out⟩⟩
               ·
                rw [if_neg c27] at H
                exact absurd H (by simp)
              ·
               rw [if_neg c26] at H
               have c26b0 := beq_eq_false_iff_ne.mpr c26
               have c26b1 := bne_iff_ne.mpr c26
               have H' := am H
               clear H
               go_wp2
               go_roundg kj19
               case measure => have := HK1.out; have := HJ3.out; have := HJ8.out; have := HJ13.out; have := HJ19.out; omega
               case rel => exact ⟨(x4_1), (wrap64 ((wrap64 ((Int.tmod x5_1 16) * 16)) + x7_19)), (wrap64 (x6_1 + 1)), rs, rs, H', ⟨by have := HK1.out; have := HJ3.out; have := HJ8.out; have := HJ13.out; have := HJ19.out; omega⟩, ⟨kR HO_4.out⟩, ⟨bw HB.out⟩⟩
    ·
     simp only [Option.some.injEq, Prod.mk.injEq] at H
     obtain ⟨rfl, rfl⟩ := H
     have hcv29 := own_string (P := Tryd.prog) Tryd.underlying113 Tryd.underlying5 Tryd.underlying9 (Kd.own_of_R HO_4.out)
     go_wp2
     go_ret2
     exact ⟨rf, bw HB.out⟩
 ·
  rw [if_neg c2] at H
  have c2b0 := beq_eq_false_iff_ne.mpr c2
  have c2b1 := bne_iff_ne.mpr c2
  simp only [Option.some.injEq, Prod.mk.injEq] at H
  obtain ⟨rfl, rfl⟩ := H
  go_enter Tryd.func70, Tryd.ntmps70
  go_wp2
  go_ret2
  exact ⟨rf, bw HB.out⟩
def stowageref06_May.f (k : Nat) (a0 : ByteArray) : Option (Bool) := (stowageref03_Unhex.f k a0).bind fun bt238 => (if bt238.2 = 0 then (some ((a0.size : Int) == 64)) else (some false))
theorem stowageref06_May.mono : ∀ a0 k, LeO (stowageref06_May.f k a0) (stowageref06_May.f (k + 1) a0) := by
 intro a0 k
 unfold stowageref06_May.f
 repeat' (with_reducible first | exact stowageref03_Unhex.mono _ _ | exact LeO.refl _ | exact LeO.none _ | refine LeO.ite ?_ ?_ | refine LeO.bind ?_ (fun _ => ?_))
set_option maxHeartbeats 8000000 in
set_option maxRecDepth 100000 in
theorem stowageref06_May.calls (k : Nat) (a0 : ByteArray) (r : Bool) (w : World) (h : stowageref06_May.f k a0 = some r) :
  Calls Tryd.prog 45 #[.string a0] w fun e w' => e = .returned (.bool r) ∧ Below w.heap.size w w' := by
 have HB := am (Below.refl w.heap.size w)
 have H := h
 clear h
 unfold stowageref06_May.f at H
 obtain ⟨⟨t238, t239⟩, A2, H⟩ := obE H
 try dsimp only at H
 by_cases c3 : t239 = 0
 ·
  rw [if_pos c3] at H
  have c3b0 := beq_iff_eq.mpr c3
  have c3b1 := bne_eq_false_iff_eq.mpr c3
  clear c3
  obtain rfl := Option.some.inj H
  go_enter Tryd.func45, Tryd.ntmps45
  go_wp2_with (first | ((with_reducible refine gate_callee (f := 70) rfl ?_); refine goesL_ (some 7) rfl rfl Tryd.func70 (by kernel_rfl) rfl #[.string a0] rfl gl ?_; (with_reducible refine (stowageref03_Unhex.calls k a0 t238 t239 _ A2.out).mono ?_); rintro e w4 ⟨rfl, hb⟩; refine ⟨_, rfl, ?_⟩; replace HB := am (below_step (bw HB.out) hb); (try clear hb)))
  go_ret
  exact ⟨rf, bw HB.out⟩
 ·
  rw [if_neg c3] at H
  have c3b0 := beq_eq_false_iff_ne.mpr c3
  have c3b1 := bne_iff_ne.mpr c3
  obtain rfl := Option.some.inj H
  go_enter Tryd.func45, Tryd.ntmps45
  go_wp2_with (first | ((with_reducible refine gate_callee (f := 70) rfl ?_); refine goesL_ (some 7) rfl rfl Tryd.func70 (by kernel_rfl) rfl #[.string a0] rfl gl ?_; (with_reducible refine (stowageref03_Unhex.calls k a0 t238 t239 _ A2.out).mono ?_); rintro e w5 ⟨rfl, hb⟩; refine ⟨_, rfl, ?_⟩; replace HB := am (below_step (bw HB.out) hb); (try clear hb)))
  go_ret
  exact ⟨rf, bw HB.out⟩
def stowageref13_Pieces.l0 : Nat → List (S85) → Int → Int → Option (Int × Int)
 | 0, _, _, _ => none
 | k + 1, x0, x4, x5 => if x5 < (x0.length : Int) then (if 0 ≤ x5 then ((stowageref06_May.f k ((rd_T85 x0 x5).f0)).bind fun t241 => (if t241 = true then (if ((rd_T85 x0 x5).f1) < 1 then (some (0, 1)) else (if ((rd_T85 x0 x5).f1) > 4096 then (some (0, 1)) else (stowageref13_Pieces.l0 k x0 (wrap64 (x4 + ((rd_T85 x0 x5).f1))) (wrap64 (x5 + 1))))) else (some (0, 1)))) else (none)) else (if (x0.length : Int) > 512 then (some (0, 1)) else (some (x4, 0)))
def stowageref13_Pieces.f (k : Nat) (l0 : List (S85)) : Option (Int × Int) := stowageref13_Pieces.l0 k l0 0 0
theorem stowageref13_Pieces.mono_l : ∀ k, (∀ y0 y1 y2, LeO (stowageref13_Pieces.l0 k y0 y1 y2) (stowageref13_Pieces.l0 (k + 1) y0 y1 y2))
 | 0 => fun _ _ _ r h => by simp [stowageref13_Pieces.l0] at h
 | k + 1 => by
  have ih0 := stowageref13_Pieces.mono_l k
  ·
   intro y0 y1 y2
   unfold stowageref13_Pieces.l0
   repeat' (with_reducible first | exact ih0 _ _ _ | exact stowageref06_May.mono _ _ | exact LeO.refl _ | exact LeO.none _ | refine LeO.ite ?_ ?_ | refine LeO.bind ?_ (fun _ => ?_))
theorem stowageref13_Pieces.mono : ∀ a0 k, LeO (stowageref13_Pieces.f k a0) (stowageref13_Pieces.f (k + 1) a0) := by
 intro a0 k
 have ih0 := stowageref13_Pieces.mono_l k
 unfold stowageref13_Pieces.f
 repeat' (with_reducible first | exact ih0 _ _ _ | exact stowageref06_May.mono _ _ | exact LeO.refl _ | exact LeO.none _ | refine LeO.ite ?_ ?_ | refine LeO.bind ?_ (fun _ => ?_))
set_option maxHeartbeats 8000000 in
set_option maxRecDepth 100000 in
theorem stowageref13_Pieces.calls (k : Nat) (A0 : Option Addr) (c0 : Nat) (l0 : List (S85)) (r1 : Int) (r2 : Int) (w : World) (hr0 : Kd.C k85 w A0 l0.length l0) (hc0 : l0.length ≤ c0) (h : stowageref13_Pieces.f k l0 = some (r1, r2)) :
  Calls Tryd.prog 44 #[.slice A0 l0.length c0] w fun e w' => e = .returned (.tuple #[.int .i64 r1, .int .i64 r2]) ∧ Below w.heap.size w w' := by
 have HR0 := am hr0
 have HC0 := am hc0
 clear hr0 hc0
 have HB := am (Below.refl w.heap.size w)
 have H := h
 clear h
 unfold stowageref13_Pieces.f at H
 have H' := am H
 clear H
 go_enter Tryd.func44, Tryd.ntmps44
 go_wp2
 go_loopg [4, 5] k (fun kq v4 v5 w' => ∃ (x4_1 : Int) (x5_1 : Int), v4 = .int .i64 x4_1 ∧ v5 = .int .i64 x5_1 ∧ Aside0 (stowageref13_Pieces.l0 kq l0 x4_1 x5_1 = some (r1, r2)) ∧ Aside0 (kq ≤ k) ∧ Aside0 (Below w.heap.size w w'))
 case atStart => exact ⟨(0), (0), rs, rs, H', ⟨Nat.le_refl _⟩, ⟨bw HB.out⟩⟩
 case round =>
  clear H'
  obtain ⟨x4_1, x5_1, rfl, rfl, HA, HK1, HB⟩ := hrel
  cases gk with
  | zero => exact absurd HA.out (by simp [stowageref13_Pieces.l0])
  | succ k1 =>
   have H := HA.out
   clear HA
   simp only [stowageref13_Pieces.l0] at H
   rcases iteD H with ⟨c2b0, H⟩ | ⟨c2b0, H⟩
   ·
    rcases iteD H with ⟨c3b0, H⟩ | ⟨_, H⟩
    ·
     obtain ⟨t241, A4, H⟩ := obE H
     by_cases c5 : t241 = true
     ·
      subst c5
      rw [if_pos rfl] at H
      rcases iteD H with ⟨c6b0, H⟩ | ⟨c6b0, H⟩
      ·
       simp only [Option.some.injEq, Prod.mk.injEq] at H
       obtain ⟨rfl, rfl⟩ := H
       have p240 := pz x5_1
       have q240 := pl x5_1 (l0.length : Int)
       obtain ⟨ad240, e240, hx240_0, hx240_1⟩ := at_T85 HR0.out x5_1 (of_eq_true p240) (of_eq_true q240)
       cases e240
       replace hx240_0 := bc HB.out hx240_0
       replace hx240_1 := bc HB.out hx240_1
       go_wp2_with (first | ((with_reducible refine gate_callee (f := 45) rfl ?_); refine goesL_ (some 17) rfl rfl Tryd.func45 (by kernel_rfl) rfl #[.string ((rd_T85 l0 x5_1).f0)] rfl gl ?_; (with_reducible refine (stowageref06_May.calls k1 ((rd_T85 l0 x5_1).f0) true _ A4.out).mono ?_); rintro e w7 ⟨rfl, hb⟩; refine ⟨_, rfl, ?_⟩; replace HB := am (below_step (bw HB.out) hb); (try clear hb); have p242 : 0 ≤ (x5_1 : Int) := of_decide_eq_true asm; have q242 : x5_1 < (l0.length : Int) := of_decide_eq_true asm; obtain ⟨ad242, e242, hx242_0, hx242_1⟩ := at_T85 HR0.out x5_1 p242 q242; obtain rfl : ad240 = ad242 := (by injection e242); replace hx242_0 := bc HB.out hx242_0; replace hx242_1 := bc HB.out hx242_1; replace p242 := eq_true p242; replace q242 := eq_true q242))
       go_ret2
       exact ⟨rf, bw HB.out⟩
      ·
       rcases iteD H with ⟨c8b0, H⟩ | ⟨c8b0, H⟩
       ·
        simp only [Option.some.injEq, Prod.mk.injEq] at H
        obtain ⟨rfl, rfl⟩ := H
        have p240 := pz x5_1
        have q240 := pl x5_1 (l0.length : Int)
        obtain ⟨ad240, e240, hx240_0, hx240_1⟩ := at_T85 HR0.out x5_1 (of_eq_true p240) (of_eq_true q240)
        cases e240
        replace hx240_0 := bc HB.out hx240_0
        replace hx240_1 := bc HB.out hx240_1
        go_wp2_with (first | ((with_reducible refine gate_callee (f := 45) rfl ?_); refine goesL_ (some 17) rfl rfl Tryd.func45 (by kernel_rfl) rfl #[.string ((rd_T85 l0 x5_1).f0)] rfl gl ?_; (with_reducible refine (stowageref06_May.calls k1 ((rd_T85 l0 x5_1).f0) true _ A4.out).mono ?_); rintro e w9 ⟨rfl, hb⟩; refine ⟨_, rfl, ?_⟩; replace HB := am (below_step (bw HB.out) hb); (try clear hb); have p242 : 0 ≤ (x5_1 : Int) := of_decide_eq_true asm; have q242 : x5_1 < (l0.length : Int) := of_decide_eq_true asm; obtain ⟨ad242, e242, hx242_0, hx242_1⟩ := at_T85 HR0.out x5_1 p242 q242; obtain rfl : ad240 = ad242 := (by injection e242); replace hx242_0 := bc HB.out hx242_0; replace hx242_1 := bc HB.out hx242_1; replace p242 := eq_true p242; replace q242 := eq_true q242; have p243 : 0 ≤ (x5_1 : Int) := of_decide_eq_true asm; have q243 : x5_1 < (l0.length : Int) := of_decide_eq_true asm; obtain ⟨ad243, e243, hx243_0, hx243_1⟩ := at_T85 HR0.out x5_1 p243 q243; obtain rfl : ad240 = ad243 := (by injection e243); replace hx243_0 := bc HB.out hx243_0; replace hx243_1 := bc HB.out hx243_1; replace p243 := eq_true p243; replace q243 := eq_true q243))
        go_ret2
        exact ⟨rf, bw HB.out⟩
       ·
        have H' := am H
        clear H
        have p240 := pz x5_1
        have q240 := pl x5_1 (l0.length : Int)
        obtain ⟨ad240, e240, hx240_0, hx240_1⟩ := at_T85 HR0.out x5_1 (of_eq_true p240) (of_eq_true q240)
        cases e240
        replace hx240_0 := bc HB.out hx240_0
        replace hx240_1 := bc HB.out hx240_1
        go_wp2_with (first | ((with_reducible refine gate_callee (f := 45) rfl ?_); refine goesL_ (some 17) rfl rfl Tryd.func45 (by kernel_rfl) rfl #[.string ((rd_T85 l0 x5_1).f0)] rfl gl ?_; (with_reducible refine (stowageref06_May.calls k1 ((rd_T85 l0 x5_1).f0) true _ A4.out).mono ?_); rintro e w10 ⟨rfl, hb⟩; refine ⟨_, rfl, ?_⟩; replace HB := am (below_step (bw HB.out) hb); (try clear hb); have p242 : 0 ≤ (x5_1 : Int) := of_decide_eq_true asm; have q242 : x5_1 < (l0.length : Int) := of_decide_eq_true asm; obtain ⟨ad242, e242, hx242_0, hx242_1⟩ := at_T85 HR0.out x5_1 p242 q242; obtain rfl : ad240 = ad242 := (by injection e242); replace hx242_0 := bc HB.out hx242_0; replace hx242_1 := bc HB.out hx242_1; replace p242 := eq_true p242; replace q242 := eq_true q242; have p243 : 0 ≤ (x5_1 : Int) := of_decide_eq_true asm; have q243 : x5_1 < (l0.length : Int) := of_decide_eq_true asm; obtain ⟨ad243, e243, hx243_0, hx243_1⟩ := at_T85 HR0.out x5_1 p243 q243; obtain rfl : ad240 = ad243 := (by injection e243); replace hx243_0 := bc HB.out hx243_0; replace hx243_1 := bc HB.out hx243_1; replace p243 := eq_true p243; replace q243 := eq_true q243; have p244 : 0 ≤ (x5_1 : Int) := of_decide_eq_true asm; have q244 : x5_1 < (l0.length : Int) := of_decide_eq_true asm; obtain ⟨ad244, e244, hx244_0, hx244_1⟩ := at_T85 HR0.out x5_1 p244 q244; obtain rfl : ad240 = ad244 := (by injection e244); replace hx244_0 := bc HB.out hx244_0; replace hx244_1 := bc HB.out hx244_1; replace p244 := eq_true p244; replace q244 := eq_true q244))
        go_roundg k1
        case measure => have := HK1.out; omega
        case rel => exact ⟨(wrap64 (x4_1 + ((rd_T85 l0 x5_1).f1))), (wrap64 (x5_1 + 1)), rs, rs, H', ⟨by have := HK1.out; omega⟩, ⟨bw HB.out⟩⟩
     ·
      replace c5 := Bool.eq_false_iff.mpr c5
      subst c5
      rw [if_neg (show ¬ (false = true) by decide)] at H
      simp only [Option.some.injEq, Prod.mk.injEq] at H
      obtain ⟨rfl, rfl⟩ := H
      have p240 := pz x5_1
      have q240 := pl x5_1 (l0.length : Int)
      obtain ⟨ad240, e240, hx240_0, hx240_1⟩ := at_T85 HR0.out x5_1 (of_eq_true p240) (of_eq_true q240)
      cases e240
      replace hx240_0 := bc HB.out hx240_0
      replace hx240_1 := bc HB.out hx240_1
      go_wp2_with (first | ((with_reducible refine gate_callee (f := 45) rfl ?_); refine goesL_ (some 17) rfl rfl Tryd.func45 (by kernel_rfl) rfl #[.string ((rd_T85 l0 x5_1).f0)] rfl gl ?_; (with_reducible refine (stowageref06_May.calls k1 ((rd_T85 l0 x5_1).f0) false _ A4.out).mono ?_); rintro e w11 ⟨rfl, hb⟩; refine ⟨_, rfl, ?_⟩; replace HB := am (below_step (bw HB.out) hb); (try clear hb)))
      go_ret2
      exact ⟨rf, bw HB.out⟩
    ·
     exact absurd H (by simp)
   ·
    by_cases c12 : (l0.length : Int) > 512
    ·
     rw [if_pos c12] at H
     have c12b0 := decide_eq_true c12
     have c12b1 : decide (512 < l0.length) = true := decide_eq_true (by omega)
     clear c12
     simp only [Option.some.injEq, Prod.mk.injEq] at H
     obtain ⟨rfl, rfl⟩ := H
     go_wp2
     go_ret2
     exact ⟨rf, bw HB.out⟩
    ·
     rw [if_neg c12] at H
     have c12b0 := decide_eq_false c12
     have c12b1 : decide (512 < l0.length) = false := decide_eq_false (by omega)
     clear c12
     simp only [Option.some.injEq, Prod.mk.injEq] at H
     obtain ⟨rfl, rfl⟩ := H
     go_wp2
     go_ret2
     exact ⟨rf, bw HB.out⟩
end Go.Proofs.YtoiockmmlanimaaDoor.Ob
end
section
namespace Go.Proofs.YtoiockmmlanimaaDoor.Ob
open Go.RowKit Go.Proofs.YtoiockmmlanimaaDoorW.PrintWords Go.Proofs.YtoiockmmlanimaaDoorW.PrintLast Go.Proofs.YtoiockmmlanimaaDoorW.PrintMore
attribute [local go_sem] max2_int min2_int max_two min_two max_three min_three max_four min_four
set_option linter.unusedVariables false
set_option linter.unusedSimpArgs false
def stowageref14_Check.f (k : Nat) (a0_0 : Int) (a0_1 : Int) (a0_2 : ByteArray) (l0_3 : List (S85)) : Option (Int) := (stowageref13_Pieces.f k l0_3).bind fun bt246 => (if a0_0 < 1 then (some 1) else (if a0_0 > 100 then (some 1) else (if bt246.2 = 0 then (if bt246.1 = a0_1 then ((stowageref06_May.f k a0_2).bind fun t248 => (if t248 = true then (some 0) else (some 1))) else (some 1)) else (some 1))))
theorem stowageref14_Check.mono : ∀ a0 a1 a2 a3 k, LeO (stowageref14_Check.f k a0 a1 a2 a3) (stowageref14_Check.f (k + 1) a0 a1 a2 a3) := by
 intro a0 a1 a2 a3 k
 unfold stowageref14_Check.f
 repeat' (with_reducible first | exact stowageref06_May.mono _ _ | exact stowageref13_Pieces.mono _ _ | exact LeO.refl _ | exact LeO.none _ | refine LeO.ite ?_ ?_ | refine LeO.bind ?_ (fun _ => ?_))
set_option maxHeartbeats 8000000 in
set_option maxRecDepth 100000 in
theorem stowageref14_Check.calls (k : Nat) (a0_0 : Int) (a0_1 : Int) (a0_2 : ByteArray) (A0_3 : Option Addr) (c0_3 : Nat) (l0_3 : List (S85)) (r : Int) (w : World) (hr0_3 : Kd.C k85 w A0_3 l0_3.length l0_3) (hc0_3 : l0_3.length ≤ c0_3) (h : stowageref14_Check.f k a0_0 a0_1 a0_2 l0_3 = some r) :
  Calls Tryd.prog 20 #[.agg #[.int .i64 a0_0, .int .i64 a0_1, .string a0_2, .slice A0_3 l0_3.length c0_3]] w fun e w' => e = .returned (.int .i64 r) ∧ Below w.heap.size w w' := by
 have hu52 := Tryd.underlying52
 have HR0_3 := am hr0_3
 have HC0_3 := am hc0_3
 clear hr0_3 hc0_3
 have HB := am (Below.refl w.heap.size w)
 have H := h
 clear h
 unfold stowageref14_Check.f at H
 obtain ⟨⟨t246, t247⟩, A2, H⟩ := obE H
 try dsimp only at H
 rcases iteD H with ⟨c3b0, H⟩ | ⟨c3b0, H⟩
 ·
  obtain rfl := Option.some.inj H
  go_enter Tryd.func20, Tryd.ntmps20
  go_wp2_with (first | ((with_reducible refine gate_dst (N := 1) rfl ?_); refine bx 1 #[.int .i64 a0_0, .int .i64 a0_1, .string a0_2, .slice A0_3 l0_3.length c0_3] 52 ?_; intro gb245 hg w4 hbox hb; have BK245 := am (hbox); have GW245 := gsz hg HB.out; have GE245 := gsz hg HB.out; replace HB := am (below_step (bw HB.out) hb); clear hb hbox hg; obtain ⟨hcz5_0, hcz5_1, hcz5_2, hcz5_3, hfz5_0, hfz5_1, hfz5_2, hfz5_3⟩ := cz4 BK245.out) | ((with_reducible refine gate_callee (f := 44) rfl ?_); refine goesL_ (some 8) rfl rfl Tryd.func44 (by kernel_rfl) rfl #[.slice A0_3 l0_3.length c0_3] rfl gl ?_; (with_reducible refine (stowageref13_Pieces.calls k _ _ l0_3 t246 t247 _ ?side1 ?side2 A2.out).mono ?_); (case side1 => exact kC (Kd.C_below HR0_3.out HB.out)); (case side2 => exact HC0_3.out); rintro e w6 ⟨rfl, hb⟩; refine ⟨_, rfl, ?_⟩; replace BK245 := bb BK245.out hb; replace HB := am (below_step (bws HB.out) hb); (try clear hb); obtain ⟨hcz7_0, hcz7_1, hcz7_2, hcz7_3, hfz7_0, hfz7_1, hfz7_2, hfz7_3⟩ := cz4 BK245.out))
  go_ret
  exact ⟨rf, bws HB.out⟩
 ·
  rcases iteD H with ⟨c8b0, H⟩ | ⟨c8b0, H⟩
  ·
   obtain rfl := Option.some.inj H
   go_enter Tryd.func20, Tryd.ntmps20
   go_wp2_with (first | ((with_reducible refine gate_dst (N := 1) rfl ?_); refine bx 1 #[.int .i64 a0_0, .int .i64 a0_1, .string a0_2, .slice A0_3 l0_3.length c0_3] 52 ?_; intro gb245 hg w9 hbox hb; have BK245 := am (hbox); have GW245 := gsz hg HB.out; have GE245 := gsz hg HB.out; replace HB := am (below_step (bw HB.out) hb); clear hb hbox hg; obtain ⟨hcz10_0, hcz10_1, hcz10_2, hcz10_3, hfz10_0, hfz10_1, hfz10_2, hfz10_3⟩ := cz4 BK245.out) | ((with_reducible refine gate_callee (f := 44) rfl ?_); refine goesL_ (some 8) rfl rfl Tryd.func44 (by kernel_rfl) rfl #[.slice A0_3 l0_3.length c0_3] rfl gl ?_; (with_reducible refine (stowageref13_Pieces.calls k _ _ l0_3 t246 t247 _ ?side1 ?side2 A2.out).mono ?_); (case side1 => exact kC (Kd.C_below HR0_3.out HB.out)); (case side2 => exact HC0_3.out); rintro e w11 ⟨rfl, hb⟩; refine ⟨_, rfl, ?_⟩; replace BK245 := bb BK245.out hb; replace HB := am (below_step (bws HB.out) hb); (try clear hb); obtain ⟨hcz12_0, hcz12_1, hcz12_2, hcz12_3, hfz12_0, hfz12_1, hfz12_2, hfz12_3⟩ := cz4 BK245.out))
   go_ret
   exact ⟨rf, bws HB.out⟩
  ·
   by_cases c13 : t247 = 0
   ·
    rw [if_pos c13] at H
    have c13b0 := beq_iff_eq.mpr c13
    have c13b1 := bne_eq_false_iff_eq.mpr c13
    clear c13
    by_cases c14 : t246 = a0_1
    ·
     rw [if_pos c14] at H
     have c14b0 := beq_iff_eq.mpr c14
     have c14b1 := bne_eq_false_iff_eq.mpr c14
     clear c14
     obtain ⟨t248, A15, H⟩ := obE H
     by_cases c16 : t248 = true
     ·
      subst c16
      rw [if_pos rfl] at H
      obtain rfl := Option.some.inj H
      go_enter Tryd.func20, Tryd.ntmps20
      go_wp2_with (first | ((with_reducible refine gate_dst (N := 1) rfl ?_); refine bx 1 #[.int .i64 a0_0, .int .i64 a0_1, .string a0_2, .slice A0_3 l0_3.length c0_3] 52 ?_; intro gb245 hg w17 hbox hb; have BK245 := am (hbox); have GW245 := gsz hg HB.out; have GE245 := gsz hg HB.out; replace HB := am (below_step (bw HB.out) hb); clear hb hbox hg; obtain ⟨hcz18_0, hcz18_1, hcz18_2, hcz18_3, hfz18_0, hfz18_1, hfz18_2, hfz18_3⟩ := cz4 BK245.out) | ((with_reducible refine gate_callee (f := 44) rfl ?_); refine goesL_ (some 8) rfl rfl Tryd.func44 (by kernel_rfl) rfl #[.slice A0_3 l0_3.length c0_3] rfl gl ?_; (with_reducible refine (stowageref13_Pieces.calls k _ _ l0_3 t246 t247 _ ?side1 ?side2 A2.out).mono ?_); (case side1 => exact kC (Kd.C_below HR0_3.out HB.out)); (case side2 => exact HC0_3.out); rintro e w19 ⟨rfl, hb⟩; refine ⟨_, rfl, ?_⟩; replace BK245 := bb BK245.out hb; replace HB := am (below_step (bws HB.out) hb); (try clear hb); obtain ⟨hcz20_0, hcz20_1, hcz20_2, hcz20_3, hfz20_0, hfz20_1, hfz20_2, hfz20_3⟩ := cz4 BK245.out) | (go_at_call 45; (with_reducible refine (stowageref06_May.calls k a0_2 true _ A15.out).mono ?_); rintro e w21 ⟨rfl, hb⟩; replace BK245 := bb BK245.out hb; replace HB := am (below_step (bws HB.out) hb); (try clear hb)))
      go_ret
      exact ⟨rf, bws HB.out⟩
     ·
      replace c16 := Bool.eq_false_iff.mpr c16
      subst c16
      rw [if_neg (show ¬ (false = true) by decide)] at H
      obtain rfl := Option.some.inj H
      go_enter Tryd.func20, Tryd.ntmps20
      go_wp2_with (first | ((with_reducible refine gate_dst (N := 1) rfl ?_); refine bx 1 #[.int .i64 a0_0, .int .i64 a0_1, .string a0_2, .slice A0_3 l0_3.length c0_3] 52 ?_; intro gb245 hg w22 hbox hb; have BK245 := am (hbox); have GW245 := gsz hg HB.out; have GE245 := gsz hg HB.out; replace HB := am (below_step (bw HB.out) hb); clear hb hbox hg; obtain ⟨hcz23_0, hcz23_1, hcz23_2, hcz23_3, hfz23_0, hfz23_1, hfz23_2, hfz23_3⟩ := cz4 BK245.out) | ((with_reducible refine gate_callee (f := 44) rfl ?_); refine goesL_ (some 8) rfl rfl Tryd.func44 (by kernel_rfl) rfl #[.slice A0_3 l0_3.length c0_3] rfl gl ?_; (with_reducible refine (stowageref13_Pieces.calls k _ _ l0_3 t246 t247 _ ?side1 ?side2 A2.out).mono ?_); (case side1 => exact kC (Kd.C_below HR0_3.out HB.out)); (case side2 => exact HC0_3.out); rintro e w24 ⟨rfl, hb⟩; refine ⟨_, rfl, ?_⟩; replace BK245 := bb BK245.out hb; replace HB := am (below_step (bws HB.out) hb); (try clear hb); obtain ⟨hcz25_0, hcz25_1, hcz25_2, hcz25_3, hfz25_0, hfz25_1, hfz25_2, hfz25_3⟩ := cz4 BK245.out) | (go_at_call 45; (with_reducible refine (stowageref06_May.calls k a0_2 false _ A15.out).mono ?_); rintro e w26 ⟨rfl, hb⟩; replace BK245 := bb BK245.out hb; replace HB := am (below_step (bws HB.out) hb); (try clear hb)))
      go_ret
      exact ⟨rf, bws HB.out⟩
    ·
     rw [if_neg c14] at H
     have c14b0 := beq_eq_false_iff_ne.mpr c14
     have c14b1 := bne_iff_ne.mpr c14
     obtain rfl := Option.some.inj H
     go_enter Tryd.func20, Tryd.ntmps20
     go_wp2_with (first | ((with_reducible refine gate_dst (N := 1) rfl ?_); refine bx 1 #[.int .i64 a0_0, .int .i64 a0_1, .string a0_2, .slice A0_3 l0_3.length c0_3] 52 ?_; intro gb245 hg w27 hbox hb; have BK245 := am (hbox); have GW245 := gsz hg HB.out; have GE245 := gsz hg HB.out; replace HB := am (below_step (bw HB.out) hb); clear hb hbox hg; obtain ⟨hcz28_0, hcz28_1, hcz28_2, hcz28_3, hfz28_0, hfz28_1, hfz28_2, hfz28_3⟩ := cz4 BK245.out) | ((with_reducible refine gate_callee (f := 44) rfl ?_); refine goesL_ (some 8) rfl rfl Tryd.func44 (by kernel_rfl) rfl #[.slice A0_3 l0_3.length c0_3] rfl gl ?_; (with_reducible refine (stowageref13_Pieces.calls k _ _ l0_3 t246 t247 _ ?side1 ?side2 A2.out).mono ?_); (case side1 => exact kC (Kd.C_below HR0_3.out HB.out)); (case side2 => exact HC0_3.out); rintro e w29 ⟨rfl, hb⟩; refine ⟨_, rfl, ?_⟩; replace BK245 := bb BK245.out hb; replace HB := am (below_step (bws HB.out) hb); (try clear hb); obtain ⟨hcz30_0, hcz30_1, hcz30_2, hcz30_3, hfz30_0, hfz30_1, hfz30_2, hfz30_3⟩ := cz4 BK245.out))
     go_ret
     exact ⟨rf, bws HB.out⟩
   ·
    rw [if_neg c13] at H
    have c13b0 := beq_eq_false_iff_ne.mpr c13
    have c13b1 := bne_iff_ne.mpr c13
    obtain rfl := Option.some.inj H
    go_enter Tryd.func20, Tryd.ntmps20
    go_wp2_with (first | ((with_reducible refine gate_dst (N := 1) rfl ?_); refine bx 1 #[.int .i64 a0_0, .int .i64 a0_1, .string a0_2, .slice A0_3 l0_3.length c0_3] 52 ?_; intro gb245 hg w31 hbox hb; have BK245 := am (hbox); have GW245 := gsz hg HB.out; have GE245 := gsz hg HB.out; replace HB := am (below_step (bw HB.out) hb); clear hb hbox hg; obtain ⟨hcz32_0, hcz32_1, hcz32_2, hcz32_3, hfz32_0, hfz32_1, hfz32_2, hfz32_3⟩ := cz4 BK245.out) | ((with_reducible refine gate_callee (f := 44) rfl ?_); refine goesL_ (some 8) rfl rfl Tryd.func44 (by kernel_rfl) rfl #[.slice A0_3 l0_3.length c0_3] rfl gl ?_; (with_reducible refine (stowageref13_Pieces.calls k _ _ l0_3 t246 t247 _ ?side1 ?side2 A2.out).mono ?_); (case side1 => exact kC (Kd.C_below HR0_3.out HB.out)); (case side2 => exact HC0_3.out); rintro e w33 ⟨rfl, hb⟩; refine ⟨_, rfl, ?_⟩; replace BK245 := bb BK245.out hb; replace HB := am (below_step (bws HB.out) hb); (try clear hb); obtain ⟨hcz34_0, hcz34_1, hcz34_2, hcz34_3, hfz34_0, hfz34_1, hfz34_2, hfz34_3⟩ := cz4 BK245.out))
    go_ret
    exact ⟨rf, bws HB.out⟩
def stowageref14_May.l0 : Nat → List (S52) → Int → Option (Bool)
 | 0, _, _ => none
 | k + 1, x0, x3 => if x3 < (x0.length : Int) then (if 0 ≤ x3 then ((stowageref14_Check.f k ((rd_T52 x0 x3).f0) ((rd_T52 x0 x3).f1) ((rd_T52 x0 x3).f2) ((rd_T52 x0 x3).f3)).bind fun t250 => (if t250 = 0 then (if x3 > 0 then (if 0 ≤ (wrap64 (x3 - 1)) then (if (wrap64 (x3 - 1)) < (x0.length : Int) then (if ((rd_T52 x0 (wrap64 (x3 - 1))).f0) ≥ ((rd_T52 x0 x3).f0) then (some false) else (stowageref14_May.l0 k x0 (wrap64 (x3 + 1)))) else (none)) else (none)) else (stowageref14_May.l0 k x0 (wrap64 (x3 + 1)))) else (some false))) else (none)) else (some true)
def stowageref14_May.f (k : Nat) (l0 : List (S52)) : Option (Bool) := stowageref14_May.l0 k l0 0
theorem stowageref14_May.mono_l : ∀ k, (∀ y0 y1, LeO (stowageref14_May.l0 k y0 y1) (stowageref14_May.l0 (k + 1) y0 y1))
 | 0 => fun _ _ r h => by simp [stowageref14_May.l0] at h
 | k + 1 => by
  have ih0 := stowageref14_May.mono_l k
  ·
   intro y0 y1
   unfold stowageref14_May.l0
   repeat' (with_reducible first | exact ih0 _ _ | exact stowageref14_Check.mono _ _ _ _ _ | exact LeO.refl _ | exact LeO.none _ | refine LeO.ite ?_ ?_ | refine LeO.bind ?_ (fun _ => ?_))
theorem stowageref14_May.mono : ∀ a0 k, LeO (stowageref14_May.f k a0) (stowageref14_May.f (k + 1) a0) := by
 intro a0 k
 have ih0 := stowageref14_May.mono_l k
 unfold stowageref14_May.f
 repeat' (with_reducible first | exact ih0 _ _ | exact stowageref14_Check.mono _ _ _ _ _ | exact LeO.refl _ | exact LeO.none _ | refine LeO.ite ?_ ?_ | refine LeO.bind ?_ (fun _ => ?_))
def stowageref14_May.T4 : Bool × List (List Nat × List Nat) := (true, [([], []), ([], []), ([0, 1], [0, 1]), ([2], [2]), ([3], [3]), ([4], [4]), ([5, 4], [5]), ([6], [6]), ([7, 6], [6, 7]), ([8, 6, 6], [6, 8]), ([9], [9]), ([9], [9]), ([11, 9], [9, 11]), ([10, 12, 9], [9, 10, 12]), ([13, 9], [9, 13]), ([14, 9], [9, 14]), ([9], [9]), ([9], [9]), ([16, 17, 9], [9, 16, 17]), ([18, 9], [9, 18]), ([19, 9], [9, 19]), ([15, 20, 9], [9, 15, 20]), ([9, 21, 6], [6, 9, 21]), ([6, 22], [6, 22])])
def stowageref14_May.B4 : List Nat := [0, 0, 3, 7, 15, 31, 63, 127, 255, 511, 1023, 1023, 3071, 8191, 16383, 32767, 1023, 1023, 197631, 459775, 984063, 2097151, 4194303, 8388607]
theorem stowageref14_May.tab4 : rtab .any (opsOf Tryd.f33 4) = stowageref14_May.T4 := by kernel_rfl
theorem stowageref14_May.bits4 : waitsOk stowageref14_May.T4.2 stowageref14_May.B4 = true := by kernel_rfl
set_option maxHeartbeats 8000000 in
set_option maxRecDepth 100000 in
theorem stowageref14_May.calls (k : Nat) (A0 : Option Addr) (c0 : Nat) (l0 : List (S52)) (r : Bool) (w : World) (hr0 : Kd.C k52 w A0 l0.length l0) (hc0 : l0.length ≤ c0) (h : stowageref14_May.f k l0 = some r) :
  Calls Tryd.prog 33 #[.slice A0 l0.length c0] w fun e w' => e = .returned (.bool r) ∧ Below w.heap.size w w' := by
 have hu52 := Tryd.underlying52
 have HR0 := am hr0
 have HC0 := am hc0
 clear hr0 hc0
 have HB := am (Below.refl w.heap.size w)
 have H := h
 clear h
 unfold stowageref14_May.f at H
 have H' := am H
 clear H
 go_enter Tryd.func33, Tryd.ntmps33
 go_wp2
 go_loopg [3] k (fun kq v3 w' => ∃ (x3_1 : Int), v3 = .int .i64 x3_1 ∧ Aside0 (stowageref14_May.l0 kq l0 x3_1 = some r) ∧ Aside0 (kq ≤ k) ∧ Aside0 (Below w.heap.size w w'))
 case atStart => exact ⟨(0), rs, H', ⟨Nat.le_refl _⟩, ⟨bw HB.out⟩⟩
 case round =>
  clear H'
  obtain ⟨x3_1, rfl, HA, HK1, HB⟩ := hrel
  cases gk with
  | zero => exact absurd HA.out (by simp [stowageref14_May.l0])
  | succ k1 =>
   have H := HA.out
   clear HA
   simp only [stowageref14_May.l0] at H
   rcases iteD H with ⟨c2b0, H⟩ | ⟨c2b0, H⟩
   ·
    rcases iteD H with ⟨c3b0, H⟩ | ⟨_, H⟩
    ·
     obtain ⟨t250, A4, H⟩ := obE H
     by_cases c5 : t250 = 0
     ·
      rw [if_pos c5] at H
      have c5b0 := beq_iff_eq.mpr c5
      have c5b1 := bne_eq_false_iff_eq.mpr c5
      clear c5
      rcases iteD H with ⟨c6b0, H⟩ | ⟨c6b0, H⟩
      ·
       obtain ⟨ji7, hji7⟩ : ∃ j_ : Int, (wrap64 (x3_1 - 1)) = j_ := ⟨_, rfl⟩
       replace H : (if 0 ≤ (ji7) then (if (ji7) < (l0.length : Int) then (if ((rd_T52 l0 (ji7)).f0) ≥ ((rd_T52 l0 x3_1).f0) then (some false) else (stowageref14_May.l0 k1 l0 (wrap64 (x3_1 + 1)))) else (none)) else (none)) = some r := by first | (rw [hji7] at H; exact H) | (simp only [hji7] at H ⊢; exact H)
       (try rw [hji7] at A4)
       have hji7w : (IntKind.i64.wrap (x3_1 - 1)) = ji7 := (i64_w _).trans hji7
       rcases iteD H with ⟨c8b0, H⟩ | ⟨_, H⟩
       ·
        rcases iteD H with ⟨c9b0, H⟩ | ⟨_, H⟩
        ·
         rcases iteD H with ⟨c10b0, H⟩ | ⟨c10b0, H⟩
         ·
          obtain rfl := Option.some.inj H
          try go_wp2
          replace HB := am (below_drew1 HB.out)
          have p249 := pz x3_1
          have q249 := pl x3_1 (l0.length : Int)
          obtain ⟨ad249, A249_3, c249_3, e249, hw249_0, hw249_1, hw249_2, hw249_3, hl249_3, hi249_3⟩ := at_T52 HR0.out x3_1 (of_eq_true p249) (of_eq_true q249)
          cases e249
          have hx249_0 := bc HB.out hw249_0
          have hx249_1 := bc HB.out hw249_1
          have hx249_2 := bc HB.out hw249_2
          have hx249_3 := bc HB.out hw249_3
          have HR249_3 := am hi249_3
          have HC249_3 := am hl249_3
          clear hi249_3 hl249_3
          have p251 := pz (ji7)
          have q251 := pl (ji7) (l0.length : Int)
          obtain ⟨ad251, A251_3, c251_3, e251, hw251_0, hw251_1, hw251_2, hw251_3, hl251_3, hi251_3⟩ := at_T52 HR0.out (ji7) (of_eq_true p251) (of_eq_true q251)
          obtain rfl : ad249 = ad251 := (by injection e251)
          have hx251_0 := bc HB.out hw251_0
          have hx251_1 := bc HB.out hw251_1
          have hx251_2 := bc HB.out hw251_2
          have hx251_3 := bc HB.out hw251_3
          have HR251_3 := am hi251_3
          have HC251_3 := am hl251_3
          clear hi251_3 hl251_3
          have p252 := pz x3_1
          have q252 := pl x3_1 (l0.length : Int)
          obtain ⟨ad252, A252_3, c252_3, e252, hw252_0, hw252_1, hw252_2, hw252_3, hl252_3, hi252_3⟩ := at_T52 HR0.out x3_1 (of_eq_true p252) (of_eq_true q252)
          obtain rfl : ad249 = ad252 := (by injection e252)
          have hx252_0 := bc HB.out hw252_0
          have hx252_1 := bc HB.out hw252_1
          have hx252_2 := bc HB.out hw252_2
          have hx252_3 := bc HB.out hw252_3
          have HR252_3 := am hi252_3
          have HC252_3 := am hl252_3
          clear hi252_3 hl252_3
          refine start_ (n := 24) (S := fun w' => w'.cell? (ad249.add ((x3_1).toNat * 4)) = some (.int .i64 ((rd_T52 l0 x3_1).f0)) ∧ w'.cell? ⟨(ad249.add ((x3_1).toNat * 4)).block, (ad249.add ((x3_1).toNat * 4)).off + 1, none⟩ = some (.int .i64 ((rd_T52 l0 x3_1).f1)) ∧ w'.cell? ⟨(ad249.add ((x3_1).toNat * 4)).block, (ad249.add ((x3_1).toNat * 4)).off + 2, none⟩ = some (.string ((rd_T52 l0 x3_1).f2)) ∧ w'.cell? ⟨(ad249.add ((x3_1).toNat * 4)).block, (ad249.add ((x3_1).toNat * 4)).off + 3, none⟩ = some (.slice A249_3 ((rd_T52 l0 x3_1).f3).length c249_3) ∧ w'.cell? (ad249.add (((ji7)).toNat * 4)) = some (.int .i64 ((rd_T52 l0 (ji7)).f0)) ∧ w'.cell? ⟨(ad249.add (((ji7)).toNat * 4)).block, (ad249.add (((ji7)).toNat * 4)).off + 1, none⟩ = some (.int .i64 ((rd_T52 l0 (ji7)).f1)) ∧ w'.cell? ⟨(ad249.add (((ji7)).toNat * 4)).block, (ad249.add (((ji7)).toNat * 4)).off + 2, none⟩ = some (.string ((rd_T52 l0 (ji7)).f2)) ∧ w'.cell? ⟨(ad249.add (((ji7)).toNat * 4)).block, (ad249.add (((ji7)).toNat * 4)).off + 3, none⟩ = some (.slice A251_3 ((rd_T52 l0 (ji7)).f3).length c251_3) ∧ w'.cell? ⟨(ad249.add ((x3_1).toNat * 4)).block, (ad249.add ((x3_1).toNat * 4)).off + 3, none⟩ = some (.slice A252_3 ((rd_T52 l0 x3_1).f3).length c252_3)) (ds := []) #[false, false, false, false, false, false, false, false, false, false, false, false, false, false, false, false, false, false, false, false, false, false, false, false] (by kernel_rfl) rfl rfl ⟨(bc HB.out hw249_0), (bc HB.out hw249_1), (bc HB.out hw249_2), (bc HB.out hw249_3), (bc HB.out hw251_0), (bc HB.out hw251_1), (bc HB.out hw251_2), (bc HB.out hw251_3), (bc HB.out hw252_3)⟩ (fun hHeld => ?_); refine with_tabW stowageref14_May.tab4 stowageref14_May.bits4 (fun HT_ HW_ => ?_)
          generalize wr.drew = w11 at HB HR249_3 HR251_3 HR252_3 hx249_0 hx249_1 hx249_2 hx249_3 hx251_0 hx251_1 hx251_2 hx251_3 hx252_0 hx252_1 hx252_2 hx252_3 hHeld ⊢
          refine pu 0 (some 10) HT_.out ?_
          refine pu 1 (some 11) HT_.out ?_
          refine pu 2 (some 12) HT_.out ?_
          refine tk 3 (some 13) HT_.out HW_.out hHeld ?_
          refine one_ (i := 4) (N := some 14) #[true, true, true, true, true, false, false, false, false, false, false, false, false, false, false, false, false, false, false, false, false, false, false, false] rfl rfl (one_of HT_.out (by kernel_rfl)) (by decide) (fun K hK => ?_)
          refine goes_ Tryd.func20 (by kernel_rfl) rfl #[.agg #[.int .i64 ((rd_T52 l0 x3_1).f0), .int .i64 ((rd_T52 l0 x3_1).f1), .string ((rd_T52 l0 x3_1).f2), .slice A249_3 ((rd_T52 l0 x3_1).f3).length c249_3]] (by rfl) rfl rfl gl ?_
          with_reducible refine (stowageref14_Check.calls k1 ((rd_T52 l0 x3_1).f0) ((rd_T52 l0 x3_1).f1) ((rd_T52 l0 x3_1).f2) _ _ ((rd_T52 l0 x3_1).f3) t250 _ ?side1 ?side2 A4.out).mono ?_
          (case side1 => exact kC (Kd.C_below HR249_3.out HB.out))
          (case side2 => exact HC249_3.out)
          rintro e w12 ⟨rfl, hb⟩
          refine ⟨_, rfl, ?_⟩
          replace HB := am (below_step (bw HB.out) hb)
          (try clear hb)
          (try clear hb2)
          (try clear hk)
          (try clear hi)
          refine hK.out _ _ ⟨(bc HB.out hw249_0), (bc HB.out hw249_1), (bc HB.out hw249_2), (bc HB.out hw249_3), (bc HB.out hw251_0), (bc HB.out hw251_1), (bc HB.out hw251_2), (bc HB.out hw251_3), (bc HB.out hw252_3)⟩ (fun hHeld => ?_)
          clear hK K
          refine norm_ (a' := ?_) ?_ ?_
          rotate_left
          ·
           show Act.put _ (some 14) _ = _
           simp only [Act.put, List.setIfInBounds_toArray, List.set_cons_zero, List.set_cons_succ, i64_w, i32_w]
           rfl
          refine pu 5 (some 15) HT_.out ?_
          refine pu 6 (some 16) HT_.out ?_
          refine pu 7 (some 17) HT_.out ?_
          refine pu 8 (some 18) HT_.out ?_
          refine pu 9 (some 19) HT_.out ?_
          refine pu 10 (some 20) HT_.out ?_
          refine pu 11 (some 21) HT_.out ?_
          refine pu 12 (some 22) HT_.out ?_
          refine pu 13 (some 23) HT_.out ?_
          refine pu 14 (some 24) HT_.out ?_
          refine pu 16 (some 26) HT_.out ?_
          refine pu 17 (some 27) HT_.out ?_
          refine pu 18 (some 28) HT_.out ?_
          refine pu 19 (some 29) HT_.out ?_
          refine tk 15 (some 25) HT_.out HW_.out hHeld ?_
          refine tk 20 (some 30) HT_.out HW_.out hHeld ?_
          refine pu 21 (some 31) HT_.out ?_
          refine pu 22 (some 32) HT_.out ?_
          refine pu 23 (some 33) HT_.out ?_
          refine done_ (done_of HT_.out (by kernel_rfl)) ?_
          try go_wp2
          go_ret
          exact ⟨by first | rfl | (simp [errW_none, errW_some] <;> rfl) | (simp only [← hji7]; first | rfl | (simp [errW_none, errW_some] <;> rfl)) | (simp [*, errW_none, errW_some] <;> rfl), bw HB.out⟩
         ·
          have H' := am H
          clear H
          try go_wp2
          replace HB := am (below_drew1 HB.out)
          have p249 := pz x3_1
          have q249 := pl x3_1 (l0.length : Int)
          obtain ⟨ad249, A249_3, c249_3, e249, hw249_0, hw249_1, hw249_2, hw249_3, hl249_3, hi249_3⟩ := at_T52 HR0.out x3_1 (of_eq_true p249) (of_eq_true q249)
          cases e249
          have hx249_0 := bc HB.out hw249_0
          have hx249_1 := bc HB.out hw249_1
          have hx249_2 := bc HB.out hw249_2
          have hx249_3 := bc HB.out hw249_3
          have HR249_3 := am hi249_3
          have HC249_3 := am hl249_3
          clear hi249_3 hl249_3
          have p251 := pz (ji7)
          have q251 := pl (ji7) (l0.length : Int)
          obtain ⟨ad251, A251_3, c251_3, e251, hw251_0, hw251_1, hw251_2, hw251_3, hl251_3, hi251_3⟩ := at_T52 HR0.out (ji7) (of_eq_true p251) (of_eq_true q251)
          obtain rfl : ad249 = ad251 := (by injection e251)
          have hx251_0 := bc HB.out hw251_0
          have hx251_1 := bc HB.out hw251_1
          have hx251_2 := bc HB.out hw251_2
          have hx251_3 := bc HB.out hw251_3
          have HR251_3 := am hi251_3
          have HC251_3 := am hl251_3
          clear hi251_3 hl251_3
          have p252 := pz x3_1
          have q252 := pl x3_1 (l0.length : Int)
          obtain ⟨ad252, A252_3, c252_3, e252, hw252_0, hw252_1, hw252_2, hw252_3, hl252_3, hi252_3⟩ := at_T52 HR0.out x3_1 (of_eq_true p252) (of_eq_true q252)
          obtain rfl : ad249 = ad252 := (by injection e252)
          have hx252_0 := bc HB.out hw252_0
          have hx252_1 := bc HB.out hw252_1
          have hx252_2 := bc HB.out hw252_2
          have hx252_3 := bc HB.out hw252_3
          have HR252_3 := am hi252_3
          have HC252_3 := am hl252_3
          clear hi252_3 hl252_3
          refine start_ (n := 24) (S := fun w' => w'.cell? (ad249.add ((x3_1).toNat * 4)) = some (.int .i64 ((rd_T52 l0 x3_1).f0)) ∧ w'.cell? ⟨(ad249.add ((x3_1).toNat * 4)).block, (ad249.add ((x3_1).toNat * 4)).off + 1, none⟩ = some (.int .i64 ((rd_T52 l0 x3_1).f1)) ∧ w'.cell? ⟨(ad249.add ((x3_1).toNat * 4)).block, (ad249.add ((x3_1).toNat * 4)).off + 2, none⟩ = some (.string ((rd_T52 l0 x3_1).f2)) ∧ w'.cell? ⟨(ad249.add ((x3_1).toNat * 4)).block, (ad249.add ((x3_1).toNat * 4)).off + 3, none⟩ = some (.slice A249_3 ((rd_T52 l0 x3_1).f3).length c249_3) ∧ w'.cell? (ad249.add (((ji7)).toNat * 4)) = some (.int .i64 ((rd_T52 l0 (ji7)).f0)) ∧ w'.cell? ⟨(ad249.add (((ji7)).toNat * 4)).block, (ad249.add (((ji7)).toNat * 4)).off + 1, none⟩ = some (.int .i64 ((rd_T52 l0 (ji7)).f1)) ∧ w'.cell? ⟨(ad249.add (((ji7)).toNat * 4)).block, (ad249.add (((ji7)).toNat * 4)).off + 2, none⟩ = some (.string ((rd_T52 l0 (ji7)).f2)) ∧ w'.cell? ⟨(ad249.add (((ji7)).toNat * 4)).block, (ad249.add (((ji7)).toNat * 4)).off + 3, none⟩ = some (.slice A251_3 ((rd_T52 l0 (ji7)).f3).length c251_3) ∧ w'.cell? ⟨(ad249.add ((x3_1).toNat * 4)).block, (ad249.add ((x3_1).toNat * 4)).off + 3, none⟩ = some (.slice A252_3 ((rd_T52 l0 x3_1).f3).length c252_3)) (ds := []) #[false, false, false, false, false, false, false, false, false, false, false, false, false, false, false, false, false, false, false, false, false, false, false, false] (by kernel_rfl) rfl rfl ⟨(bc HB.out hw249_0), (bc HB.out hw249_1), (bc HB.out hw249_2), (bc HB.out hw249_3), (bc HB.out hw251_0), (bc HB.out hw251_1), (bc HB.out hw251_2), (bc HB.out hw251_3), (bc HB.out hw252_3)⟩ (fun hHeld => ?_); refine with_tabW stowageref14_May.tab4 stowageref14_May.bits4 (fun HT_ HW_ => ?_)
          generalize wr.drew = w13 at HB HR249_3 HR251_3 HR252_3 hx249_0 hx249_1 hx249_2 hx249_3 hx251_0 hx251_1 hx251_2 hx251_3 hx252_0 hx252_1 hx252_2 hx252_3 hHeld ⊢
          refine pu 0 (some 10) HT_.out ?_
          refine pu 1 (some 11) HT_.out ?_
          refine pu 2 (some 12) HT_.out ?_
          refine tk 3 (some 13) HT_.out HW_.out hHeld ?_
          refine one_ (i := 4) (N := some 14) #[true, true, true, true, true, false, false, false, false, false, false, false, false, false, false, false, false, false, false, false, false, false, false, false] rfl rfl (one_of HT_.out (by kernel_rfl)) (by decide) (fun K hK => ?_)
          refine goes_ Tryd.func20 (by kernel_rfl) rfl #[.agg #[.int .i64 ((rd_T52 l0 x3_1).f0), .int .i64 ((rd_T52 l0 x3_1).f1), .string ((rd_T52 l0 x3_1).f2), .slice A249_3 ((rd_T52 l0 x3_1).f3).length c249_3]] (by rfl) rfl rfl gl ?_
          with_reducible refine (stowageref14_Check.calls k1 ((rd_T52 l0 x3_1).f0) ((rd_T52 l0 x3_1).f1) ((rd_T52 l0 x3_1).f2) _ _ ((rd_T52 l0 x3_1).f3) t250 _ ?side1 ?side2 A4.out).mono ?_
          (case side1 => exact kC (Kd.C_below HR249_3.out HB.out))
          (case side2 => exact HC249_3.out)
          rintro e w14 ⟨rfl, hb⟩
          refine ⟨_, rfl, ?_⟩
          replace HB := am (below_step (bw HB.out) hb)
          (try clear hb)
          (try clear hb2)
          (try clear hk)
          (try clear hi)
          refine hK.out _ _ ⟨(bc HB.out hw249_0), (bc HB.out hw249_1), (bc HB.out hw249_2), (bc HB.out hw249_3), (bc HB.out hw251_0), (bc HB.out hw251_1), (bc HB.out hw251_2), (bc HB.out hw251_3), (bc HB.out hw252_3)⟩ (fun hHeld => ?_)
          clear hK K
          refine norm_ (a' := ?_) ?_ ?_
          rotate_left
          ·
           show Act.put _ (some 14) _ = _
           simp only [Act.put, List.setIfInBounds_toArray, List.set_cons_zero, List.set_cons_succ, i64_w, i32_w]
           rfl
          refine pu 5 (some 15) HT_.out ?_
          refine pu 6 (some 16) HT_.out ?_
          refine pu 7 (some 17) HT_.out ?_
          refine pu 8 (some 18) HT_.out ?_
          refine pu 9 (some 19) HT_.out ?_
          refine pu 10 (some 20) HT_.out ?_
          refine pu 11 (some 21) HT_.out ?_
          refine pu 12 (some 22) HT_.out ?_
          refine pu 13 (some 23) HT_.out ?_
          refine pu 14 (some 24) HT_.out ?_
          refine pu 16 (some 26) HT_.out ?_
          refine pu 17 (some 27) HT_.out ?_
          refine pu 18 (some 28) HT_.out ?_
          refine pu 19 (some 29) HT_.out ?_
          refine tk 15 (some 25) HT_.out HW_.out hHeld ?_
          refine tk 20 (some 30) HT_.out HW_.out hHeld ?_
          refine pu 21 (some 31) HT_.out ?_
          refine pu 22 (some 32) HT_.out ?_
          refine pu 23 (some 33) HT_.out ?_
          refine done_ (done_of HT_.out (by kernel_rfl)) ?_
          try go_wp2
          go_roundg k1
          case measure => have := HK1.out; omega
          case rel => exact ⟨(wrap64 (x3_1 + 1)), rs, H', ⟨by have := HK1.out; omega⟩, ⟨bw HB.out⟩⟩
        ·
         exact absurd H (by simp)
       ·
        exact absurd H (by simp)
      ·
       have H' := am H
       clear H
       try go_wp2
       replace HB := am (below_drew1 HB.out)
       have p249 := pz x3_1
       have q249 := pl x3_1 (l0.length : Int)
       obtain ⟨ad249, A249_3, c249_3, e249, hw249_0, hw249_1, hw249_2, hw249_3, hl249_3, hi249_3⟩ := at_T52 HR0.out x3_1 (of_eq_true p249) (of_eq_true q249)
       cases e249
       have hx249_0 := bc HB.out hw249_0
       have hx249_1 := bc HB.out hw249_1
       have hx249_2 := bc HB.out hw249_2
       have hx249_3 := bc HB.out hw249_3
       have HR249_3 := am hi249_3
       have HC249_3 := am hl249_3
       clear hi249_3 hl249_3
       refine start_ (n := 24) (S := fun w' => w'.cell? (ad249.add ((x3_1).toNat * 4)) = some (.int .i64 ((rd_T52 l0 x3_1).f0)) ∧ w'.cell? ⟨(ad249.add ((x3_1).toNat * 4)).block, (ad249.add ((x3_1).toNat * 4)).off + 1, none⟩ = some (.int .i64 ((rd_T52 l0 x3_1).f1)) ∧ w'.cell? ⟨(ad249.add ((x3_1).toNat * 4)).block, (ad249.add ((x3_1).toNat * 4)).off + 2, none⟩ = some (.string ((rd_T52 l0 x3_1).f2)) ∧ w'.cell? ⟨(ad249.add ((x3_1).toNat * 4)).block, (ad249.add ((x3_1).toNat * 4)).off + 3, none⟩ = some (.slice A249_3 ((rd_T52 l0 x3_1).f3).length c249_3)) (ds := []) #[false, false, false, false, false, false, false, false, false, false, false, false, false, false, false, false, false, false, false, false, false, false, false, false] (by kernel_rfl) rfl rfl ⟨(bc HB.out hw249_0), (bc HB.out hw249_1), (bc HB.out hw249_2), (bc HB.out hw249_3)⟩ (fun hHeld => ?_); refine with_tabW stowageref14_May.tab4 stowageref14_May.bits4 (fun HT_ HW_ => ?_)
       generalize wr.drew = w15 at HB HR249_3 hx249_0 hx249_1 hx249_2 hx249_3 hHeld ⊢
       refine pu 0 (some 10) HT_.out ?_
       refine pu 1 (some 11) HT_.out ?_
       refine pu 2 (some 12) HT_.out ?_
       refine tk 3 (some 13) HT_.out HW_.out hHeld ?_
       refine one_ (i := 4) (N := some 14) #[true, true, true, true, true, false, false, false, false, false, false, false, false, false, false, false, false, false, false, false, false, false, false, false] rfl rfl (one_of HT_.out (by kernel_rfl)) (by decide) (fun K hK => ?_)
       refine goes_ Tryd.func20 (by kernel_rfl) rfl #[.agg #[.int .i64 ((rd_T52 l0 x3_1).f0), .int .i64 ((rd_T52 l0 x3_1).f1), .string ((rd_T52 l0 x3_1).f2), .slice A249_3 ((rd_T52 l0 x3_1).f3).length c249_3]] (by rfl) rfl rfl gl ?_
       with_reducible refine (stowageref14_Check.calls k1 ((rd_T52 l0 x3_1).f0) ((rd_T52 l0 x3_1).f1) ((rd_T52 l0 x3_1).f2) _ _ ((rd_T52 l0 x3_1).f3) t250 _ ?side1 ?side2 A4.out).mono ?_
       (case side1 => exact kC (Kd.C_below HR249_3.out HB.out))
       (case side2 => exact HC249_3.out)
       rintro e w16 ⟨rfl, hb⟩
       refine ⟨_, rfl, ?_⟩
       replace HB := am (below_step (bw HB.out) hb)
       (try clear hb)
       (try clear hb2)
       (try clear hk)
       (try clear hi)
       refine hK.out _ _ ⟨(bc HB.out hw249_0), (bc HB.out hw249_1), (bc HB.out hw249_2), (bc HB.out hw249_3)⟩ (fun hHeld => ?_)
       clear hK K
       refine norm_ (a' := ?_) ?_ ?_
       rotate_left
       ·
        show Act.put _ (some 14) _ = _
        simp only [Act.put, List.setIfInBounds_toArray, List.set_cons_zero, List.set_cons_succ, i64_w, i32_w]
        rfl
       refine pu 5 (some 15) HT_.out ?_
       refine pu 6 (some 16) HT_.out ?_
       refine pu 7 (some 17) HT_.out ?_
       refine pu 8 (some 18) HT_.out ?_
       refine pu 9 (some 19) HT_.out ?_
       refine un 10 (some 20) HT_.out ?_
       refine un 11 (some 21) HT_.out ?_
       refine un 12 (some 22) HT_.out ?_
       refine un 13 (some 23) HT_.out ?_
       refine un 14 (some 24) HT_.out ?_
       refine un 15 (some 25) HT_.out ?_
       refine un 16 (some 26) HT_.out ?_
       refine un 17 (some 27) HT_.out ?_
       refine un 18 (some 28) HT_.out ?_
       refine un 19 (some 29) HT_.out ?_
       refine un 20 (some 30) HT_.out ?_
       refine un 21 (some 31) HT_.out ?_
       refine pu 22 (some 32) HT_.out ?_
       refine pu 23 (some 33) HT_.out ?_
       refine done_ (done_of HT_.out (by kernel_rfl)) ?_
       try go_wp2
       go_roundg k1
       case measure => have := HK1.out; omega
       case rel => exact ⟨(wrap64 (x3_1 + 1)), rs, H', ⟨by have := HK1.out; omega⟩, ⟨bw HB.out⟩⟩
     ·
      rw [if_neg c5] at H
      have c5b0 := beq_eq_false_iff_ne.mpr c5
      have c5b1 := bne_iff_ne.mpr c5
      obtain rfl := Option.some.inj H
      try go_wp2
      replace HB := am (below_drew1 HB.out)
      have p249 := pz x3_1
      have q249 := pl x3_1 (l0.length : Int)
      obtain ⟨ad249, A249_3, c249_3, e249, hw249_0, hw249_1, hw249_2, hw249_3, hl249_3, hi249_3⟩ := at_T52 HR0.out x3_1 (of_eq_true p249) (of_eq_true q249)
      cases e249
      have hx249_0 := bc HB.out hw249_0
      have hx249_1 := bc HB.out hw249_1
      have hx249_2 := bc HB.out hw249_2
      have hx249_3 := bc HB.out hw249_3
      have HR249_3 := am hi249_3
      have HC249_3 := am hl249_3
      clear hi249_3 hl249_3
      refine start_ (n := 24) (S := fun w' => w'.cell? (ad249.add ((x3_1).toNat * 4)) = some (.int .i64 ((rd_T52 l0 x3_1).f0)) ∧ w'.cell? ⟨(ad249.add ((x3_1).toNat * 4)).block, (ad249.add ((x3_1).toNat * 4)).off + 1, none⟩ = some (.int .i64 ((rd_T52 l0 x3_1).f1)) ∧ w'.cell? ⟨(ad249.add ((x3_1).toNat * 4)).block, (ad249.add ((x3_1).toNat * 4)).off + 2, none⟩ = some (.string ((rd_T52 l0 x3_1).f2)) ∧ w'.cell? ⟨(ad249.add ((x3_1).toNat * 4)).block, (ad249.add ((x3_1).toNat * 4)).off + 3, none⟩ = some (.slice A249_3 ((rd_T52 l0 x3_1).f3).length c249_3)) (ds := []) #[false, false, false, false, false, false, false, false, false, false, false, false, false, false, false, false, false, false, false, false, false, false, false, false] (by kernel_rfl) rfl rfl ⟨(bc HB.out hw249_0), (bc HB.out hw249_1), (bc HB.out hw249_2), (bc HB.out hw249_3)⟩ (fun hHeld => ?_); refine with_tabW stowageref14_May.tab4 stowageref14_May.bits4 (fun HT_ HW_ => ?_)
      generalize wr.drew = w17 at HB HR249_3 hx249_0 hx249_1 hx249_2 hx249_3 hHeld ⊢
      refine pu 0 (some 10) HT_.out ?_
      refine pu 1 (some 11) HT_.out ?_
      refine pu 2 (some 12) HT_.out ?_
      refine tk 3 (some 13) HT_.out HW_.out hHeld ?_
      refine one_ (i := 4) (N := some 14) #[true, true, true, true, true, false, false, false, false, false, false, false, false, false, false, false, false, false, false, false, false, false, false, false] rfl rfl (one_of HT_.out (by kernel_rfl)) (by decide) (fun K hK => ?_)
      refine goes_ Tryd.func20 (by kernel_rfl) rfl #[.agg #[.int .i64 ((rd_T52 l0 x3_1).f0), .int .i64 ((rd_T52 l0 x3_1).f1), .string ((rd_T52 l0 x3_1).f2), .slice A249_3 ((rd_T52 l0 x3_1).f3).length c249_3]] (by rfl) rfl rfl gl ?_
      with_reducible refine (stowageref14_Check.calls k1 ((rd_T52 l0 x3_1).f0) ((rd_T52 l0 x3_1).f1) ((rd_T52 l0 x3_1).f2) _ _ ((rd_T52 l0 x3_1).f3) t250 _ ?side1 ?side2 A4.out).mono ?_
      (case side1 => exact kC (Kd.C_below HR249_3.out HB.out))
      (case side2 => exact HC249_3.out)
      rintro e w18 ⟨rfl, hb⟩
      refine ⟨_, rfl, ?_⟩
      replace HB := am (below_step (bw HB.out) hb)
      (try clear hb)
      (try clear hb2)
      (try clear hk)
      (try clear hi)
      refine hK.out _ _ ⟨(bc HB.out hw249_0), (bc HB.out hw249_1), (bc HB.out hw249_2), (bc HB.out hw249_3)⟩ (fun hHeld => ?_)
      clear hK K
      refine norm_ (a' := ?_) ?_ ?_
      rotate_left
      ·
       show Act.put _ (some 14) _ = _
       simp only [Act.put, List.setIfInBounds_toArray, List.set_cons_zero, List.set_cons_succ, i64_w, i32_w]
       rfl
      refine pu 5 (some 15) HT_.out ?_
      refine pu 6 (some 16) HT_.out ?_
      refine un 7 (some 17) HT_.out ?_
      refine un 8 (some 18) HT_.out ?_
      refine un 9 (some 19) HT_.out ?_
      refine un 10 (some 20) HT_.out ?_
      refine un 11 (some 21) HT_.out ?_
      refine un 12 (some 22) HT_.out ?_
      refine un 13 (some 23) HT_.out ?_
      refine un 14 (some 24) HT_.out ?_
      refine un 15 (some 25) HT_.out ?_
      refine un 16 (some 26) HT_.out ?_
      refine un 17 (some 27) HT_.out ?_
      refine un 18 (some 28) HT_.out ?_
      refine un 19 (some 29) HT_.out ?_
      refine un 20 (some 30) HT_.out ?_
      refine un 21 (some 31) HT_.out ?_
      refine un 22 (some 32) HT_.out ?_
      refine pu 23 (some 33) HT_.out ?_
      refine done_ (done_of HT_.out (by kernel_rfl)) ?_
      try go_wp2
      go_ret
      exact ⟨rf, bw HB.out⟩
    ·
     exact absurd H (by simp)
   ·
    obtain rfl := Option.some.inj H
    go_wp2
    go_ret
    exact ⟨rf, bw HB.out⟩
def stowageref01_Number.f : Nat → Int → Option (ByteArray)
 | 0, _ => none
 | k + 1, a0 => if a0 < 128 then (some (strOfNums (([(a0) % 256] : List Int)))) else ((some (([(IntKind.u64.wrap ((Int.tmod a0 128) + 128)) % 256] : List Int) : List Int)).bind fun y256 => ((stowageref01_Number.f k (IntKind.u64.wrap (Int.tdiv a0 128))).bind fun t259 => (if (strOfNums y256).size + t259.size ≤ 9223372036854775807 then (some ((strOfNums y256) ++ t259)) else (none))))
theorem stowageref01_Number.mono_l : ∀ k, (∀ y0, LeO (stowageref01_Number.f k y0) (stowageref01_Number.f (k + 1) y0))
 | 0 => fun _ r h => by simp [stowageref01_Number.f] at h
 | k + 1 => by
  have ih0 := stowageref01_Number.mono_l k
  ·
   intro y0
   unfold stowageref01_Number.f
   repeat' (with_reducible first | exact ih0 _ | exact LeO.refl _ | exact LeO.none _ | refine LeO.ite ?_ ?_ | refine LeO.bind ?_ (fun _ => ?_))
theorem stowageref01_Number.mono : ∀ a0 k, LeO (stowageref01_Number.f k a0) (stowageref01_Number.f (k + 1) a0) := by
 intro a0 k
 have ih0 := stowageref01_Number.mono_l k
 exact ih0 a0
def stowageref01_Number.T3 : Bool × List (List Nat × List Nat) := (true, [([], []), ([0], [0]), ([1], [1]), ([2], [2]), ([3], [3]), ([4], [4]), ([], []), ([6], [6]), ([7], [7]), ([5, 8], [5, 8]), ([9, 8, 0, 1, 2, 3, 4, 5, 6, 7, 8, 9], [9])])
def stowageref01_Number.B3 : List Nat := [0, 1, 3, 7, 15, 31, 0, 64, 192, 511, 1023]
theorem stowageref01_Number.tab3 : rtab .any (opsOf Tryd.f49 3) = stowageref01_Number.T3 := by kernel_rfl
theorem stowageref01_Number.bits3 : waitsOk stowageref01_Number.T3.2 stowageref01_Number.B3 = true := by kernel_rfl
set_option maxHeartbeats 8000000 in
set_option maxRecDepth 100000 in
theorem stowageref01_Number.calls (k : Nat) : ∀ (a0 : Int) (r : ByteArray) (w : World) (h : stowageref01_Number.f k a0 = some r),
  Calls Tryd.prog 49 #[.int .u64 a0] w fun e w' => e = .returned (.string r) ∧ Below w.heap.size w w' := by
 induction k using Nat.strongRecOn with
 | _ k ih =>
 intro a0 r w h
 cases k with
 | zero => exact absurd h (by simp [stowageref01_Number.f])
 | succ k =>
 simp only [stowageref01_Number.f] at h
 have HB := am (Below.refl w.heap.size w)
 have H : (if a0 < 128 then (some (strOfNums (([(a0) % 256] : List Int)))) else ((some (([(IntKind.u64.wrap ((Int.tmod a0 128) + 128)) % 256] : List Int) : List Int)).bind fun y256 => ((stowageref01_Number.f k (IntKind.u64.wrap (Int.tdiv a0 128))).bind fun t259 => (if (strOfNums y256).size + t259.size ≤ 9223372036854775807 then (some ((strOfNums y256) ++ t259)) else (none))))) = some r := h
 clear h
 rcases iteD H with ⟨c2b0, H⟩ | ⟨c2b0, H⟩
 ·
  obtain ⟨y253, hy253⟩ : ∃ y_ : List Int, y_ = (([(a0) % 256] : List Int)) := ⟨_, rfl⟩
  replace H : (some (strOfNums y253)) = some r := by first | (rw [hy253]; with_reducible exact H) | (have H2_ := (Option.bind_some _ _).symm.trans H; rw [hy253]; with_reducible exact H2_) | (have H2_ := (Option.bind_some _ _).symm.trans H; with_reducible exact H2_) | with_reducible exact H | (rw [hy253]; exact H) | exact H
  have Ny253 := am hy253
  clear hy253
  obtain rfl := Option.some.inj H
  go_enter Tryd.func49, Tryd.ntmps49
  go_wp2_with (first | ((with_reducible refine gate_dst (N := 7) rfl ?_); refine Kd.R_lit (Kd.int .u8) _ 5 ?hg (N := 7) ?hd (xs := ([(a0) % 256] : List Int)) (inner := [.int .u8 ((a0) % 256)]) (ok := fun _ => True) (okp := fun _ => True) ?hr ?hp (fun _ hk => hk) trivial (Below.refl _ _) (Nat.le_refl _) (by simp) ?_; (case hd => rfl); (case hg => rfl); (case hr => first | (go_simp; done) | (go_simp; rfl)); (case hp => exact (Reps.one (show Kd.M (Kd.int .u8) _ _ _ ((a0) % 256) [.int .u8 ((a0) % 256)] from rfl) (Reps.none _ _))); intro v254 w3 ho4 hb hg_ hnew_; clear hg_ hnew_; (first | rw [← Ny253.out] at ho4 | (simp only [Int.reduceToNat] at ho4; rw [← Ny253.out] at ho4)); have HO255 := am (Kd.R_lower ho4 (below_size (bw HB.out))); replace HB := am (below_step (bw HB.out) hb); clear hb ho4; have hcv5 := own_string (P := Tryd.prog) Tryd.underlying113 Tryd.underlying5 Tryd.underlying9 (Kd.own_of_R HO255.out)))
  go_ret
  exact ⟨rf, bw HB.out⟩
 ·
  obtain ⟨y256, hy256⟩ : ∃ y_ : List Int, y_ = (([(IntKind.u64.wrap ((Int.tmod a0 128) + 128)) % 256] : List Int)) := ⟨_, rfl⟩
  replace H : ((stowageref01_Number.f k (IntKind.u64.wrap (Int.tdiv a0 128))).bind fun t259 => (if (strOfNums y256).size + t259.size ≤ 9223372036854775807 then (some ((strOfNums y256) ++ t259)) else (none))) = some r := by first | (rw [hy256]; with_reducible exact H) | (have H2_ := (Option.bind_some _ _).symm.trans H; rw [hy256]; with_reducible exact H2_) | (have H2_ := (Option.bind_some _ _).symm.trans H; with_reducible exact H2_) | with_reducible exact H | (rw [hy256]; exact H) | exact H
  have Ny256 := am hy256
  clear hy256
  obtain ⟨t259, A6, H⟩ := obE H
  by_cases c7 : (strOfNums y256).size + t259.size ≤ 9223372036854775807
  ·
   rw [if_pos c7] at H
   have c7b0 := eq_true c7
   have c7b1 := decide_eq_true c7
   try have c7b2 : (9223372036854775807 < (strOfNums y256).size + t259.size) = False := eq_false (Nat.not_lt.2 c7)
   (try (have c7b3 := c7b2; simp only [ByteArray.size_append] at c7b3))
   obtain rfl := Option.some.inj H
   go_enter Tryd.func49, Tryd.ntmps49
   try go_wp2
   replace HB := am (below_drew1 HB.out)
   refine start_ (n := 11) (S := fun w' => True) (ds := []) #[false, false, false, false, false, false, false, false, false, false, false] (by kernel_rfl) rfl rfl trivial (fun hHeld => ?_); refine with_tabW stowageref01_Number.tab3 stowageref01_Number.bits3 (fun HT_ HW_ => ?_)
   generalize w.drew = w8 at HB hHeld ⊢
   refine pu 0 (some 9) HT_.out ?_
   refine pu 1 (some 10) HT_.out ?_
   refine pu 2 (some 11) HT_.out ?_
   refine pu 3 (some 12) HT_.out ?_
   refine pu 6 (some 15) HT_.out ?_
   refine pu 7 (some 16) HT_.out ?_
   refine join_ (σ := Value) 2 #[true, true, true, true, true, true, true, true, true, false, false] (fun s_ => [(13, s_), (14, .string (strOfNums y256)), (17, .string t259)]) (fun s_ w' => (Kd.R (Kd.int .u8) 5 w' w.heap.size (fun _ => True) s_ y256) ∧ (Below w.heap.size w w')) ?_ ?_
   rotate_left
   ·
    intro hCont
    refine two_ (i := 4) (j := 8) (Ni := some 13) (Nj := some 17) #[true, true, true, true, true, false, true, true, false, false, false] #[true, true, true, true, false, false, true, true, true, false, false] rfl rfl rfl rfl (two_of HT_.out (by kernel_rfl)) (by decide) (by decide) (fun K hK => ?_) (fun K hK => ?_)
    ·
     skip
     refine Kd.R_lit_step (Kd.int .u8) _ 5 ?hg (N := 13) ?hd (xs := ([(IntKind.u64.wrap ((Int.tmod a0 128) + 128)) % 256] : List Int)) (inner := [.int .u8 ((IntKind.u64.wrap ((Int.tmod a0 128) + 128)) % 256)]) (ok := fun _ => True) (okp := fun _ => True) ?hr ?hp (fun _ hk => hk) trivial (Below.refl _ _) (Nat.le_refl _) (by simp) ?_; (case hd => rfl); (case hg => rfl); (case hr => first | (go_simp; done) | (go_simp; rfl)); (case hp => exact (Reps.one (show Kd.M (Kd.int .u8) _ _ _ ((IntKind.u64.wrap ((Int.tmod a0 128) + 128)) % 256) [.int .u8 ((IntKind.u64.wrap ((Int.tmod a0 128) + 128)) % 256)] from rfl) (Reps.none _ _)))
     intro v257 w9 ho10 hb hg_ hnew_
     clear hg_ hnew_
     (first | rw [← Ny256.out] at ho10 | (simp only [Int.reduceToNat] at ho10; rw [← Ny256.out] at ho10))
     have HO258 := am (Kd.R_lower ho10 (below_size (bw HB.out)))
     replace HB := am (below_step (bw HB.out) hb)
     clear hb ho10
     refine hK.out _ _ trivial (fun hHeld => ?_)
     clear hK K
     refine norm_ (a' := ?_) ?_ ?_
     rotate_left
     ·
      show Act.put _ (some 13) _ = _
      simp only [Act.put, List.setIfInBounds_toArray, List.set_cons_zero, List.set_cons_succ, i64_w, i32_w]
      rfl
     refine two_ (i := 5) (j := 8) (Ni := some 14) (Nj := some 17) #[true, true, true, true, true, true, true, true, false, false, false] #[true, true, true, true, true, false, true, true, true, false, false] rfl rfl rfl rfl (two_of HT_.out (by kernel_rfl)) (by decide) (by decide) (fun K hK => ?_) (fun K hK => ?_)
     ·
      skip
      have hcv11 := own_string (P := Tryd.prog) Tryd.underlying113 Tryd.underlying5 Tryd.underlying9 (Kd.own_of_R HO258.out)
      refine value_ (w1 := ?_) (v := ?_) (by rfl) rfl ?_ ?_
      rotate_left 2
      ·
       go_simp
       constructor
       ·
        rfl
       ·
        rfl
      clear hcv11
      refine hK.out _ _ trivial (fun hHeld => ?_)
      clear hK K
      refine norm_ (a' := ?_) ?_ ?_
      rotate_left
      ·
       show Act.put _ (some 14) _ = _
       simp only [Act.put, List.setIfInBounds_toArray, List.set_cons_zero, List.set_cons_succ, i64_w, i32_w]
       rfl
      refine one_ (i := 8) (N := some 17) #[true, true, true, true, true, true, true, true, true, false, false] rfl rfl (one_of HT_.out (by kernel_rfl)) (by decide) (fun K hK => ?_)
      refine goes_ Tryd.func49 (by kernel_rfl) rfl #[.int .u64 (IntKind.u64.wrap (Int.tdiv a0 128))] (by rfl) rfl rfl gl ?_
      with_reducible refine (ih k (by omega) (IntKind.u64.wrap (Int.tdiv a0 128)) t259 _ A6.out).mono ?_
      rintro e w12 ⟨rfl, hb⟩
      refine ⟨_, rfl, ?_⟩
      replace HO258 := am (Kd.R_below (kR HO258.out) hb)
      replace HB := am (below_step (bw HB.out) hb)
      (try clear hb)
      (try clear hb2)
      (try clear hk)
      (try clear hi)
      refine hK.out _ _ trivial (fun hHeld => ?_)
      clear hK K
      refine norm_ (a' := ?_) ?_ ?_
      rotate_left
      ·
       show Act.put _ (some 17) _ = _
       simp only [Act.put, List.setIfInBounds_toArray, List.set_cons_zero, List.set_cons_succ, i64_w, i32_w]
       rfl
      exact norm_ (by simp only [putAll, Act.put, List.setIfInBounds_toArray, List.set_cons_zero, List.set_cons_succ]) (hCont (v257) _ ⟨(kR HO258.out), (bw HB.out)⟩)
     ·
      skip
      refine goes_ Tryd.func49 (by kernel_rfl) rfl #[.int .u64 (IntKind.u64.wrap (Int.tdiv a0 128))] (by rfl) rfl rfl gl ?_
      with_reducible refine (ih k (by omega) (IntKind.u64.wrap (Int.tdiv a0 128)) t259 _ A6.out).mono ?_
      rintro e w11 ⟨rfl, hb⟩
      refine ⟨_, rfl, ?_⟩
      replace HO258 := am (Kd.R_below (kR HO258.out) hb)
      replace HB := am (below_step (bw HB.out) hb)
      (try clear hb)
      (try clear hb2)
      (try clear hk)
      (try clear hi)
      refine hK.out _ _ trivial (fun hHeld => ?_)
      clear hK K
      refine norm_ (a' := ?_) ?_ ?_
      rotate_left
      ·
       show Act.put _ (some 17) _ = _
       simp only [Act.put, List.setIfInBounds_toArray, List.set_cons_zero, List.set_cons_succ, i64_w, i32_w]
       rfl
      refine one_ (i := 5) (N := some 14) #[true, true, true, true, true, true, true, true, true, false, false] rfl rfl (one_of HT_.out (by kernel_rfl)) (by decide) (fun K hK => ?_)
      have hcv12 := own_string (P := Tryd.prog) Tryd.underlying113 Tryd.underlying5 Tryd.underlying9 (Kd.own_of_R HO258.out)
      refine value_ (w1 := ?_) (v := ?_) (by rfl) rfl ?_ ?_
      rotate_left 2
      ·
       go_simp
       constructor
       ·
        rfl
       ·
        rfl
      clear hcv12
      refine hK.out _ _ trivial (fun hHeld => ?_)
      clear hK K
      refine norm_ (a' := ?_) ?_ ?_
      rotate_left
      ·
       show Act.put _ (some 14) _ = _
       simp only [Act.put, List.setIfInBounds_toArray, List.set_cons_zero, List.set_cons_succ, i64_w, i32_w]
       rfl
      exact norm_ (by simp only [putAll, Act.put, List.setIfInBounds_toArray, List.set_cons_zero, List.set_cons_succ]) (hCont (v257) _ ⟨(kR HO258.out), (bw HB.out)⟩)
    ·
     skip
     refine goes_ Tryd.func49 (by kernel_rfl) rfl #[.int .u64 (IntKind.u64.wrap (Int.tdiv a0 128))] (by rfl) rfl rfl gl ?_
     with_reducible refine (ih k (by omega) (IntKind.u64.wrap (Int.tdiv a0 128)) t259 _ A6.out).mono ?_
     rintro e w9 ⟨rfl, hb⟩
     refine ⟨_, rfl, ?_⟩
     replace HB := am (below_step (bw HB.out) hb)
     (try clear hb)
     (try clear hb2)
     (try clear hk)
     (try clear hi)
     refine hK.out _ _ trivial (fun hHeld => ?_)
     clear hK K
     refine norm_ (a' := ?_) ?_ ?_
     rotate_left
     ·
      show Act.put _ (some 17) _ = _
      simp only [Act.put, List.setIfInBounds_toArray, List.set_cons_zero, List.set_cons_succ, i64_w, i32_w]
      rfl
     refine one_ (i := 4) (N := some 13) #[true, true, true, true, true, false, true, true, true, false, false] rfl rfl (one_of HT_.out (by kernel_rfl)) (by decide) (fun K hK => ?_)
     refine Kd.R_lit_step (Kd.int .u8) _ 5 ?hg (N := 13) ?hd (xs := ([(IntKind.u64.wrap ((Int.tmod a0 128) + 128)) % 256] : List Int)) (inner := [.int .u8 ((IntKind.u64.wrap ((Int.tmod a0 128) + 128)) % 256)]) (ok := fun _ => True) (okp := fun _ => True) ?hr ?hp (fun _ hk => hk) trivial (Below.refl _ _) (Nat.le_refl _) (by simp) ?_; (case hd => rfl); (case hg => rfl); (case hr => first | (go_simp; done) | (go_simp; rfl)); (case hp => exact (Reps.one (show Kd.M (Kd.int .u8) _ _ _ ((IntKind.u64.wrap ((Int.tmod a0 128) + 128)) % 256) [.int .u8 ((IntKind.u64.wrap ((Int.tmod a0 128) + 128)) % 256)] from rfl) (Reps.none _ _)))
     intro v257 w10 ho11 hb hg_ hnew_
     clear hg_ hnew_
     (first | rw [← Ny256.out] at ho11 | (simp only [Int.reduceToNat] at ho11; rw [← Ny256.out] at ho11))
     have HO258 := am (Kd.R_lower ho11 (below_size (bw HB.out)))
     replace HB := am (below_step (bw HB.out) hb)
     clear hb ho11
     refine hK.out _ _ trivial (fun hHeld => ?_)
     clear hK K
     refine norm_ (a' := ?_) ?_ ?_
     rotate_left
     ·
      show Act.put _ (some 13) _ = _
      simp only [Act.put, List.setIfInBounds_toArray, List.set_cons_zero, List.set_cons_succ, i64_w, i32_w]
      rfl
     refine one_ (i := 5) (N := some 14) #[true, true, true, true, true, true, true, true, true, false, false] rfl rfl (one_of HT_.out (by kernel_rfl)) (by decide) (fun K hK => ?_)
     have hcv12 := own_string (P := Tryd.prog) Tryd.underlying113 Tryd.underlying5 Tryd.underlying9 (Kd.own_of_R HO258.out)
     refine value_ (w1 := ?_) (v := ?_) (by rfl) rfl ?_ ?_
     rotate_left 2
     ·
      go_simp
      constructor
      ·
       rfl
      ·
       rfl
     clear hcv12
     refine hK.out _ _ trivial (fun hHeld => ?_)
     clear hK K
     refine norm_ (a' := ?_) ?_ ?_
     rotate_left
     ·
      show Act.put _ (some 14) _ = _
      simp only [Act.put, List.setIfInBounds_toArray, List.set_cons_zero, List.set_cons_succ, i64_w, i32_w]
      rfl
     exact norm_ (by simp only [putAll, Act.put, List.setIfInBounds_toArray, List.set_cons_zero, List.set_cons_succ]) (hCont (v257) _ ⟨(kR HO258.out), (bw HB.out)⟩)
   rintro v257 w13 ⟨h0_, h1_⟩
   have n0_ : Aside0 (Kd.R (Kd.int .u8) 5 w13 w.heap.size (fun _ => True) v257 y256) := ⟨h0_⟩
   have n1_ : Aside0 (Below w.heap.size w w13) := ⟨h1_⟩
   clear HB
   clear h0_ h1_
   have HO258 := n0_
   have HB := n1_
   clear n0_ n1_
   have hHeld := trivial
   refine norm_ (a' := ?_) ?_ ?_
   rotate_left
   ·
    simp only [putAll, Act.put, List.setIfInBounds_toArray, List.set_cons_zero, List.set_cons_succ]
    rfl
   refine pu 9 (some 18) HT_.out ?_
   refine pu 10 (some 2) HT_.out ?_
   refine done_ (done_of HT_.out (by kernel_rfl)) ?_
   try go_wp2
   go_ret
   exact ⟨rf, bw HB.out⟩
  ·
   rw [if_neg c7] at H
   exact absurd H (by simp)
def stowageref01_Text.f (k : Nat) (a0 : ByteArray) : Option (ByteArray) := (stowageref01_Number.f k (IntKind.u64.wrap ((a0.size : Int)))).bind fun t260 => (if t260.size + a0.size ≤ 9223372036854775807 then (some (t260 ++ a0)) else (none))
theorem stowageref01_Text.mono : ∀ a0 k, LeO (stowageref01_Text.f k a0) (stowageref01_Text.f (k + 1) a0) := by
 intro a0 k
 unfold stowageref01_Text.f
 repeat' (with_reducible first | exact stowageref01_Number.mono _ _ | exact LeO.refl _ | exact LeO.none _ | refine LeO.ite ?_ ?_ | refine LeO.bind ?_ (fun _ => ?_))
set_option maxHeartbeats 8000000 in
set_option maxRecDepth 100000 in
theorem stowageref01_Text.calls (k : Nat) (a0 : ByteArray) (r : ByteArray) (w : World) (h : stowageref01_Text.f k a0 = some r) :
  Calls Tryd.prog 51 #[.string a0] w fun e w' => e = .returned (.string r) ∧ Below w.heap.size w w' := by
 have HB := am (Below.refl w.heap.size w)
 have H := h
 clear h
 unfold stowageref01_Text.f at H
 obtain ⟨t260, A2, H⟩ := obE H
 by_cases c3 : t260.size + a0.size ≤ 9223372036854775807
 ·
  rw [if_pos c3] at H
  have c3b0 := eq_true c3
  have c3b1 := decide_eq_true c3
  try have c3b2 : (9223372036854775807 < t260.size + a0.size) = False := eq_false (Nat.not_lt.2 c3)
  (try (have c3b3 := c3b2; simp only [ByteArray.size_append] at c3b3))
  obtain rfl := Option.some.inj H
  go_enter Tryd.func51, Tryd.ntmps51
  go_wp2_with (first | ((with_reducible refine gate_callee (f := 49) rfl ?_); refine goesL_ (some 6) rfl rfl Tryd.func49 (by kernel_rfl) rfl #[.int .u64 (IntKind.u64.wrap ((a0.size : Int)))] rfl gl ?_; (with_reducible refine (stowageref01_Number.calls k (IntKind.u64.wrap ((a0.size : Int))) t260 _ A2.out).mono ?_); rintro e w4 ⟨rfl, hb⟩; refine ⟨_, rfl, ?_⟩; replace HB := am (below_step (bw HB.out) hb); (try clear hb)))
  go_ret
  exact ⟨rf, bw HB.out⟩
 ·
  rw [if_neg c3] at H
  exact absurd H (by simp)
def stowageref13_Told.l0 : Nat → List (S85) → ByteArray → Int → Option (ByteArray)
 | 0, _, _, _ => none
 | k + 1, x0, x3, x4 => if x4 < (x0.length : Int) then (if 0 ≤ x4 then ((stowageref01_Text.f k ((rd_T85 x0 x4).f0)).bind fun t263 => (if x3.size + t263.size ≤ 9223372036854775807 then ((stowageref01_Number.f k (IntKind.u64.wrap ((rd_T85 x0 x4).f1))).bind fun t265 => (if (x3 ++ t263).size + t265.size ≤ 9223372036854775807 then (stowageref13_Told.l0 k x0 ((x3 ++ t263) ++ t265) (wrap64 (x4 + 1))) else (none))) else (none))) else (none)) else (some x3)
def stowageref13_Told.f (k : Nat) (l0 : List (S85)) : Option (ByteArray) := (stowageref01_Number.f k (IntKind.u64.wrap ((l0.length : Int)))).bind fun t261 => (stowageref13_Told.l0 k l0 t261 0)
theorem stowageref13_Told.mono_l : ∀ k, (∀ y0 y1 y2, LeO (stowageref13_Told.l0 k y0 y1 y2) (stowageref13_Told.l0 (k + 1) y0 y1 y2))
 | 0 => fun _ _ _ r h => by simp [stowageref13_Told.l0] at h
 | k + 1 => by
  have ih0 := stowageref13_Told.mono_l k
  ·
   intro y0 y1 y2
   unfold stowageref13_Told.l0
   repeat' (with_reducible first | exact ih0 _ _ _ | exact stowageref01_Number.mono _ _ | exact stowageref01_Text.mono _ _ | exact LeO.refl _ | exact LeO.none _ | refine LeO.ite ?_ ?_ | refine LeO.bind ?_ (fun _ => ?_))
theorem stowageref13_Told.mono : ∀ a0 k, LeO (stowageref13_Told.f k a0) (stowageref13_Told.f (k + 1) a0) := by
 intro a0 k
 have ih0 := stowageref13_Told.mono_l k
 unfold stowageref13_Told.f
 repeat' (with_reducible first | exact ih0 _ _ _ | exact stowageref01_Number.mono _ _ | exact stowageref01_Text.mono _ _ | exact LeO.refl _ | exact LeO.none _ | refine LeO.ite ?_ ?_ | refine LeO.bind ?_ (fun _ => ?_))
def stowageref13_Told.T5 : Bool × List (List Nat × List Nat) := (true, [([], []), ([], []), ([], []), ([1, 2], [1, 2]), ([3], [3]), ([4], [4]), ([5], [5]), ([0, 6], [0, 6]), ([], []), ([], []), ([8, 9], [8, 9]), ([10], [10]), ([11], [11]), ([12], [12]), ([13, 6], [13]), ([7, 14], [7, 14]), ([15, 14, 0, 1, 2, 3, 4, 5, 6, 7, 8, 9, 10, 11, 12, 13, 14, 15], [0, 15])])
def stowageref13_Told.B5 : List Nat := [0, 0, 0, 6, 14, 30, 62, 127, 0, 0, 768, 1792, 3840, 7936, 16254, 32767, 65535]
theorem stowageref13_Told.tab5 : rtab .any (opsOf Tryd.f50 5) = stowageref13_Told.T5 := by kernel_rfl
theorem stowageref13_Told.bits5 : waitsOk stowageref13_Told.T5.2 stowageref13_Told.B5 = true := by kernel_rfl
set_option maxHeartbeats 8000000 in
set_option maxRecDepth 100000 in
theorem stowageref13_Told.calls (k : Nat) (A0 : Option Addr) (c0 : Nat) (l0 : List (S85)) (r : ByteArray) (w : World) (hr0 : Kd.C k85 w A0 l0.length l0) (hc0 : l0.length ≤ c0) (h : stowageref13_Told.f k l0 = some r) :
  Calls Tryd.prog 50 #[.slice A0 l0.length c0] w fun e w' => e = .returned (.string r) ∧ Below w.heap.size w w' := by
 have HR0 := am hr0
 have HC0 := am hc0
 clear hr0 hc0
 have HB := am (Below.refl w.heap.size w)
 have H := h
 clear h
 unfold stowageref13_Told.f at H
 obtain ⟨t261, A2, H⟩ := obE H
 have H' := am H
 clear H
 go_enter Tryd.func50, Tryd.ntmps50
 go_wp2_with (first | ((with_reducible refine gate_callee (f := 49) rfl ?_); refine goesL_ (some 8) rfl rfl Tryd.func49 (by kernel_rfl) rfl #[.int .u64 (IntKind.u64.wrap ((l0.length : Int)))] rfl gl ?_; (with_reducible refine (stowageref01_Number.calls k (IntKind.u64.wrap ((l0.length : Int))) t261 _ A2.out).mono ?_); rintro e w3 ⟨rfl, hb⟩; refine ⟨_, rfl, ?_⟩; replace HB := am (below_step (bw HB.out) hb); (try clear hb)))
 go_loopg [3, 4] k (fun kq v3 v4 w' => ∃ (x3_1 : ByteArray) (x4_1 : Int), v3 = .string x3_1 ∧ v4 = .int .i64 x4_1 ∧ Aside0 (stowageref13_Told.l0 kq l0 x3_1 x4_1 = some r) ∧ Aside0 (kq ≤ k) ∧ Aside0 (Below w.heap.size w w'))
 case atStart => exact ⟨(t261), (0), rs, rs, H', ⟨Nat.le_refl _⟩, ⟨bw HB.out⟩⟩
 case round =>
  clear H'
  try clear p2
  obtain ⟨x3_1, x4_1, rfl, rfl, HA, HK1, HB⟩ := hrel
  cases gk with
  | zero => exact absurd HA.out (by simp [stowageref13_Told.l0])
  | succ k1 =>
   have H := HA.out
   clear HA
   simp only [stowageref13_Told.l0] at H
   rcases iteD H with ⟨c4b0, H⟩ | ⟨c4b0, H⟩
   ·
    rcases iteD H with ⟨c5b0, H⟩ | ⟨_, H⟩
    ·
     obtain ⟨t263, A6, H⟩ := obE H
     by_cases c7 : x3_1.size + t263.size ≤ 9223372036854775807
     ·
      rw [if_pos c7] at H
      have c7b0 := eq_true c7
      have c7b1 := decide_eq_true c7
      try have c7b2 : (9223372036854775807 < x3_1.size + t263.size) = False := eq_false (Nat.not_lt.2 c7)
      (try (have c7b3 := c7b2; simp only [ByteArray.size_append] at c7b3))
      obtain ⟨t265, A8, H⟩ := obE H
      by_cases c9 : (x3_1 ++ t263).size + t265.size ≤ 9223372036854775807
      ·
       rw [if_pos c9] at H
       have c9b0 := eq_true c9
       have c9b1 := decide_eq_true c9
       try have c9b2 : (9223372036854775807 < (x3_1 ++ t263).size + t265.size) = False := eq_false (Nat.not_lt.2 c9)
       (try (have c9b3 := c9b2; simp only [ByteArray.size_append] at c9b3))
       have H' := am H
       clear H
       try go_wp2
       replace HB := am (below_drew1 HB.out)
       have p262 := pz x4_1
       have q262 := pl x4_1 (l0.length : Int)
       obtain ⟨ad262, e262, hw262_0, hw262_1⟩ := at_T85 HR0.out x4_1 (of_eq_true p262) (of_eq_true q262)
       cases e262
       have hx262_0 := bc HB.out hw262_0
       have hx262_1 := bc HB.out hw262_1
       have p264 := pz x4_1
       have q264 := pl x4_1 (l0.length : Int)
       obtain ⟨ad264, e264, hw264_0, hw264_1⟩ := at_T85 HR0.out x4_1 (of_eq_true p264) (of_eq_true q264)
       obtain rfl : ad262 = ad264 := (by injection e264)
       have hx264_0 := bc HB.out hw264_0
       have hx264_1 := bc HB.out hw264_1
       refine start_ (n := 17) (S := fun w' => w'.cell? (ad262.add ((x4_1).toNat * 2)) = some (.string ((rd_T85 l0 x4_1).f0)) ∧ w'.cell? ⟨(ad262.add ((x4_1).toNat * 2)).block, (ad262.add ((x4_1).toNat * 2)).off + 1, none⟩ = some (.int .i64 ((rd_T85 l0 x4_1).f1))) (ds := []) #[false, false, false, false, false, false, false, false, false, false, false, false, false, false, false, false, false] (by kernel_rfl) rfl rfl ⟨(bc HB.out hw262_0), (bc HB.out hw262_1)⟩ (fun hHeld => ?_); refine with_tabW stowageref13_Told.tab5 stowageref13_Told.bits5 (fun HT_ HW_ => ?_)
       generalize wr.drew = w10 at HB hx262_0 hx262_1 hx264_0 hx264_1 hHeld ⊢
       refine pu 0 (some 15) HT_.out ?_
       refine pu 1 (some 16) HT_.out ?_
       refine pu 2 (some 17) HT_.out ?_
       refine pu 3 (some 18) HT_.out ?_
       refine pu 4 (some 19) HT_.out ?_
       refine pu 8 (some 23) HT_.out ?_
       refine pu 9 (some 24) HT_.out ?_
       refine pu 10 (some 25) HT_.out ?_
       refine pu 11 (some 26) HT_.out ?_
       refine tk 5 (some 20) HT_.out HW_.out hHeld ?_
       refine tk 12 (some 27) HT_.out HW_.out hHeld ?_
       refine pu 13 (some 28) HT_.out ?_
       refine one_ (i := 6) (N := some 21) #[true, true, true, true, true, true, true, false, true, true, true, true, true, true, false, false, false] rfl rfl (one_of HT_.out (by kernel_rfl)) (by decide) (fun K hK => ?_)
       refine goes_ Tryd.func51 (by kernel_rfl) rfl #[.string ((rd_T85 l0 x4_1).f0)] (by rfl) rfl rfl gl ?_
       with_reducible refine (stowageref01_Text.calls k1 ((rd_T85 l0 x4_1).f0) t263 _ A6.out).mono ?_
       rintro e w11 ⟨rfl, hb⟩
       refine ⟨_, rfl, ?_⟩
       replace HB := am (below_step (bw HB.out) hb)
       (try clear hb)
       (try clear hb2)
       (try clear hk)
       (try clear hi)
       refine hK.out _ _ ⟨(bc HB.out hw262_0), (bc HB.out hw262_1)⟩ (fun hHeld => ?_)
       clear hK K
       refine norm_ (a' := ?_) ?_ ?_
       rotate_left
       ·
        show Act.put _ (some 21) _ = _
        simp only [Act.put, List.setIfInBounds_toArray, List.set_cons_zero, List.set_cons_succ, i64_w, i32_w]
        rfl
       refine pu 7 (some 22) HT_.out ?_
       refine one_ (i := 14) (N := some 29) #[true, true, true, true, true, true, true, true, true, true, true, true, true, true, true, false, false] rfl rfl (one_of HT_.out (by kernel_rfl)) (by decide) (fun K hK => ?_)
       refine goes_ Tryd.func49 (by kernel_rfl) rfl #[.int .u64 (IntKind.u64.wrap ((rd_T85 l0 x4_1).f1))] (by rfl) rfl rfl gl ?_
       with_reducible refine (stowageref01_Number.calls k1 (IntKind.u64.wrap ((rd_T85 l0 x4_1).f1)) t265 _ A8.out).mono ?_
       rintro e w12 ⟨rfl, hb⟩
       refine ⟨_, rfl, ?_⟩
       replace HB := am (below_step (bw HB.out) hb)
       (try clear hb)
       (try clear hb2)
       (try clear hk)
       (try clear hi)
       refine hK.out _ _ ⟨(bc HB.out hw262_0), (bc HB.out hw262_1)⟩ (fun hHeld => ?_)
       clear hK K
       refine norm_ (a' := ?_) ?_ ?_
       rotate_left
       ·
        show Act.put _ (some 29) _ = _
        simp only [Act.put, List.setIfInBounds_toArray, List.set_cons_zero, List.set_cons_succ, i64_w, i32_w]
        rfl
       refine pu 15 (some 30) HT_.out ?_
       refine pu 16 (some 3) HT_.out ?_
       refine done_ (done_of HT_.out (by kernel_rfl)) ?_
       try go_wp2
       go_roundg k1
       case measure => have := HK1.out; omega
       case rel => exact ⟨((x3_1 ++ t263) ++ t265), (wrap64 (x4_1 + 1)), rs, rs, H', ⟨by have := HK1.out; omega⟩, ⟨bw HB.out⟩⟩
      ·
       rw [if_neg c9] at H
       exact absurd H (by simp)
     ·
      rw [if_neg c7] at H
      exact absurd H (by simp)
    ·
     exact absurd H (by simp)
   ·
    obtain rfl := Option.some.inj H
    go_wp2
    go_ret
    exact ⟨rf, bw HB.out⟩
def stowageref14_Encode.l0 : Nat → List (S52) → ByteArray → Int → Option (ByteArray × Int)
 | 0, _, _, _ => none
 | k + 1, x0, x4, x5 => if x5 < (x0.length : Int) then (if 0 ≤ x5 then ((stowageref01_Number.f k (IntKind.u64.wrap ((rd_T52 x0 x5).f0))).bind fun t269 => (if x4.size + t269.size ≤ 9223372036854775807 then ((stowageref13_Told.f k ((rd_T52 x0 x5).f3)).bind fun t271 => (if (x4 ++ t269).size + t271.size ≤ 9223372036854775807 then ((stowageref01_Text.f k ((rd_T52 x0 x5).f2)).bind fun t273 => (if ((x4 ++ t269) ++ t271).size + t273.size ≤ 9223372036854775807 then (stowageref14_Encode.l0 k x0 (((x4 ++ t269) ++ t271) ++ t273) (wrap64 (x5 + 1))) else (none))) else (none))) else (none))) else (none)) else (some (x4, 0))
def stowageref14_Encode.f (k : Nat) (l0 : List (S52)) : Option (ByteArray × Int) := (stowageref14_May.f k l0).bind fun t266 => (if t266 = true then ((stowageref01_Number.f k (IntKind.u64.wrap ((l0.length : Int)))).bind fun t267 => (stowageref14_Encode.l0 k l0 t267 0)) else (some ((⟨#[]⟩ : ByteArray), 1)))
theorem stowageref14_Encode.mono_l : ∀ k, (∀ y0 y1 y2, LeO (stowageref14_Encode.l0 k y0 y1 y2) (stowageref14_Encode.l0 (k + 1) y0 y1 y2))
 | 0 => fun _ _ _ r h => by simp [stowageref14_Encode.l0] at h
 | k + 1 => by
  have ih0 := stowageref14_Encode.mono_l k
  ·
   intro y0 y1 y2
   unfold stowageref14_Encode.l0
   repeat' (with_reducible first | exact ih0 _ _ _ | exact stowageref01_Number.mono _ _ | exact stowageref01_Text.mono _ _ | exact stowageref13_Told.mono _ _ | exact stowageref14_May.mono _ _ | exact LeO.refl _ | exact LeO.none _ | refine LeO.ite ?_ ?_ | refine LeO.bind ?_ (fun _ => ?_))
theorem stowageref14_Encode.mono : ∀ a0 k, LeO (stowageref14_Encode.f k a0) (stowageref14_Encode.f (k + 1) a0) := by
 intro a0 k
 have ih0 := stowageref14_Encode.mono_l k
 unfold stowageref14_Encode.f
 repeat' (with_reducible first | exact ih0 _ _ _ | exact stowageref01_Number.mono _ _ | exact stowageref01_Text.mono _ _ | exact stowageref13_Told.mono _ _ | exact stowageref14_May.mono _ _ | exact LeO.refl _ | exact LeO.none _ | refine LeO.ite ?_ ?_ | refine LeO.bind ?_ (fun _ => ?_))
def stowageref14_Encode.T7 : Bool × List (List Nat × List Nat) := (true, [([], []), ([], []), ([], []), ([1, 2], [1, 2]), ([3], [3]), ([4], [4]), ([5], [5]), ([6], [6]), ([0, 7], [0, 7]), ([], []), ([], []), ([9, 10], [9, 10]), ([11], [11]), ([12], [12]), ([13, 7], [13]), ([8, 14], [8, 14]), ([], []), ([], []), ([16, 17], [16, 17]), ([18], [18]), ([19], [19]), ([20, 14], [20]), ([15, 21], [15, 21]), ([22, 21, 0, 1, 2, 3, 4, 5, 6, 7, 8, 9, 10, 11, 12, 13, 14, 15, 16, 17, 18, 19, 20, 21, 22], [0, 22])])
def stowageref14_Encode.B7 : List Nat := [0, 0, 0, 6, 14, 30, 62, 126, 255, 0, 0, 1536, 3584, 7680, 16126, 32767, 0, 0, 196608, 458752, 983040, 2064126, 4194303, 8388607]
theorem stowageref14_Encode.tab7 : rtab .any (opsOf Tryd.f26 7) = stowageref14_Encode.T7 := by kernel_rfl
theorem stowageref14_Encode.bits7 : waitsOk stowageref14_Encode.T7.2 stowageref14_Encode.B7 = true := by kernel_rfl
set_option maxHeartbeats 8000000 in
set_option maxRecDepth 100000 in
theorem stowageref14_Encode.calls (k : Nat) (A0 : Option Addr) (c0 : Nat) (l0 : List (S52)) (r1 : ByteArray) (r2 : Int) (w : World) (hr0 : Kd.C k52 w A0 l0.length l0) (hc0 : l0.length ≤ c0) (h : stowageref14_Encode.f k l0 = some (r1, r2)) :
  Calls Tryd.prog 26 #[.slice A0 l0.length c0] w fun e w' => e = .returned (.tuple #[.string r1, .int .i64 r2]) ∧ Below w.heap.size w w' := by
 have HR0 := am hr0
 have HC0 := am hc0
 clear hr0 hc0
 have HB := am (Below.refl w.heap.size w)
 have H := h
 clear h
 unfold stowageref14_Encode.f at H
 obtain ⟨t266, A2, H⟩ := obE H
 by_cases c3 : t266 = true
 ·
  subst c3
  rw [if_pos rfl] at H
  obtain ⟨t267, A4, H⟩ := obE H
  have H' := am H
  clear H
  go_enter Tryd.func26, Tryd.ntmps26
  go_wp2_with (first | ((with_reducible refine gate_callee (f := 33) rfl ?_); refine goesL_ (some 7) rfl rfl Tryd.func33 (by kernel_rfl) rfl #[.slice A0 l0.length c0] rfl gl ?_; (with_reducible refine (stowageref14_May.calls k _ _ l0 true _ ?side1 ?side2 A2.out).mono ?_); (case side1 => exact kC HR0.out); (case side2 => exact HC0.out); rintro e w5 ⟨rfl, hb⟩; refine ⟨_, rfl, ?_⟩; replace HB := am (below_step (bw HB.out) hb); (try clear hb)) | ((with_reducible refine gate_callee (f := 49) rfl ?_); refine goesL_ (some 12) rfl rfl Tryd.func49 (by kernel_rfl) rfl #[.int .u64 (IntKind.u64.wrap ((l0.length : Int)))] rfl gl ?_; (with_reducible refine (stowageref01_Number.calls k (IntKind.u64.wrap ((l0.length : Int))) t267 _ A4.out).mono ?_); rintro e w6 ⟨rfl, hb⟩; refine ⟨_, rfl, ?_⟩; replace HB := am (below_step (bw HB.out) hb); (try clear hb)))
  go_loopg [4, 5] k (fun kq v4 v5 w' => ∃ (x4_1 : ByteArray) (x5_1 : Int), v4 = .string x4_1 ∧ v5 = .int .i64 x5_1 ∧ Aside0 (stowageref14_Encode.l0 kq l0 x4_1 x5_1 = some (r1, r2)) ∧ Aside0 (kq ≤ k) ∧ Aside0 (Below w.heap.size w w'))
  case atStart => exact ⟨(t267), (0), rs, rs, H', ⟨Nat.le_refl _⟩, ⟨bw HB.out⟩⟩
  case round =>
   clear H'
   try clear c2
   try clear p2
   try clear c3
   try clear c4
   obtain ⟨x4_1, x5_1, rfl, rfl, HA, HK1, HB⟩ := hrel
   cases gk with
   | zero => exact absurd HA.out (by simp [stowageref14_Encode.l0])
   | succ k1 =>
    have H := HA.out
    clear HA
    simp only [stowageref14_Encode.l0] at H
    rcases iteD H with ⟨c7b0, H⟩ | ⟨c7b0, H⟩
    ·
     rcases iteD H with ⟨c8b0, H⟩ | ⟨_, H⟩
     ·
      obtain ⟨t269, A9, H⟩ := obE H
      by_cases c10 : x4_1.size + t269.size ≤ 9223372036854775807
      ·
       rw [if_pos c10] at H
       have c10b0 := eq_true c10
       have c10b1 := decide_eq_true c10
       try have c10b2 : (9223372036854775807 < x4_1.size + t269.size) = False := eq_false (Nat.not_lt.2 c10)
       (try (have c10b3 := c10b2; simp only [ByteArray.size_append] at c10b3))
       obtain ⟨t271, A11, H⟩ := obE H
       by_cases c12 : (x4_1 ++ t269).size + t271.size ≤ 9223372036854775807
       ·
        rw [if_pos c12] at H
        have c12b0 := eq_true c12
        have c12b1 := decide_eq_true c12
        try have c12b2 : (9223372036854775807 < (x4_1 ++ t269).size + t271.size) = False := eq_false (Nat.not_lt.2 c12)
        (try (have c12b3 := c12b2; simp only [ByteArray.size_append] at c12b3))
        obtain ⟨t273, A13, H⟩ := obE H
        by_cases c14 : ((x4_1 ++ t269) ++ t271).size + t273.size ≤ 9223372036854775807
        ·
         rw [if_pos c14] at H
         have c14b0 := eq_true c14
         have c14b1 := decide_eq_true c14
         try have c14b2 : (9223372036854775807 < ((x4_1 ++ t269) ++ t271).size + t273.size) = False := eq_false (Nat.not_lt.2 c14)
         (try (have c14b3 := c14b2; simp only [ByteArray.size_append] at c14b3))
         have H' := am H
         clear H
         try go_wp2
         replace HB := am (below_drew1 HB.out)
         have p268 := pz x5_1
         have q268 := pl x5_1 (l0.length : Int)
         obtain ⟨ad268, A268_3, c268_3, e268, hw268_0, hw268_1, hw268_2, hw268_3, hl268_3, hi268_3⟩ := at_T52 HR0.out x5_1 (of_eq_true p268) (of_eq_true q268)
         cases e268
         have hx268_0 := bc HB.out hw268_0
         have hx268_1 := bc HB.out hw268_1
         have hx268_2 := bc HB.out hw268_2
         have hx268_3 := bc HB.out hw268_3
         have HR268_3 := am hi268_3
         have HC268_3 := am hl268_3
         clear hi268_3 hl268_3
         have p270 := pz x5_1
         have q270 := pl x5_1 (l0.length : Int)
         obtain ⟨ad270, A270_3, c270_3, e270, hw270_0, hw270_1, hw270_2, hw270_3, hl270_3, hi270_3⟩ := at_T52 HR0.out x5_1 (of_eq_true p270) (of_eq_true q270)
         obtain rfl : ad268 = ad270 := (by injection e270)
         have hx270_0 := bc HB.out hw270_0
         have hx270_1 := bc HB.out hw270_1
         have hx270_2 := bc HB.out hw270_2
         have hx270_3 := bc HB.out hw270_3
         have HR270_3 := am hi270_3
         have HC270_3 := am hl270_3
         clear hi270_3 hl270_3
         have ea_ := Option.some.inj (hx268_3.symm.trans hx270_3)
         injection ea_ with ea_ en_ ec_
         subst ea_
         subst ec_
         clear en_
         have p272 := pz x5_1
         have q272 := pl x5_1 (l0.length : Int)
         obtain ⟨ad272, A272_3, c272_3, e272, hw272_0, hw272_1, hw272_2, hw272_3, hl272_3, hi272_3⟩ := at_T52 HR0.out x5_1 (of_eq_true p272) (of_eq_true q272)
         obtain rfl : ad268 = ad272 := (by injection e272)
         have hx272_0 := bc HB.out hw272_0
         have hx272_1 := bc HB.out hw272_1
         have hx272_2 := bc HB.out hw272_2
         have hx272_3 := bc HB.out hw272_3
         have HR272_3 := am hi272_3
         have HC272_3 := am hl272_3
         clear hi272_3 hl272_3
         have ea_ := Option.some.inj (hx268_3.symm.trans hx272_3)
         injection ea_ with ea_ en_ ec_
         subst ea_
         subst ec_
         clear en_
         refine start_ (n := 24) (S := fun w' => w'.cell? (ad268.add ((x5_1).toNat * 4)) = some (.int .i64 ((rd_T52 l0 x5_1).f0)) ∧ w'.cell? ⟨(ad268.add ((x5_1).toNat * 4)).block, (ad268.add ((x5_1).toNat * 4)).off + 1, none⟩ = some (.int .i64 ((rd_T52 l0 x5_1).f1)) ∧ w'.cell? ⟨(ad268.add ((x5_1).toNat * 4)).block, (ad268.add ((x5_1).toNat * 4)).off + 2, none⟩ = some (.string ((rd_T52 l0 x5_1).f2)) ∧ w'.cell? ⟨(ad268.add ((x5_1).toNat * 4)).block, (ad268.add ((x5_1).toNat * 4)).off + 3, none⟩ = some (.slice A268_3 ((rd_T52 l0 x5_1).f3).length c268_3)) (ds := []) #[false, false, false, false, false, false, false, false, false, false, false, false, false, false, false, false, false, false, false, false, false, false, false, false] (by kernel_rfl) rfl rfl ⟨(bc HB.out hw268_0), (bc HB.out hw268_1), (bc HB.out hw268_2), (bc HB.out hw268_3)⟩ (fun hHeld => ?_); refine with_tabW stowageref14_Encode.tab7 stowageref14_Encode.bits7 (fun HT_ HW_ => ?_)
         generalize wr.drew = w15 at HB HR268_3 HR270_3 HR272_3 hx268_0 hx268_1 hx268_2 hx268_3 hx270_0 hx270_1 hx270_2 hx270_3 hx272_0 hx272_1 hx272_2 hx272_3 hHeld ⊢
         refine pu 0 (some 19) HT_.out ?_
         refine pu 1 (some 20) HT_.out ?_
         refine pu 2 (some 21) HT_.out ?_
         refine pu 3 (some 22) HT_.out ?_
         refine pu 4 (some 23) HT_.out ?_
         refine pu 9 (some 28) HT_.out ?_
         refine pu 10 (some 29) HT_.out ?_
         refine pu 11 (some 30) HT_.out ?_
         refine pu 12 (some 31) HT_.out ?_
         refine pu 16 (some 35) HT_.out ?_
         refine pu 17 (some 36) HT_.out ?_
         refine pu 18 (some 37) HT_.out ?_
         refine pu 19 (some 38) HT_.out ?_
         refine tk 5 (some 24) HT_.out HW_.out hHeld ?_
         refine pu 6 (some 25) HT_.out ?_
         refine tk 13 (some 32) HT_.out HW_.out hHeld ?_
         refine tk 20 (some 39) HT_.out HW_.out hHeld ?_
         refine one_ (i := 7) (N := some 26) #[true, true, true, true, true, true, true, true, false, true, true, true, true, true, false, false, true, true, true, true, true, false, false, false] rfl rfl (one_of HT_.out (by kernel_rfl)) (by decide) (fun K hK => ?_)
         refine goes_ Tryd.func49 (by kernel_rfl) rfl #[.int .u64 (IntKind.u64.wrap ((rd_T52 l0 x5_1).f0))] (by rfl) rfl rfl gl ?_
         with_reducible refine (stowageref01_Number.calls k1 (IntKind.u64.wrap ((rd_T52 l0 x5_1).f0)) t269 _ A9.out).mono ?_
         rintro e w16 ⟨rfl, hb⟩
         refine ⟨_, rfl, ?_⟩
         replace HB := am (below_step (bw HB.out) hb)
         (try clear hb)
         (try clear hb2)
         (try clear hk)
         (try clear hi)
         refine hK.out _ _ ⟨(bc HB.out hw268_0), (bc HB.out hw268_1), (bc HB.out hw268_2), (bc HB.out hw268_3)⟩ (fun hHeld => ?_)
         clear hK K
         refine norm_ (a' := ?_) ?_ ?_
         rotate_left
         ·
          show Act.put _ (some 26) _ = _
          simp only [Act.put, List.setIfInBounds_toArray, List.set_cons_zero, List.set_cons_succ, i64_w, i32_w]
          rfl
         refine pu 8 (some 27) HT_.out ?_
         refine one_ (i := 14) (N := some 33) #[true, true, true, true, true, true, true, true, true, true, true, true, true, true, true, false, true, true, true, true, true, false, false, false] rfl rfl (one_of HT_.out (by kernel_rfl)) (by decide) (fun K hK => ?_)
         refine goes_ Tryd.func50 (by kernel_rfl) rfl #[.slice A268_3 ((rd_T52 l0 x5_1).f3).length c268_3] (by rfl) rfl rfl gl ?_
         with_reducible refine (stowageref13_Told.calls k1 _ _ ((rd_T52 l0 x5_1).f3) t271 _ ?side1 ?side2 A11.out).mono ?_
         (case side1 => exact kC (Kd.C_below HR270_3.out HB.out))
         (case side2 => exact HC270_3.out)
         rintro e w17 ⟨rfl, hb⟩
         refine ⟨_, rfl, ?_⟩
         replace HB := am (below_step (bw HB.out) hb)
         (try clear hb)
         (try clear hb2)
         (try clear hk)
         (try clear hi)
         refine hK.out _ _ ⟨(bc HB.out hw268_0), (bc HB.out hw268_1), (bc HB.out hw268_2), (bc HB.out hw268_3)⟩ (fun hHeld => ?_)
         clear hK K
         refine norm_ (a' := ?_) ?_ ?_
         rotate_left
         ·
          show Act.put _ (some 33) _ = _
          simp only [Act.put, List.setIfInBounds_toArray, List.set_cons_zero, List.set_cons_succ, i64_w, i32_w]
          rfl
         refine pu 15 (some 34) HT_.out ?_
         refine one_ (i := 21) (N := some 40) #[true, true, true, true, true, true, true, true, true, true, true, true, true, true, true, true, true, true, true, true, true, true, false, false] rfl rfl (one_of HT_.out (by kernel_rfl)) (by decide) (fun K hK => ?_)
         refine goes_ Tryd.func51 (by kernel_rfl) rfl #[.string ((rd_T52 l0 x5_1).f2)] (by rfl) rfl rfl gl ?_
         with_reducible refine (stowageref01_Text.calls k1 ((rd_T52 l0 x5_1).f2) t273 _ A13.out).mono ?_
         rintro e w18 ⟨rfl, hb⟩
         refine ⟨_, rfl, ?_⟩
         replace HB := am (below_step (bw HB.out) hb)
         (try clear hb)
         (try clear hb2)
         (try clear hk)
         (try clear hi)
         refine hK.out _ _ ⟨(bc HB.out hw268_0), (bc HB.out hw268_1), (bc HB.out hw268_2), (bc HB.out hw268_3)⟩ (fun hHeld => ?_)
         clear hK K
         refine norm_ (a' := ?_) ?_ ?_
         rotate_left
         ·
          show Act.put _ (some 40) _ = _
          simp only [Act.put, List.setIfInBounds_toArray, List.set_cons_zero, List.set_cons_succ, i64_w, i32_w]
          rfl
         refine pu 22 (some 41) HT_.out ?_
         refine pu 23 (some 4) HT_.out ?_
         refine done_ (done_of HT_.out (by kernel_rfl)) ?_
         try go_wp2
         go_roundg k1
         case measure => have := HK1.out; omega
         case rel => exact ⟨(((x4_1 ++ t269) ++ t271) ++ t273), (wrap64 (x5_1 + 1)), rs, rs, H', ⟨by have := HK1.out; omega⟩, ⟨bw HB.out⟩⟩
        ·
         rw [if_neg c14] at H
         exact absurd H (by simp)
       ·
        rw [if_neg c12] at H
        exact absurd H (by simp)
      ·
       rw [if_neg c10] at H
       exact absurd H (by simp)
     ·
      exact absurd H (by simp)
    ·
     simp only [Option.some.injEq, Prod.mk.injEq] at H
     obtain ⟨rfl, rfl⟩ := H
     go_wp2
     go_ret2
     exact ⟨rf, bw HB.out⟩
 ·
  replace c3 := Bool.eq_false_iff.mpr c3
  subst c3
  rw [if_neg (show ¬ (false = true) by decide)] at H
  simp only [Option.some.injEq, Prod.mk.injEq] at H
  obtain ⟨rfl, rfl⟩ := H
  go_enter Tryd.func26, Tryd.ntmps26
  go_wp2_with (first | ((with_reducible refine gate_callee (f := 33) rfl ?_); refine goesL_ (some 7) rfl rfl Tryd.func33 (by kernel_rfl) rfl #[.slice A0 l0.length c0] rfl gl ?_; (with_reducible refine (stowageref14_May.calls k _ _ l0 false _ ?side1 ?side2 A2.out).mono ?_); (case side1 => exact kC HR0.out); (case side2 => exact HC0.out); rintro e w19 ⟨rfl, hb⟩; refine ⟨_, rfl, ?_⟩; replace HB := am (below_step (bw HB.out) hb); (try clear hb)))
  go_ret2
  exact ⟨rf, bw HB.out⟩
def IsS125 (w0 W : World) (g : Nat) (f0 : ByteArray) (f1 : Int) (f2 : Int) : Prop := W.heap[g]? = some (.cells #[.string f0, .int .i64 f1, .int .i64 f2] 125 (0, 0)) ∧ w0.heap.size ≤ g
theorem IsS125.grown {w0 W : World} {g : Nat} {f0 : ByteArray} {f1 : Int} {f2 : Int} {W1 : World} {row : Option Nat} (h : IsS125 w0 W g f0 f1 f2) (hw : W.grownBy W1 row) (hne : some g ≠ row) : IsS125 w0 W1 g f0 f1 f2 := by
 obtain ⟨hb, hg⟩ := h
 exact ⟨blk_grown hb hw hne, hg⟩
theorem IsS125.own_neN {w0 W : World} {g : Nat} {f0 : ByteArray} {f1 : Int} {f2 : Int} {α : Type} {d : Kd α} {e : Nat} {base : Nat} {ok : Nat → Prop} {v : Value} {xs : List α} (h : IsS125 w0 W g f0 f1 f2) (ho : Kd.N d e W base ok v xs) (ht : e ≠ 125) : some g ≠ v.ownBlock := by
 obtain ⟨hb, hg⟩ := h
 exact Kd.N_ne ho hb ht
theorem IsS125.fresh {w0 W : World} {g : Nat} {f0 : ByteArray} {f1 : Int} {f2 : Int} (h : IsS125 w0 W g f0 f1 f2) : ∀ k, W.heap.size ≤ k → k ≠ g := by
 obtain ⟨hb, hg⟩ := h
 exact Kd.freshB hb
theorem IsS125.kept {w0 W : World} {g : Nat} {f0 : ByteArray} {f1 : Int} {f2 : Int} {W1 : World} {S : Nat → Prop} (h : IsS125 w0 W g f0 f1 f2) (hk : Kept W W1 S) (hne : ¬ S g) : IsS125 w0 W1 g f0 f1 f2 := by
 obtain ⟨hb, hg⟩ := h
 exact ⟨blk_kept hb hk hne, hg⟩
theorem IsS125.below {w0 W : World} {g : Nat} {f0 : ByteArray} {f1 : Int} {f2 : Int} {W1 : World} (h : IsS125 w0 W g f0 f1 f2) (hw : Below W.heap.size W W1) : IsS125 w0 W1 g f0 f1 f2 := h.grown (grown_of_below hw none) (by simp)
theorem IsS125.alloc {w0 W : World} {g : Nat} {f0 : ByteArray} {f1 : Int} {f2 : Int} (h : IsS125 w0 W g f0 f1 f2) (o : Obj) : IsS125 w0 (W.alloc o) g f0 f1 f2 := h.below (below_alloc (Below.refl _ _) o)
theorem IsS125.drewN {w0 W : World} {g : Nat} {f0 : ByteArray} {f1 : Int} {f2 : Int} (h : IsS125 w0 W g f0 f1 f2) (m : Nat) : IsS125 w0 (W.drewN m) g f0 f1 f2 := h
theorem IsS125.drew {w0 W : World} {g : Nat} {f0 : ByteArray} {f1 : Int} {f2 : Int} (h : IsS125 w0 W g f0 f1 f2) : IsS125 w0 W.drew g f0 f1 f2 := h
theorem IsS125.at_ {w0 W : World} {g : Nat} {f0 : ByteArray} {f1 : Int} {f2 : Int} {w' : World} {m : Nat} (hq : W.drewN m = w') (h : IsS125 w0 W g f0 f1 f2) : IsS125 w0 w' g f0 f1 f2 := by subst hq; exact IsS125.drewN h m
theorem IsS125.apart {w0 W : World} {g : Nat} {f0 : ByteArray} {f1 : Int} {f2 : Int} {α : Type} {d : Kd α} {e : Nat} {base : Nat} {ok : Nat → Prop} {v : Value} {xs : List α} (h : IsS125 w0 W g f0 f1 f2) (ho : d.R e W base ok v xs) (ht : ∀ q, q ∈ e :: d.E → q ≠ 125) : d.R e W base (fun k => ok k ∧ k ≠ g) v xs := by
 obtain ⟨hb, hg⟩ := h
 exact Kd.R_types ho hb ht
theorem IsS125.own_ne {w0 W : World} {g : Nat} {f0 : ByteArray} {f1 : Int} {f2 : Int} {α : Type} {d : Kd α} {e : Nat} {base : Nat} {ok : Nat → Prop} {v : Value} {xs : List α} (h : IsS125 w0 W g f0 f1 f2) (ho : d.R e W base ok v xs) (ht : e ≠ 125) : some g ≠ v.ownBlock := by
 obtain ⟨hb, hg⟩ := h
 exact Kd.R_ne ho hb ht
theorem IsS125.apartQ {w0 W : World} {g : Nat} {f0 : ByteArray} {f1 : Int} {f2 : Int} {α : Type} {d : Kd α} {e : Nat} {base : Nat} {ok : Nat → Prop} {v : Value} {xs : List α} (h : IsS125 w0 W g f0 f1 f2) (ho : d.Q e W base ok v xs) (ht : ∀ q, q ∈ e :: d.E → q ≠ 125) : d.Q e W base (fun k => ok k ∧ k ≠ g) v xs := by
 obtain ⟨hb, hg⟩ := h
 exact Kd.Q_types ho hb ht
theorem IsS125.own_neQ {w0 W : World} {g : Nat} {f0 : ByteArray} {f1 : Int} {f2 : Int} {α : Type} {d : Kd α} {e : Nat} {base : Nat} {ok : Nat → Prop} {v : Value} {xs : List α} (h : IsS125 w0 W g f0 f1 f2) (ho : d.Q e W base ok v xs) (ht : e ≠ 125) : some g ≠ v.ownBlock := by
 obtain ⟨hb, hg⟩ := h
 exact Kd.Q_ne ho hb ht
theorem IsS125.apartS {w0 W : World} {g : Nat} {f0 : ByteArray} {f1 : Int} {f2 : Int} {α : Type} {d : Kd α} {e : Nat} {base : Nat} {ok : Nat → Prop} {v : Value} {xs : List α} (h : IsS125 w0 W g f0 f1 f2) (ho : d.S e W base ok v xs) (ht : ∀ q, q ∈ e :: d.E → q ≠ 125) : d.S e W base (fun k => ok k ∧ k ≠ g) v xs := by
 obtain ⟨hb, hg⟩ := h
 exact Kd.S_types ho hb ht
theorem IsS125.own_neS {w0 W : World} {g : Nat} {f0 : ByteArray} {f1 : Int} {f2 : Int} {α : Type} {d : Kd α} {e : Nat} {base : Nat} {ok : Nat → Prop} {v : Value} {xs : List α} (h : IsS125 w0 W g f0 f1 f2) (ho : d.S e W base ok v xs) (ht : e ≠ 125) : some g ≠ v.ownBlock := by
 obtain ⟨hb, hg⟩ := h
 exact Kd.S_ne ho hb ht
theorem IsS125.lt {w0 W : World} {g : Nat} {f0 : ByteArray} {f1 : Int} {f2 : Int} (h : IsS125 w0 W g f0 f1 f2) : g < W.heap.size := by
 obtain ⟨hb, hg⟩ := h
 exact blk_lt hb
theorem IsS125.ge {w0 W : World} {g : Nat} {f0 : ByteArray} {f1 : Int} {f2 : Int} (h : IsS125 w0 W g f0 f1 f2) : w0.heap.size ≤ g := by
 obtain ⟨hb, hg⟩ := h
 exact hg
theorem IsS125.ne_blk {w0 W : World} {g : Nat} {f0 : ByteArray} {f1 : Int} {f2 : Int} {a : Nat} {cs : Array Value} {t : TypeId} {fr : Nat × Nat} (h : IsS125 w0 W g f0 f1 f2) (hb2 : W.heap[a]? = some (.cells cs t fr)) (ht : t ≠ 125) : g ≠ a := by
 obtain ⟨hb, hg⟩ := h
 rintro rfl
 rw [hb] at hb2
 injection hb2 with hb2
 injection hb2 with _ ht2
 exact ht ht2.symm
theorem IsS125.far {w0 W : World} {g : Nat} {f0 : ByteArray} {f1 : Int} {f2 : Int} {p : Addr} (h : IsS125 w0 W g f0 f1 f2) (hne : g ≠ p.block) (u : Value) : IsS125 w0 (W.setCell p u) g f0 f1 f2 := by
 obtain ⟨hb, hg⟩ := h
 exact ⟨blk_far hb hne u, hg⟩
theorem cellS125_0 {W : World} {g : Nat} {f0 : ByteArray} {f1 : Int} {f2 : Int} (h : W.heap[g]? = some (.cells #[.string f0, .int .i64 f1, .int .i64 f2] 125 (0, 0))) : W.cell? ⟨g, 0, none⟩ = some (.string f0) := (blk_cell h 0).trans rfl
theorem IsS125.set_0 {w0 W : World} {g : Nat} {f0 : ByteArray} {f1 : Int} {f2 : Int} (h : IsS125 w0 W g f0 f1 f2) (x : ByteArray) : IsS125 w0 (W.setCell ⟨g, 0, none⟩ (.string x)) g x f1 f2 := by
 obtain ⟨hb, hg⟩ := h
 exact ⟨by simpa using blk_set hb 0 (.string x), hg⟩
theorem cellS125_1 {W : World} {g : Nat} {f0 : ByteArray} {f1 : Int} {f2 : Int} (h : W.heap[g]? = some (.cells #[.string f0, .int .i64 f1, .int .i64 f2] 125 (0, 0))) : W.cell? ⟨g, 1, none⟩ = some (.int .i64 f1) := (blk_cell h 1).trans rfl
theorem IsS125.set_1 {w0 W : World} {g : Nat} {f0 : ByteArray} {f1 : Int} {f2 : Int} (h : IsS125 w0 W g f0 f1 f2) (x : Int) : IsS125 w0 (W.setCell ⟨g, 1, none⟩ (.int .i64 x)) g f0 x f2 := by
 obtain ⟨hb, hg⟩ := h
 exact ⟨by simpa using blk_set hb 1 (.int .i64 x), hg⟩
theorem cellS125_2 {W : World} {g : Nat} {f0 : ByteArray} {f1 : Int} {f2 : Int} (h : W.heap[g]? = some (.cells #[.string f0, .int .i64 f1, .int .i64 f2] 125 (0, 0))) : W.cell? ⟨g, 2, none⟩ = some (.int .i64 f2) := (blk_cell h 2).trans rfl
theorem IsS125.set_2 {w0 W : World} {g : Nat} {f0 : ByteArray} {f1 : Int} {f2 : Int} (h : IsS125 w0 W g f0 f1 f2) (x : Int) : IsS125 w0 (W.setCell ⟨g, 2, none⟩ (.int .i64 x)) g f0 f1 x := by
 obtain ⟨hb, hg⟩ := h
 exact ⟨by simpa using blk_set hb 2 (.int .i64 x), hg⟩
theorem IsS125.new (w0 W : World) (f0 : ByteArray) (f1 : Int) (f2 : Int) (hB : Below w0.heap.size w0 W) : IsS125 w0 (W.alloc (.cells #[.string f0, .int .i64 f1, .int .i64 f2] 125)) W.heap.size f0 f1 f2 := ⟨by simpa using heap_alloc_new W _, hB.size⟩
def octet_NewReader.f (a0 : ByteArray) : Option (ByteArray × Int × Int) := some (a0, 0, 0)
set_option maxHeartbeats 8000000 in
set_option maxRecDepth 100000 in
theorem octet_NewReader.calls (a0 : ByteArray) (r1 : ByteArray) (r2 : Int) (r3 : Int) (w0 w : World) (hB : Below w0.heap.size w0 w) (h : octet_NewReader.f a0 = some (r1, r2, r3)) :
  Calls Tryd.prog 52 #[.string a0] w fun e w' => ∃ g_ : Nat, e = .returned (.pointer (some ⟨g_, 0, none⟩)) ∧ IsS125 w0 w' g_ r1 r2 r3 ∧ Below w0.heap.size w0 w' ∧ Below w.heap.size w w' := by
 have hu125 := Tryd.underlying125
 have HBW := am (Below.refl w.heap.size w)
 have HW0 := am hB.size
 have HB := am hB
 clear hB
 have H := h
 clear h
 unfold octet_NewReader.f at H
 simp only [Option.some.injEq, Prod.mk.injEq] at H
 obtain ⟨rfl, rfl, rfl⟩ := H
 go_enter Tryd.func52, Tryd.ntmps52
 go_wp2_with (first | ((with_reducible refine gate_dst (N := 5) rfl ?_); refine bx 5 #[.string a0, .int .i64 0, .int .i64 0] 125 ?_; intro gb274 hg w2 hbox hb; have BK274 := am (hbox); have GW274 := gsz hg HBW.out; have GE274 := am ((Nat.le_trans HW0.out (by rw [hg]; exact (below_size (bw HBW.out)) : w.heap.size ≤ gb274) : w0.heap.size ≤ gb274)); replace HBW := am (below_step HBW.out hb); replace HB := am (below_step (bw HB.out) hb); clear hb hbox hg))
 go_ret
 exact ⟨_, rfl, (show IsS125 w0 _ gb274 a0 0 0 from ⟨by (with_reducible repeat (first | refine blk_drewN ?_ _ | refine blk_drew ?_ | refine blk_alloc ?_ _)); exact BK274.out, GE274.out⟩), bws HB.out, by repeat (first | (with_reducible first | exact HBW.out | apply below_alloc | apply pw_below_drewN | apply below_drew1 | refine below_set ?_ GW274.out) | exact HBW.out)⟩
def octet_Reader_Err.f (s0_0 : ByteArray) (s0_1 : Int) (s0_2 : Int) : Option (Int × ByteArray × Int × Int) := some (s0_2, s0_0, s0_1, s0_2)
set_option maxHeartbeats 8000000 in
set_option maxRecDepth 100000 in
theorem octet_Reader_Err.calls (g : Nat) (s0_0 : ByteArray) (s0_1 : Int) (s0_2 : Int) (r1 : Int) (r2 : ByteArray) (r3 : Int) (r4 : Int) (w0 w : World) (hI : IsS125 w0 w g s0_0 s0_1 s0_2) (hB : Below w0.heap.size w0 w) (h : octet_Reader_Err.f s0_0 s0_1 s0_2 = some (r1, r2, r3, r4)) :
  Calls Tryd.prog 71 #[.pointer (some ⟨g, 0, none⟩)] w fun e w' => e = .returned (.int .i64 r1) ∧ IsS125 w0 w' g r2 r3 r4 ∧ Below w0.heap.size w0 w' ∧ KeepBut w w' g none := by
 have HI0 := am hI
 have HK := am (KeepBut.refl w g none)
 have HL := am hB.size
 clear hI
 have HW0 := am hB.size
 have HB := am hB
 clear hB
 have H := h
 clear h
 unfold octet_Reader_Err.f at H
 simp only [Option.some.injEq, Prod.mk.injEq] at H
 obtain ⟨rfl, rfl, rfl, rfl⟩ := H
 obtain ⟨HGz2, hgz2⟩ := HI0.out
 have hcz2_0 := cellS125_0 HGz2
 have hcz2_1 := cellS125_1 HGz2
 have hcz2_2 := cellS125_2 HGz2
 have hfz2_0 := blk_frozen HGz2 0
 have hfz2_1 := blk_frozen HGz2 1
 have hfz2_2 := blk_frozen HGz2 2
 clear HGz2 hgz2
 go_enter Tryd.func71, Tryd.ntmps71
 go_wp2
 go_ret
 exact ⟨rf, by repeat (first | (with_reducible first | exact HI0.out | apply IsS125.alloc | apply IsS125.drewN | apply IsS125.drew | apply IsS125.set_0 | apply IsS125.set_1 | apply IsS125.set_2) | exact HI0.out), by repeat (first | (with_reducible first | exact HB.out | apply below_alloc | apply pw_below_drewN | apply below_drew1 | refine below_set ?_ (IsS125.ge HI0.out)) | exact HB.out), by repeat (first | (with_reducible first | exact HK.out | apply KeepBut.set_ | apply keep_drewN | apply keep_drew | apply keep_alloc) | exact HK.out)⟩
mutual
def octet_ReadNumber.j0 : Nat → ByteArray → Int → Bool → Option (Int × Int × Int)
 | 0, _, _, _ => none
 | k + 1, x0, x1, x17 => if x17 = true then (some (0, 0, 1)) else (octet_ReadNumber.l0 k x0 x1 0 0)
def octet_ReadNumber.l0 : Nat → ByteArray → Int → Int → Int → Option (Int × Int × Int)
 | 0, _, _, _, _ => none
 | k + 1, x0, x1, x7, x18 => if x18 < 10 then (if (wrap64 (x1 + x18)) ≥ (x0.size : Int) then (some (0, 0, 5)) else (if 0 ≤ (wrap64 (x1 + x18)) then (if (wrap64 (x1 + x18)) < (x0.size : Int) then (if x18 = 9 then (if (bt x0 (wrap64 (x1 + x18))) > 1 then (octet_ReadNumber.j2 k x0 x1 x7 x18 (bt x0 (wrap64 (x1 + x18))) x18 true) else (if x18 > 0 then (octet_ReadNumber.j2 k x0 x1 x7 x18 (bt x0 (wrap64 (x1 + x18))) x18 ((bt x0 (wrap64 (x1 + x18))) == 0)) else (octet_ReadNumber.j2 k x0 x1 x7 x18 (bt x0 (wrap64 (x1 + x18))) x18 false))) else (if x18 > 0 then (octet_ReadNumber.j2 k x0 x1 x7 x18 (bt x0 (wrap64 (x1 + x18))) x18 ((bt x0 (wrap64 (x1 + x18))) == 0)) else (octet_ReadNumber.j2 k x0 x1 x7 x18 (bt x0 (wrap64 (x1 + x18))) x18 false))) else (none)) else (none))) else (some (0, 0, 3))
def octet_ReadNumber.j2 : Nat → ByteArray → Int → Int → Int → Int → Int → Bool → Option (Int × Int × Int)
 | 0, _, _, _, _, _, _, _ => none
 | k + 1, x0, x1, x7, x8, x9, x18, x45 => if x45 = true then (some (0, 0, 3)) else (if 0 ≤ (wrap64 (7 * x8)) then (if x9 < 128 then (some (Go.bits .or .u64 x7 (shl .u64 (IntKind.u64.wrap (Go.bits .and .u8 x9 127)) (wrap64 (7 * x8))), wrap64 ((wrap64 (x1 + x8)) + 1), 0)) else (octet_ReadNumber.l0 k x0 x1 (Go.bits .or .u64 x7 (shl .u64 (IntKind.u64.wrap (Go.bits .and .u8 x9 127)) (wrap64 (7 * x8)))) (wrap64 (x18 + 1)))) else (none))
end
def octet_ReadNumber.f (k : Nat) (a0 : ByteArray) (a1 : Int) : Option (Int × Int × Int) := if a1 < 0 then (octet_ReadNumber.j0 k a0 a1 true) else (octet_ReadNumber.j0 k a0 a1 (decide (a1 > (a0.size : Int))))
theorem octet_ReadNumber.mono_l : ∀ k, (∀ y0 y1 y2, LeO (octet_ReadNumber.j0 k y0 y1 y2) (octet_ReadNumber.j0 (k + 1) y0 y1 y2)) ∧ (∀ y0 y1 y2 y3, LeO (octet_ReadNumber.l0 k y0 y1 y2 y3) (octet_ReadNumber.l0 (k + 1) y0 y1 y2 y3)) ∧ (∀ y0 y1 y2 y3 y4 y5 y6, LeO (octet_ReadNumber.j2 k y0 y1 y2 y3 y4 y5 y6) (octet_ReadNumber.j2 (k + 1) y0 y1 y2 y3 y4 y5 y6))
 | 0 => ⟨fun _ _ _ r h => by simp [octet_ReadNumber.j0] at h, fun _ _ _ _ r h => by simp [octet_ReadNumber.l0] at h, fun _ _ _ _ _ _ _ r h => by simp [octet_ReadNumber.j2] at h⟩
 | k + 1 => by
  obtain ⟨ih0, ih1, ih2⟩ := octet_ReadNumber.mono_l k
  refine ⟨?_, ?_, ?_⟩
  all_goals intros
  all_goals first | unfold octet_ReadNumber.j0 | unfold octet_ReadNumber.l0 | unfold octet_ReadNumber.j2
  all_goals repeat' (with_reducible first | exact ih0 _ _ _ | exact ih1 _ _ _ _ | exact ih2 _ _ _ _ _ _ _ | exact LeO.refl _ | exact LeO.none _ | refine LeO.ite ?_ ?_ | refine LeO.bind ?_ (fun _ => ?_))
theorem octet_ReadNumber.mono : ∀ a0 a1 k, LeO (octet_ReadNumber.f k a0 a1) (octet_ReadNumber.f (k + 1) a0 a1) := by
 intro a0 a1 k
 obtain ⟨ih0, ih1, ih2⟩ := octet_ReadNumber.mono_l k
 unfold octet_ReadNumber.f
 repeat' (with_reducible first | exact ih0 _ _ _ | exact ih1 _ _ _ _ | exact ih2 _ _ _ _ _ _ _ | exact LeO.refl _ | exact LeO.none _ | refine LeO.ite ?_ ?_ | refine LeO.bind ?_ (fun _ => ?_))
set_option maxHeartbeats 8000000 in
set_option maxRecDepth 100000 in
theorem octet_ReadNumber.calls (k : Nat) (a0 : ByteArray) (a1 : Int) (r1 : Int) (r2 : Int) (r3 : Int) (w : World) (h : octet_ReadNumber.f k a0 a1 = some (r1, r2, r3)) :
  Calls Tryd.prog 72 #[.string a0, .int .i64 a1] w fun e w' => e = .returned (.tuple #[.int .u64 r1, .int .i64 r2, .int .i64 r3]) ∧ Drawn0 w w' := by
 have H := h
 clear h
 unfold octet_ReadNumber.f at H
 have HC3 := am H
 clear H
 go_enter Tryd.func72, Tryd.ntmps72
 go_upto_region 1 with (fail)
 go_cut [17] (fun v17 wc => ∃ (kq : Nat) (x17_2 : Bool), v17 = .bool x17_2 ∧ Aside0 (octet_ReadNumber.j0 kq a0 a1 x17_2 = some (r1, r2, r3)) ∧ Aside0 (kq ≤ k) ∧ Drawn0 w wc)
 case first =>
  have H := HC3.out
  clear HC3
  rcases iteD H with ⟨c4b0, H⟩ | ⟨c4b0, H⟩
  ·
   (first | rw [c4b0] | (simp only [i64_w, i32_w]; rw [c4b0]) | skip)
   have H' := am H
   clear H
   go_wp2
   go_meet
   case rel => exact ⟨_, (true), rs, H', ⟨om⟩, by repeat (first | exact Drawn0.refl _ | apply Drawn0.step)⟩
  ·
   (first | rw [c4b0] | (simp only [i64_w, i32_w]; rw [c4b0]) | skip)
   have H' := am H
   clear H
   go_wp2
   go_meet
   case rel => exact ⟨_, (decide (a1 > (a0.size : Int))), rs, H', ⟨om⟩, by repeat (first | exact Drawn0.refl _ | apply Drawn0.step)⟩
 case rest =>
  clear HC3
  try clear p2
  try clear c4
  try clear c4b0
  obtain ⟨kq, x17_2, rfl, HA, HJ2, ⟨mc2, rfl⟩⟩ := hcut
  cases kq with
  | zero => exact absurd HA.out (by simp [octet_ReadNumber.j0])
  | succ kj2 =>
   have H := HA.out
   clear HA
   simp only [octet_ReadNumber.j0] at H
   by_cases c5 : x17_2 = true
   ·
    subst c5
    rw [if_pos rfl] at H
    simp only [Option.some.injEq, Prod.mk.injEq] at H
    obtain ⟨rfl, rfl, rfl⟩ := H
    go_wp2
    go_ret3
    exact ⟨by first | rfl | (simp; done) | (simp [*]; done), by repeat (first | exact Drawn0.refl _ | apply Drawn0.step)⟩
   ·
    replace c5 := Bool.eq_false_iff.mpr c5
    subst c5
    rw [if_neg (show ¬ (false = true) by decide)] at H
    have H' := am H
    clear H
    go_wp2
    go_loopg [7, 18] kj2 (fun kq v7 v18 w' => ∃ (x7_2 : Int) (x18_2 : Int), v7 = .int .u64 x7_2 ∧ v18 = .int .i64 x18_2 ∧ Aside0 (octet_ReadNumber.l0 kq a0 a1 x7_2 x18_2 = some (r1, r2, r3)) ∧ Aside0 (kq ≤ kj2) ∧ Drawn0 w w')
    case atStart => exact ⟨(0), (0), rs, rs, H', ⟨Nat.le_refl _⟩, by repeat (first | exact Drawn0.refl _ | apply Drawn0.step)⟩
    case round =>
     clear H'
     try clear c2
     try clear p2
     try clear c4
     try clear c4b0
     try clear c5
     try clear p2
     obtain ⟨x7_2, x18_2, rfl, rfl, HA, HK2, ⟨m2, rfl⟩⟩ := hrel
     cases gk with
     | zero => exact absurd HA.out (by simp [octet_ReadNumber.l0])
     | succ k2 =>
      have H := HA.out
      clear HA
      simp only [octet_ReadNumber.l0] at H
      rcases iteD H with ⟨c6b0, H⟩ | ⟨c6b0, H⟩
      ·
       rcases iteD H with ⟨c7b0, H⟩ | ⟨c7b0, H⟩
       ·
        simp only [Option.some.injEq, Prod.mk.injEq] at H
        obtain ⟨rfl, rfl, rfl⟩ := H
        go_wp2
        go_ret3
        exact ⟨by first | rfl | (simp; done) | (simp [*]; done), by repeat (first | exact Drawn0.refl _ | apply Drawn0.step)⟩
       ·
        obtain ⟨ji8, hji8⟩ : ∃ j_ : Int, (wrap64 (a1 + x18_2)) = j_ := ⟨_, rfl⟩
        replace H : (if 0 ≤ (ji8) then (if (ji8) < (a0.size : Int) then (if x18_2 = 9 then (if (bt a0 (ji8)) > 1 then (octet_ReadNumber.j2 k2 a0 a1 x7_2 x18_2 (bt a0 (ji8)) x18_2 true) else (if x18_2 > 0 then (octet_ReadNumber.j2 k2 a0 a1 x7_2 x18_2 (bt a0 (ji8)) x18_2 ((bt a0 (ji8)) == 0)) else (octet_ReadNumber.j2 k2 a0 a1 x7_2 x18_2 (bt a0 (ji8)) x18_2 false))) else (if x18_2 > 0 then (octet_ReadNumber.j2 k2 a0 a1 x7_2 x18_2 (bt a0 (ji8)) x18_2 ((bt a0 (ji8)) == 0)) else (octet_ReadNumber.j2 k2 a0 a1 x7_2 x18_2 (bt a0 (ji8)) x18_2 false))) else (none)) else (none)) = some (r1, r2, r3) := by first | (rw [hji8] at H; exact H) | (simp only [hji8] at H ⊢; exact H)
        (try rw [hji8] at c7b0)
        have hji8w : (IntKind.i64.wrap (a1 + x18_2)) = ji8 := (i64_w _).trans hji8
        rcases iteD H with ⟨c9b0, H⟩ | ⟨_, H⟩
        ·
         rcases iteD H with ⟨c10b0, H⟩ | ⟨_, H⟩
         ·
          have HC12 := am H
          clear H
          have p11 := pz (ji8)
          have q11 := pl (ji8) (a0.size : Int)
          have hx11 := bt_at a0 (ji8)
          go_upto_region 10 with (fail)
          go_cut [45] (fun v45 wc => ∃ (kq : Nat) (x45_11 : Bool), v45 = .bool x45_11 ∧ Aside0 (octet_ReadNumber.j2 kq a0 a1 x7_2 x18_2 (bt a0 (ji8)) x18_2 x45_11 = some (r1, r2, r3)) ∧ Aside0 (kq ≤ k2) ∧ Drawn0 w wc)
          case first =>
           have H := HC12.out
           clear HC12
           by_cases c13 : x18_2 = 9
           ·
            rw [if_pos c13] at H
            have c13b0 := beq_iff_eq.mpr c13
            have c13b1 := bne_eq_false_iff_eq.mpr c13
            clear c13
            (first | rw [c13b0] | (simp only [i64_w, i32_w]; rw [c13b0]) | skip)
            rcases iteD H with ⟨c14b0, H⟩ | ⟨c14b0, H⟩
            ·
             have H' := am H
             clear H
             go_wp2
             go_meet
             case rel => exact ⟨_, (true), rs, H', ⟨by have := HJ2.out; have := HK2.out; first | omega | exact Nat.le_refl _⟩, by repeat (first | exact Drawn0.refl _ | apply Drawn0.step)⟩
            ·
             rcases iteD H with ⟨c15b0, H⟩ | ⟨c15b0, H⟩
             ·
              have H' := am H
              clear H
              go_wp2
              go_meet
              case rel => exact ⟨_, (((bt a0 (ji8)) == 0)), (by first | rfl | (simp; done) | (simp only [← hji8] <;> (first | rfl | simp)) | (simp [*]; done)), H', ⟨by have := HJ2.out; have := HK2.out; first | omega | exact Nat.le_refl _⟩, by repeat (first | exact Drawn0.refl _ | apply Drawn0.step)⟩
             ·
              have H' := am H
              clear H
              go_wp2
              go_meet
              case rel => exact ⟨_, (false), rs, H', ⟨by have := HJ2.out; have := HK2.out; first | omega | exact Nat.le_refl _⟩, by repeat (first | exact Drawn0.refl _ | apply Drawn0.step)⟩
           ·
            rw [if_neg c13] at H
            have c13b0 := beq_eq_false_iff_ne.mpr c13
            have c13b1 := bne_iff_ne.mpr c13
            (first | rw [c13b0] | (simp only [i64_w, i32_w]; rw [c13b0]) | skip)
            rcases iteD H with ⟨c16b0, H⟩ | ⟨c16b0, H⟩
            ·
             have H' := am H
             clear H
             go_wp2
             go_meet
             case rel => exact ⟨_, (((bt a0 (ji8)) == 0)), (by first | rfl | (simp; done) | (simp only [← hji8] <;> (first | rfl | simp)) | (simp [*]; done)), H', ⟨by have := HJ2.out; have := HK2.out; first | omega | exact Nat.le_refl _⟩, by repeat (first | exact Drawn0.refl _ | apply Drawn0.step)⟩
            ·
             have H' := am H
             clear H
             go_wp2
             go_meet
             case rel => exact ⟨_, (false), rs, H', ⟨by have := HJ2.out; have := HK2.out; first | omega | exact Nat.le_refl _⟩, by repeat (first | exact Drawn0.refl _ | apply Drawn0.step)⟩
          case rest =>
           clear HC12
           try clear c1
           try clear p1
           try clear q1
           try clear hx1
           try clear c2
           try clear p2
           try clear c4
           try clear c4b0
           try clear c5
           try clear c6
           try clear c6b0
           try clear p6
           try clear c7
           try clear c7b0
           try clear c9
           try clear c9b0
           try clear c10
           try clear c10b0
           try clear p11
           try clear q11
           try clear hx11
           try clear c13
           try clear c13b0
           try clear c13b1
           try clear c14
           try clear c14b0
           try clear c15
           try clear c15b0
           try clear c16
           try clear c16b0
           try clear p11
           try clear p2
           try clear q11
           obtain ⟨kq, x45_11, rfl, HA, HJ11, ⟨mc11, rfl⟩⟩ := hcut
           cases kq with
           | zero => exact absurd HA.out (by simp [octet_ReadNumber.j2])
           | succ kj11 =>
            have H := HA.out
            clear HA
            simp only [octet_ReadNumber.j2] at H
            by_cases c17 : x45_11 = true
            ·
             subst c17
             rw [if_pos rfl] at H
             simp only [Option.some.injEq, Prod.mk.injEq] at H
             obtain ⟨rfl, rfl, rfl⟩ := H
             go_wp2
             go_ret3
             exact ⟨by first | rfl | (simp; done) | (simp only [← hji8] <;> (first | rfl | simp)) | (simp [*]; done), by repeat (first | exact Drawn0.refl _ | apply Drawn0.step)⟩
            ·
             replace c17 := Bool.eq_false_iff.mpr c17
             subst c17
             rw [if_neg (show ¬ (false = true) by decide)] at H
             obtain ⟨ji18, hji18⟩ : ∃ j_ : Int, (wrap64 (7 * x18_2)) = j_ := ⟨_, rfl⟩
             replace H : (if 0 ≤ (ji18) then (if (bt a0 (ji8)) < 128 then (some (Go.bits .or .u64 x7_2 (shl .u64 (IntKind.u64.wrap (Go.bits .and .u8 (bt a0 (ji8)) 127)) (ji18)), wrap64 ((wrap64 (a1 + x18_2)) + 1), 0)) else (octet_ReadNumber.l0 kj11 a0 a1 (Go.bits .or .u64 x7_2 (shl .u64 (IntKind.u64.wrap (Go.bits .and .u8 (bt a0 (ji8)) 127)) (ji18))) (wrap64 (x18_2 + 1)))) else (none)) = some (r1, r2, r3) := by first | (rw [hji18] at H; exact H) | (simp only [hji18] at H ⊢; exact H)
             have hji18w : (IntKind.i64.wrap (7 * x18_2)) = ji18 := (i64_w _).trans hji18
             by_cases c19 : 0 ≤ (ji18)
             ·
              rw [if_pos c19] at H
              have c19b0 := eq_true c19
              have c19b1 := decide_eq_true c19
              clear c19
              obtain ⟨ji20, hji20⟩ : ∃ j_ : Int, (shl .u64 (IntKind.u64.wrap (Go.bits .and .u8 (bt a0 (ji8)) 127)) (ji18)) = j_ := ⟨_, rfl⟩
              replace H : (if (bt a0 (ji8)) < 128 then (some (Go.bits .or .u64 x7_2 (ji20), wrap64 ((wrap64 (a1 + x18_2)) + 1), 0)) else (octet_ReadNumber.l0 kj11 a0 a1 (Go.bits .or .u64 x7_2 (ji20)) (wrap64 (x18_2 + 1)))) = some (r1, r2, r3) := by first | (rw [hji20] at H; exact H) | (simp only [hji20] at H ⊢; exact H)
              have hji20_ : (IntKind.u64.wrap ((IntKind.u64.wrap (Go.bits .and .u8 (bt a0 (ji8)) 127)) * 2 ^ min (ji18).toNat 64)) = ji20 := hji20
              have hji20z : (ji18) ≤ 64 → (IntKind.u64.wrap ((IntKind.u64.wrap (Go.bits .and .u8 (bt a0 (ji8)) 127)) * 2 ^ (ji18).toNat)) = ji20 := shl_small hji20
              rcases iteD H with ⟨c21b0, H⟩ | ⟨c21b0, H⟩
              ·
               simp only [Option.some.injEq, Prod.mk.injEq] at H
               obtain ⟨rfl, rfl, rfl⟩ := H
               go_wp2
               go_ret3
               exact ⟨by first | rfl | (simp; done) | (simp only [← hji8, ← hji18, ← hji20] <;> (first | rfl | simp)) | (simp [*]; done), by repeat (first | exact Drawn0.refl _ | apply Drawn0.step)⟩
              ·
               have H' := am H
               clear H
               go_wp2
               go_roundg kj11
               case measure => have := HJ2.out; have := HK2.out; have := HJ11.out; omega
               case rel => exact ⟨(Go.bits .or .u64 x7_2 (ji20)), (wrap64 (x18_2 + 1)), (by first | rfl | (simp; done) | (simp only [← hji20] <;> (first | rfl | simp)) | (simp [*]; done)), rs, H', ⟨by have := HJ2.out; have := HK2.out; have := HJ11.out; omega⟩, by repeat (first | exact Drawn0.refl _ | apply Drawn0.step)⟩
             ·
              rw [if_neg c19] at H
              exact absurd H (by simp)
         ·
          exact absurd H (by simp)
        ·
         exact absurd H (by simp)
      ·
       simp only [Option.some.injEq, Prod.mk.injEq] at H
       obtain ⟨rfl, rfl, rfl⟩ := H
       go_wp2
       go_ret3
       exact ⟨by first | rfl | (simp; done) | (simp [*]; done), by repeat (first | exact Drawn0.refl _ | apply Drawn0.step)⟩
def octet_Reader_Number.j0 : Nat → Int → Int → Int → Bool → ByteArray → Int → Int → Option (Int × ByteArray × Int × Int)
 | 0, _, _, _, _, _, _, _ => none
 | k + 1, x5, x6, x7, x30, x1000, x1001, x1002 => if x30 = true then (if 2 = 0 then (some (x5, x1000, x6, x1002)) else (some (0, x1000, x1001, 2))) else (if x7 = 0 then (some (x5, x1000, x6, x1002)) else (some (0, x1000, x1001, x7)))
def octet_Reader_Number.f (k : Nat) (s0_0 : ByteArray) (s0_1 : Int) (s0_2 : Int) (a1 : Int) : Option (Int × ByteArray × Int × Int) := (octet_Reader_Err.f s0_0 s0_1 s0_2).bind fun bt275 => (if bt275.1 = 0 then ((octet_ReadNumber.f k bt275.2.1 bt275.2.2.1).bind fun bt279 => (if bt279.2.2 = 0 then (octet_Reader_Number.j0 k bt279.1 bt279.2.1 bt279.2.2 (decide (bt279.1 > a1)) bt275.2.1 bt275.2.2.1 bt275.2.2.2) else (octet_Reader_Number.j0 k bt279.1 bt279.2.1 bt279.2.2 false bt275.2.1 bt275.2.2.1 bt275.2.2.2))) else (some (0, bt275.2.1, bt275.2.2.1, bt275.2.2.2)))
theorem octet_Reader_Number.mono_l : ∀ k, (∀ y0 y1 y2 y3 y4 y5 y6, LeO (octet_Reader_Number.j0 k y0 y1 y2 y3 y4 y5 y6) (octet_Reader_Number.j0 (k + 1) y0 y1 y2 y3 y4 y5 y6))
 | 0 => fun _ _ _ _ _ _ _ r h => by simp [octet_Reader_Number.j0] at h
 | k + 1 => by
  have ih0 := octet_Reader_Number.mono_l k
  ·
   intro y0 y1 y2 y3 y4 y5 y6
   unfold octet_Reader_Number.j0
   repeat' (with_reducible first | exact ih0 _ _ _ _ _ _ _ | exact octet_ReadNumber.mono _ _ _ | exact LeO.refl _ | exact LeO.none _ | refine LeO.ite ?_ ?_ | refine LeO.bind ?_ (fun _ => ?_))
theorem octet_Reader_Number.mono : ∀ a0 a1 a2 a3 k, LeO (octet_Reader_Number.f k a0 a1 a2 a3) (octet_Reader_Number.f (k + 1) a0 a1 a2 a3) := by
 intro a0 a1 a2 a3 k
 have ih0 := octet_Reader_Number.mono_l k
 unfold octet_Reader_Number.f
 repeat' (with_reducible first | exact ih0 _ _ _ _ _ _ _ | exact octet_ReadNumber.mono _ _ _ | exact LeO.refl _ | exact LeO.none _ | refine LeO.ite ?_ ?_ | refine LeO.bind ?_ (fun _ => ?_))
set_option maxHeartbeats 8000000 in
set_option maxRecDepth 100000 in
theorem octet_Reader_Number.calls (k : Nat) (g : Nat) (s0_0 : ByteArray) (s0_1 : Int) (s0_2 : Int) (a1 : Int) (r1 : Int) (r2 : ByteArray) (r3 : Int) (r4 : Int) (w0 w : World) (hI : IsS125 w0 w g s0_0 s0_1 s0_2) (hB : Below w0.heap.size w0 w) (h : octet_Reader_Number.f k s0_0 s0_1 s0_2 a1 = some (r1, r2, r3, r4)) :
  Calls Tryd.prog 73 #[.pointer (some ⟨g, 0, none⟩), .int .u64 a1] w fun e w' => e = .returned (.int .u64 r1) ∧ IsS125 w0 w' g r2 r3 r4 ∧ Below w0.heap.size w0 w' ∧ KeepBut w w' g none := by
 have HI0 := am hI
 have HK := am (KeepBut.refl w g none)
 have HL := am hB.size
 clear hI
 have HW0 := am hB.size
 have HB := am hB
 clear hB
 have H := h
 clear h
 unfold octet_Reader_Number.f at H
 obtain ⟨⟨t275, t276, t277, t278⟩, A3, H⟩ := obE H
 try dsimp only at H
 by_cases c4 : t275 = 0
 ·
  rw [if_pos c4] at H
  have c4b0 := beq_iff_eq.mpr c4
  have c4b1 := bne_eq_false_iff_eq.mpr c4
  clear c4
  obtain ⟨⟨t279, t280, t281⟩, A5, H⟩ := obE H
  try dsimp only at H
  have HC6 := am H
  clear H
  go_enter Tryd.func73, Tryd.ntmps73
  go_upto_region 4 with (first | (go_at_call 71; (with_reducible refine (octet_Reader_Err.calls g s0_0 s0_1 s0_2 t275 t276 t277 t278 w0 _ ?side1 ?side2 A3.out).mono ?_); (case side1 => repeat (first | (with_reducible first | exact HI0.out | apply IsS125.alloc | apply IsS125.drewN | apply IsS125.drew | apply IsS125.set_0 | apply IsS125.set_1 | apply IsS125.set_2) | exact HI0.out)); (case side2 => repeat (first | (with_reducible first | exact HB.out | apply below_alloc | apply pw_below_drewN | apply below_drew1 | refine below_set ?_ (IsS125.ge HI0.out)) | exact HB.out)); rintro e w7 ⟨rfl, hi, hb, hk⟩; replace HK := am (KeepBut.trans (by repeat (first | (with_reducible first | exact HK.out | apply KeepBut.set_ | apply keep_drewN | apply keep_drew | apply keep_alloc) | exact HK.out)) hk (.inl rfl)); replace HB := am (hb); replace HI0 := am (hi); (try clear hb); (try clear hk); (try clear hi); obtain ⟨HGz8, hgz8⟩ := HI0.out; have hcz8_0 := cellS125_0 HGz8; have hcz8_1 := cellS125_1 HGz8; have hcz8_2 := cellS125_2 HGz8; have hfz8_0 := blk_frozen HGz8 0; have hfz8_1 := blk_frozen HGz8 1; have hfz8_2 := blk_frozen HGz8 2; clear HGz8 hgz8) | (go_at_call 72; (with_reducible refine (octet_ReadNumber.calls k t276 t277 t279 t280 t281 _ A5.out).mono ?_); rintro e w' ⟨rfl, ⟨nd, rfl⟩⟩; (try first | exact ⟨rfl, _, World.drewN_drewN _ _ _⟩ | exact ⟨rfl, _, Eq.trans (World.drewN_drewN _ _ _) (congrArg (World.drewN _) (Nat.add_assoc _ _ _))⟩)))
  repeat (go_quiet (first | (go_at_call 71; (with_reducible refine (octet_Reader_Err.calls g s0_0 s0_1 s0_2 t275 t276 t277 t278 w0 _ ?side1 ?side2 A3.out).mono ?_); (case side1 => repeat (first | (with_reducible first | exact HI0.out | apply IsS125.alloc | apply IsS125.drewN | apply IsS125.drew | apply IsS125.set_0 | apply IsS125.set_1 | apply IsS125.set_2) | exact HI0.out)); (case side2 => repeat (first | (with_reducible first | exact HB.out | apply below_alloc | apply pw_below_drewN | apply below_drew1 | refine below_set ?_ (IsS125.ge HI0.out)) | exact HB.out)); rintro e w7 ⟨rfl, hi, hb, hk⟩; replace HK := am (KeepBut.trans (by repeat (first | (with_reducible first | exact HK.out | apply KeepBut.set_ | apply keep_drewN | apply keep_drew | apply keep_alloc) | exact HK.out)) hk (.inl rfl)); replace HB := am (hb); replace HI0 := am (hi); (try clear hb); (try clear hk); (try clear hi); obtain ⟨HGz8, hgz8⟩ := HI0.out; have hcz8_0 := cellS125_0 HGz8; have hcz8_1 := cellS125_1 HGz8; have hcz8_2 := cellS125_2 HGz8; have hfz8_0 := blk_frozen HGz8 0; have hfz8_1 := blk_frozen HGz8 1; have hfz8_2 := blk_frozen HGz8 2; clear HGz8 hgz8; clear A3) | (go_at_call 72; (with_reducible refine (octet_ReadNumber.calls k t276 t277 t279 t280 t281 _ A5.out).mono ?_); rintro e w' ⟨rfl, ⟨nd, rfl⟩⟩; (try first | exact ⟨rfl, _, World.drewN_drewN _ _ _⟩ | exact ⟨rfl, _, Eq.trans (World.drewN_drewN _ _ _) (congrArg (World.drewN _) (Nat.add_assoc _ _ _))⟩); clear A5)); go_upto_region 4 with (first | (go_at_call 71; (with_reducible refine (octet_Reader_Err.calls g s0_0 s0_1 s0_2 t275 t276 t277 t278 w0 _ ?side1 ?side2 A3.out).mono ?_); (case side1 => repeat (first | (with_reducible first | exact HI0.out | apply IsS125.alloc | apply IsS125.drewN | apply IsS125.drew | apply IsS125.set_0 | apply IsS125.set_1 | apply IsS125.set_2) | exact HI0.out)); (case side2 => repeat (first | (with_reducible first | exact HB.out | apply below_alloc | apply pw_below_drewN | apply below_drew1 | refine below_set ?_ (IsS125.ge HI0.out)) | exact HB.out)); rintro e w7 ⟨rfl, hi, hb, hk⟩; replace HK := am (KeepBut.trans (by repeat (first | (with_reducible first | exact HK.out | apply KeepBut.set_ | apply keep_drewN | apply keep_drew | apply keep_alloc) | exact HK.out)) hk (.inl rfl)); replace HB := am (hb); replace HI0 := am (hi); (try clear hb); (try clear hk); (try clear hi); obtain ⟨HGz8, hgz8⟩ := HI0.out; have hcz8_0 := cellS125_0 HGz8; have hcz8_1 := cellS125_1 HGz8; have hcz8_2 := cellS125_2 HGz8; have hfz8_0 := blk_frozen HGz8 0; have hfz8_1 := blk_frozen HGz8 1; have hfz8_2 := blk_frozen HGz8 2; clear HGz8 hgz8; clear A3) | (go_at_call 72; (with_reducible refine (octet_ReadNumber.calls k t276 t277 t279 t280 t281 _ A5.out).mono ?_); rintro e w' ⟨rfl, ⟨nd, rfl⟩⟩; (try first | exact ⟨rfl, _, World.drewN_drewN _ _ _⟩ | exact ⟨rfl, _, Eq.trans (World.drewN_drewN _ _ _) (congrArg (World.drewN _) (Nat.add_assoc _ _ _))⟩); clear A5)))
  (try simp only [Act.put, List.setIfInBounds_toArray, List.set_cons_zero, List.set_cons_succ])
  go_cut [30] (fun v30 wc => ∃ (kq : Nat) (x30_5 : Bool), v30 = .bool x30_5 ∧ Aside0 (octet_Reader_Number.j0 kq t279 t280 t281 x30_5 t276 t277 t278 = some (r1, r2, r3, r4)) ∧ Aside0 (kq ≤ k) ∧ Aside0 (IsS125 w0 wc g t276 t277 t278) ∧ Aside0 (KeepBut w wc g none) ∧ Aside0 (Below w0.heap.size w0 wc))
  case first =>
   have H := HC6.out
   clear HC6
   by_cases c9 : t281 = 0
   ·
    rw [if_pos c9] at H
    have c9b0 := beq_iff_eq.mpr c9
    have c9b1 := bne_eq_false_iff_eq.mpr c9
    clear c9
    (first | rw [c9b0] | (simp only [i64_w, i32_w]; rw [c9b0]) | skip)
    have H' := am H
    clear H
    go_wp2
    repeat (go_quiet (fail); try go_wp2)
    go_meet
    case rel => exact ⟨_, (decide (t279 > a1)), rs, H', ⟨om⟩, ⟨by repeat (first | (with_reducible first | exact HI0.out | apply IsS125.alloc | apply IsS125.drewN | apply IsS125.drew | apply IsS125.set_0 | apply IsS125.set_1 | apply IsS125.set_2) | exact HI0.out)⟩, ⟨by repeat (first | (with_reducible first | exact HK.out | apply KeepBut.set_ | apply keep_drewN | apply keep_drew | apply keep_alloc) | exact HK.out)⟩, ⟨by repeat (first | (with_reducible first | exact HB.out | apply below_alloc | apply pw_below_drewN | apply below_drew1 | refine below_set ?_ (IsS125.ge HI0.out)) | exact HB.out)⟩⟩
   ·
    rw [if_neg c9] at H
    have c9b0 := beq_eq_false_iff_ne.mpr c9
    have c9b1 := bne_iff_ne.mpr c9
    (first | rw [c9b0] | (simp only [i64_w, i32_w]; rw [c9b0]) | skip)
    have H' := am H
    clear H
    go_wp2
    repeat (go_quiet (fail); try go_wp2)
    go_meet
    case rel => exact ⟨_, (false), rs, H', ⟨om⟩, ⟨by repeat (first | (with_reducible first | exact HI0.out | apply IsS125.alloc | apply IsS125.drewN | apply IsS125.drew | apply IsS125.set_0 | apply IsS125.set_1 | apply IsS125.set_2) | exact HI0.out)⟩, ⟨by repeat (first | (with_reducible first | exact HK.out | apply KeepBut.set_ | apply keep_drewN | apply keep_drew | apply keep_alloc) | exact HK.out)⟩, ⟨by repeat (first | (with_reducible first | exact HB.out | apply below_alloc | apply pw_below_drewN | apply below_drew1 | refine below_set ?_ (IsS125.ge HI0.out)) | exact HB.out)⟩⟩
  case rest =>
   clear HC6
   try clear p2
   try clear c4
   try clear c4b0
   try clear c4b1
   try clear c7
   try clear c9
   try clear c9b0
   try clear c9b1
   try clear hcz8_0 hcz8_1 hcz8_2 hfz8_0 hfz8_1 hfz8_2
   obtain ⟨kq, x30_5, rfl, HA, HJ5, HI0, HK, HB⟩ := hcut
   cases kq with
   | zero => exact absurd HA.out (by simp [octet_Reader_Number.j0])
   | succ kj5 =>
    have H := HA.out
    clear HA
    simp only [octet_Reader_Number.j0] at H
    by_cases c10 : x30_5 = true
    ·
     subst c10
     rw [if_pos rfl] at H
     by_cases c11 : 2 = 0
     ·
      exact absurd c11 (by decide)
     ·
      rw [if_neg c11] at H
      have c11b0 := beq_eq_false_iff_ne.mpr c11
      have c11b1 := bne_iff_ne.mpr c11
      simp only [Option.some.injEq, Prod.mk.injEq] at H
      obtain ⟨rfl, rfl, rfl, rfl⟩ := H
      obtain ⟨HGz13, hgz13⟩ := HI0.out
      have hcz13_0 := cellS125_0 HGz13
      have hcz13_1 := cellS125_1 HGz13
      have hcz13_2 := cellS125_2 HGz13
      have hfz13_0 := blk_frozen HGz13 0
      have hfz13_1 := blk_frozen HGz13 1
      have hfz13_2 := blk_frozen HGz13 2
      clear HGz13 hgz13
      go_wp2
      repeat (go_quiet (fail); try go_wp2)
      go_ret
      exact ⟨rf, by repeat (first | (with_reducible first | exact HI0.out | apply IsS125.alloc | apply IsS125.drewN | apply IsS125.drew | apply IsS125.set_0 | apply IsS125.set_1 | apply IsS125.set_2) | exact HI0.out), by repeat (first | (with_reducible first | exact HB.out | apply below_alloc | apply pw_below_drewN | apply below_drew1 | refine below_set ?_ (IsS125.ge HI0.out)) | exact HB.out), by repeat (first | (with_reducible first | exact HK.out | apply KeepBut.set_ | apply keep_drewN | apply keep_drew | apply keep_alloc) | exact HK.out)⟩
    ·
     replace c10 := Bool.eq_false_iff.mpr c10
     subst c10
     rw [if_neg (show ¬ (false = true) by decide)] at H
     by_cases c14 : t281 = 0
     ·
      rw [if_pos c14] at H
      have c14b0 := beq_iff_eq.mpr c14
      have c14b1 := bne_eq_false_iff_eq.mpr c14
      clear c14
      simp only [Option.some.injEq, Prod.mk.injEq] at H
      obtain ⟨rfl, rfl, rfl, rfl⟩ := H
      obtain ⟨HGz15, hgz15⟩ := HI0.out
      have hcz15_0 := cellS125_0 HGz15
      have hcz15_1 := cellS125_1 HGz15
      have hcz15_2 := cellS125_2 HGz15
      have hfz15_0 := blk_frozen HGz15 0
      have hfz15_1 := blk_frozen HGz15 1
      have hfz15_2 := blk_frozen HGz15 2
      clear HGz15 hgz15
      go_wp2
      repeat (go_quiet (fail); try go_wp2)
      go_ret
      exact ⟨rf, by repeat (first | (with_reducible first | exact HI0.out | apply IsS125.alloc | apply IsS125.drewN | apply IsS125.drew | apply IsS125.set_0 | apply IsS125.set_1 | apply IsS125.set_2) | exact HI0.out), by repeat (first | (with_reducible first | exact HB.out | apply below_alloc | apply pw_below_drewN | apply below_drew1 | refine below_set ?_ (IsS125.ge HI0.out)) | exact HB.out), by repeat (first | (with_reducible first | exact HK.out | apply KeepBut.set_ | apply keep_drewN | apply keep_drew | apply keep_alloc) | exact HK.out)⟩
     ·
      rw [if_neg c14] at H
      have c14b0 := beq_eq_false_iff_ne.mpr c14
      have c14b1 := bne_iff_ne.mpr c14
      simp only [Option.some.injEq, Prod.mk.injEq] at H
      obtain ⟨rfl, rfl, rfl, rfl⟩ := H
      obtain ⟨HGz16, hgz16⟩ := HI0.out
      have hcz16_0 := cellS125_0 HGz16
      have hcz16_1 := cellS125_1 HGz16
      have hcz16_2 := cellS125_2 HGz16
      have hfz16_0 := blk_frozen HGz16 0
      have hfz16_1 := blk_frozen HGz16 1
      have hfz16_2 := blk_frozen HGz16 2
      clear HGz16 hgz16
      go_wp2
      repeat (go_quiet (fail); try go_wp2)
      go_ret
      exact ⟨rf, by repeat (first | (with_reducible first | exact HI0.out | apply IsS125.alloc | apply IsS125.drewN | apply IsS125.drew | apply IsS125.set_0 | apply IsS125.set_1 | apply IsS125.set_2) | exact HI0.out), by repeat (first | (with_reducible first | exact HB.out | apply below_alloc | apply pw_below_drewN | apply below_drew1 | refine below_set ?_ (IsS125.ge HI0.out)) | exact HB.out), by repeat (first | (with_reducible first | exact HK.out | apply KeepBut.set_ | apply keep_drewN | apply keep_drew | apply keep_alloc) | exact HK.out)⟩
 ·
  rw [if_neg c4] at H
  have c4b0 := beq_eq_false_iff_ne.mpr c4
  have c4b1 := bne_iff_ne.mpr c4
  simp only [Option.some.injEq, Prod.mk.injEq] at H
  obtain ⟨rfl, rfl, rfl, rfl⟩ := H
  go_enter Tryd.func73, Tryd.ntmps73
  go_wp2_with (first | (go_at_call 71; (with_reducible refine (octet_Reader_Err.calls g s0_0 s0_1 s0_2 t275 t276 t277 t278 w0 _ ?side1 ?side2 A3.out).mono ?_); (case side1 => repeat (first | (with_reducible first | exact HI0.out | apply IsS125.alloc | apply IsS125.drewN | apply IsS125.drew | apply IsS125.set_0 | apply IsS125.set_1 | apply IsS125.set_2) | exact HI0.out)); (case side2 => repeat (first | (with_reducible first | exact HB.out | apply below_alloc | apply pw_below_drewN | apply below_drew1 | refine below_set ?_ (IsS125.ge HI0.out)) | exact HB.out)); rintro e w17 ⟨rfl, hi, hb, hk⟩; replace HK := am (KeepBut.trans (by repeat (first | (with_reducible first | exact HK.out | apply KeepBut.set_ | apply keep_drewN | apply keep_drew | apply keep_alloc) | exact HK.out)) hk (.inl rfl)); replace HB := am (hb); replace HI0 := am (hi); (try clear hb); (try clear hk); (try clear hi)))
  repeat (go_quiet (first | (go_at_call 71; (with_reducible refine (octet_Reader_Err.calls g s0_0 s0_1 s0_2 t275 t276 t277 t278 w0 _ ?side1 ?side2 A3.out).mono ?_); (case side1 => repeat (first | (with_reducible first | exact HI0.out | apply IsS125.alloc | apply IsS125.drewN | apply IsS125.drew | apply IsS125.set_0 | apply IsS125.set_1 | apply IsS125.set_2) | exact HI0.out)); (case side2 => repeat (first | (with_reducible first | exact HB.out | apply below_alloc | apply pw_below_drewN | apply below_drew1 | refine below_set ?_ (IsS125.ge HI0.out)) | exact HB.out)); rintro e w17 ⟨rfl, hi, hb, hk⟩; replace HK := am (KeepBut.trans (by repeat (first | (with_reducible first | exact HK.out | apply KeepBut.set_ | apply keep_drewN | apply keep_drew | apply keep_alloc) | exact HK.out)) hk (.inl rfl)); replace HB := am (hb); replace HI0 := am (hi); (try clear hb); (try clear hk); (try clear hi); clear A3)); try go_wp2_with (first | (go_at_call 71; (with_reducible refine (octet_Reader_Err.calls g s0_0 s0_1 s0_2 t275 t276 t277 t278 w0 _ ?side1 ?side2 A3.out).mono ?_); (case side1 => repeat (first | (with_reducible first | exact HI0.out | apply IsS125.alloc | apply IsS125.drewN | apply IsS125.drew | apply IsS125.set_0 | apply IsS125.set_1 | apply IsS125.set_2) | exact HI0.out)); (case side2 => repeat (first | (with_reducible first | exact HB.out | apply below_alloc | apply pw_below_drewN | apply below_drew1 | refine below_set ?_ (IsS125.ge HI0.out)) | exact HB.out)); rintro e w17 ⟨rfl, hi, hb, hk⟩; replace HK := am (KeepBut.trans (by repeat (first | (with_reducible first | exact HK.out | apply KeepBut.set_ | apply keep_drewN | apply keep_drew | apply keep_alloc) | exact HK.out)) hk (.inl rfl)); replace HB := am (hb); replace HI0 := am (hi); (try clear hb); (try clear hk); (try clear hi); clear A3)))
  go_ret
  exact ⟨rf, by repeat (first | (with_reducible first | exact HI0.out | apply IsS125.alloc | apply IsS125.drewN | apply IsS125.drew | apply IsS125.set_0 | apply IsS125.set_1 | apply IsS125.set_2) | exact HI0.out), by repeat (first | (with_reducible first | exact HB.out | apply below_alloc | apply pw_below_drewN | apply below_drew1 | refine below_set ?_ (IsS125.ge HI0.out)) | exact HB.out), by repeat (first | (with_reducible first | exact HK.out | apply KeepBut.set_ | apply keep_drewN | apply keep_drew | apply keep_alloc) | exact HK.out)⟩
def octet_Reader_Int.f (k : Nat) (s0_0 : ByteArray) (s0_1 : Int) (s0_2 : Int) (a1 : Int) : Option (Int × ByteArray × Int × Int) := if a1 < 0 then ((octet_Reader_Err.f s0_0 s0_1 s0_2).bind fun bt282 => (if bt282.1 = 0 then ((octet_ReadNumber.f k bt282.2.1 bt282.2.2.1).bind fun bt286 => (if bt286.2.2 = 0 then (some (0, bt282.2.1, bt282.2.2.1, 2)) else (some (0, bt282.2.1, bt282.2.2.1, bt286.2.2)))) else (some (0, bt282.2.1, bt282.2.2.1, bt282.2.2.2)))) else ((octet_Reader_Number.f k s0_0 s0_1 s0_2 (IntKind.u64.wrap (a1))).bind fun bt289 => (some (wrap64 (bt289.1), bt289.2.1, bt289.2.2.1, bt289.2.2.2)))
theorem octet_Reader_Int.mono : ∀ a0 a1 a2 a3 k, LeO (octet_Reader_Int.f k a0 a1 a2 a3) (octet_Reader_Int.f (k + 1) a0 a1 a2 a3) := by
 intro a0 a1 a2 a3 k
 unfold octet_Reader_Int.f
 repeat' (with_reducible first | exact octet_ReadNumber.mono _ _ _ | exact octet_Reader_Number.mono _ _ _ _ _ | exact LeO.refl _ | exact LeO.none _ | refine LeO.ite ?_ ?_ | refine LeO.bind ?_ (fun _ => ?_))
set_option maxHeartbeats 8000000 in
set_option maxRecDepth 100000 in
theorem octet_Reader_Int.calls (k : Nat) (g : Nat) (s0_0 : ByteArray) (s0_1 : Int) (s0_2 : Int) (a1 : Int) (r1 : Int) (r2 : ByteArray) (r3 : Int) (r4 : Int) (w0 w : World) (hI : IsS125 w0 w g s0_0 s0_1 s0_2) (hB : Below w0.heap.size w0 w) (h : octet_Reader_Int.f k s0_0 s0_1 s0_2 a1 = some (r1, r2, r3, r4)) :
  Calls Tryd.prog 53 #[.pointer (some ⟨g, 0, none⟩), .int .i64 a1] w fun e w' => e = .returned (.int .i64 r1) ∧ IsS125 w0 w' g r2 r3 r4 ∧ Below w0.heap.size w0 w' ∧ KeepBut w w' g none := by
 have HI0 := am hI
 have HK := am (KeepBut.refl w g none)
 have HL := am hB.size
 clear hI
 have HW0 := am hB.size
 have HB := am hB
 clear hB
 have H := h
 clear h
 unfold octet_Reader_Int.f at H
 rcases iteD H with ⟨c3b0, H⟩ | ⟨c3b0, H⟩
 ·
  obtain ⟨⟨t282, t283, t284, t285⟩, A4, H⟩ := obE H
  try dsimp only at H
  by_cases c5 : t282 = 0
  ·
   rw [if_pos c5] at H
   have c5b0 := beq_iff_eq.mpr c5
   have c5b1 := bne_eq_false_iff_eq.mpr c5
   clear c5
   obtain ⟨⟨t286, t287, t288⟩, A6, H⟩ := obE H
   try dsimp only at H
   by_cases c7 : t288 = 0
   ·
    rw [if_pos c7] at H
    have c7b0 := beq_iff_eq.mpr c7
    have c7b1 := bne_eq_false_iff_eq.mpr c7
    clear c7
    simp only [Option.some.injEq, Prod.mk.injEq] at H
    obtain ⟨rfl, rfl, rfl, rfl⟩ := H
    go_enter Tryd.func53, Tryd.ntmps53
    go_wp2_with (first | (go_at_call 71; (with_reducible refine (octet_Reader_Err.calls g s0_0 s0_1 s0_2 t282 t283 t284 t285 w0 _ ?side1 ?side2 A4.out).mono ?_); (case side1 => repeat (first | (with_reducible first | exact HI0.out | apply IsS125.alloc | apply IsS125.drewN | apply IsS125.drew | apply IsS125.set_0 | apply IsS125.set_1 | apply IsS125.set_2) | exact HI0.out)); (case side2 => repeat (first | (with_reducible first | exact HB.out | apply below_alloc | apply pw_below_drewN | apply below_drew1 | refine below_set ?_ (IsS125.ge HI0.out)) | exact HB.out)); rintro e w8 ⟨rfl, hi, hb, hk⟩; replace HK := am (KeepBut.trans (by repeat (first | (with_reducible first | exact HK.out | apply KeepBut.set_ | apply keep_drewN | apply keep_drew | apply keep_alloc) | exact HK.out)) hk (.inl rfl)); replace HB := am (hb); replace HI0 := am (hi); (try clear hb); (try clear hk); (try clear hi); obtain ⟨HGz9, hgz9⟩ := HI0.out; have hcz9_0 := cellS125_0 HGz9; have hcz9_1 := cellS125_1 HGz9; have hcz9_2 := cellS125_2 HGz9; have hfz9_0 := blk_frozen HGz9 0; have hfz9_1 := blk_frozen HGz9 1; have hfz9_2 := blk_frozen HGz9 2; clear HGz9 hgz9) | (go_at_call 72; (with_reducible refine (octet_ReadNumber.calls k t283 t284 t286 t287 t288 _ A6.out).mono ?_); rintro e w' ⟨rfl, ⟨nd, rfl⟩⟩; (try first | exact ⟨rfl, _, World.drewN_drewN _ _ _⟩ | exact ⟨rfl, _, Eq.trans (World.drewN_drewN _ _ _) (congrArg (World.drewN _) (Nat.add_assoc _ _ _))⟩)))
    repeat (go_quiet (first | (go_at_call 71; (with_reducible refine (octet_Reader_Err.calls g s0_0 s0_1 s0_2 t282 t283 t284 t285 w0 _ ?side1 ?side2 A4.out).mono ?_); (case side1 => repeat (first | (with_reducible first | exact HI0.out | apply IsS125.alloc | apply IsS125.drewN | apply IsS125.drew | apply IsS125.set_0 | apply IsS125.set_1 | apply IsS125.set_2) | exact HI0.out)); (case side2 => repeat (first | (with_reducible first | exact HB.out | apply below_alloc | apply pw_below_drewN | apply below_drew1 | refine below_set ?_ (IsS125.ge HI0.out)) | exact HB.out)); rintro e w8 ⟨rfl, hi, hb, hk⟩; replace HK := am (KeepBut.trans (by repeat (first | (with_reducible first | exact HK.out | apply KeepBut.set_ | apply keep_drewN | apply keep_drew | apply keep_alloc) | exact HK.out)) hk (.inl rfl)); replace HB := am (hb); replace HI0 := am (hi); (try clear hb); (try clear hk); (try clear hi); obtain ⟨HGz9, hgz9⟩ := HI0.out; have hcz9_0 := cellS125_0 HGz9; have hcz9_1 := cellS125_1 HGz9; have hcz9_2 := cellS125_2 HGz9; have hfz9_0 := blk_frozen HGz9 0; have hfz9_1 := blk_frozen HGz9 1; have hfz9_2 := blk_frozen HGz9 2; clear HGz9 hgz9; clear A4) | (go_at_call 72; (with_reducible refine (octet_ReadNumber.calls k t283 t284 t286 t287 t288 _ A6.out).mono ?_); rintro e w' ⟨rfl, ⟨nd, rfl⟩⟩; (try first | exact ⟨rfl, _, World.drewN_drewN _ _ _⟩ | exact ⟨rfl, _, Eq.trans (World.drewN_drewN _ _ _) (congrArg (World.drewN _) (Nat.add_assoc _ _ _))⟩); clear A6)); try go_wp2_with (first | (go_at_call 71; (with_reducible refine (octet_Reader_Err.calls g s0_0 s0_1 s0_2 t282 t283 t284 t285 w0 _ ?side1 ?side2 A4.out).mono ?_); (case side1 => repeat (first | (with_reducible first | exact HI0.out | apply IsS125.alloc | apply IsS125.drewN | apply IsS125.drew | apply IsS125.set_0 | apply IsS125.set_1 | apply IsS125.set_2) | exact HI0.out)); (case side2 => repeat (first | (with_reducible first | exact HB.out | apply below_alloc | apply pw_below_drewN | apply below_drew1 | refine below_set ?_ (IsS125.ge HI0.out)) | exact HB.out)); rintro e w8 ⟨rfl, hi, hb, hk⟩; replace HK := am (KeepBut.trans (by repeat (first | (with_reducible first | exact HK.out | apply KeepBut.set_ | apply keep_drewN | apply keep_drew | apply keep_alloc) | exact HK.out)) hk (.inl rfl)); replace HB := am (hb); replace HI0 := am (hi); (try clear hb); (try clear hk); (try clear hi); obtain ⟨HGz9, hgz9⟩ := HI0.out; have hcz9_0 := cellS125_0 HGz9; have hcz9_1 := cellS125_1 HGz9; have hcz9_2 := cellS125_2 HGz9; have hfz9_0 := blk_frozen HGz9 0; have hfz9_1 := blk_frozen HGz9 1; have hfz9_2 := blk_frozen HGz9 2; clear HGz9 hgz9; clear A4) | (go_at_call 72; (with_reducible refine (octet_ReadNumber.calls k t283 t284 t286 t287 t288 _ A6.out).mono ?_); rintro e w' ⟨rfl, ⟨nd, rfl⟩⟩; (try first | exact ⟨rfl, _, World.drewN_drewN _ _ _⟩ | exact ⟨rfl, _, Eq.trans (World.drewN_drewN _ _ _) (congrArg (World.drewN _) (Nat.add_assoc _ _ _))⟩); clear A6)))
    go_ret
    exact ⟨rf, by repeat (first | (with_reducible first | exact HI0.out | apply IsS125.alloc | apply IsS125.drewN | apply IsS125.drew | apply IsS125.set_0 | apply IsS125.set_1 | apply IsS125.set_2) | exact HI0.out), by repeat (first | (with_reducible first | exact HB.out | apply below_alloc | apply pw_below_drewN | apply below_drew1 | refine below_set ?_ (IsS125.ge HI0.out)) | exact HB.out), by repeat (first | (with_reducible first | exact HK.out | apply KeepBut.set_ | apply keep_drewN | apply keep_drew | apply keep_alloc) | exact HK.out)⟩
   ·
    rw [if_neg c7] at H
    have c7b0 := beq_eq_false_iff_ne.mpr c7
    have c7b1 := bne_iff_ne.mpr c7
    simp only [Option.some.injEq, Prod.mk.injEq] at H
    obtain ⟨rfl, rfl, rfl, rfl⟩ := H
    go_enter Tryd.func53, Tryd.ntmps53
    go_wp2_with (first | (go_at_call 71; (with_reducible refine (octet_Reader_Err.calls g s0_0 s0_1 s0_2 t282 t283 t284 t285 w0 _ ?side1 ?side2 A4.out).mono ?_); (case side1 => repeat (first | (with_reducible first | exact HI0.out | apply IsS125.alloc | apply IsS125.drewN | apply IsS125.drew | apply IsS125.set_0 | apply IsS125.set_1 | apply IsS125.set_2) | exact HI0.out)); (case side2 => repeat (first | (with_reducible first | exact HB.out | apply below_alloc | apply pw_below_drewN | apply below_drew1 | refine below_set ?_ (IsS125.ge HI0.out)) | exact HB.out)); rintro e w10 ⟨rfl, hi, hb, hk⟩; replace HK := am (KeepBut.trans (by repeat (first | (with_reducible first | exact HK.out | apply KeepBut.set_ | apply keep_drewN | apply keep_drew | apply keep_alloc) | exact HK.out)) hk (.inl rfl)); replace HB := am (hb); replace HI0 := am (hi); (try clear hb); (try clear hk); (try clear hi); obtain ⟨HGz11, hgz11⟩ := HI0.out; have hcz11_0 := cellS125_0 HGz11; have hcz11_1 := cellS125_1 HGz11; have hcz11_2 := cellS125_2 HGz11; have hfz11_0 := blk_frozen HGz11 0; have hfz11_1 := blk_frozen HGz11 1; have hfz11_2 := blk_frozen HGz11 2; clear HGz11 hgz11) | (go_at_call 72; (with_reducible refine (octet_ReadNumber.calls k t283 t284 t286 t287 t288 _ A6.out).mono ?_); rintro e w' ⟨rfl, ⟨nd, rfl⟩⟩; (try first | exact ⟨rfl, _, World.drewN_drewN _ _ _⟩ | exact ⟨rfl, _, Eq.trans (World.drewN_drewN _ _ _) (congrArg (World.drewN _) (Nat.add_assoc _ _ _))⟩)))
    repeat (go_quiet (first | (go_at_call 71; (with_reducible refine (octet_Reader_Err.calls g s0_0 s0_1 s0_2 t282 t283 t284 t285 w0 _ ?side1 ?side2 A4.out).mono ?_); (case side1 => repeat (first | (with_reducible first | exact HI0.out | apply IsS125.alloc | apply IsS125.drewN | apply IsS125.drew | apply IsS125.set_0 | apply IsS125.set_1 | apply IsS125.set_2) | exact HI0.out)); (case side2 => repeat (first | (with_reducible first | exact HB.out | apply below_alloc | apply pw_below_drewN | apply below_drew1 | refine below_set ?_ (IsS125.ge HI0.out)) | exact HB.out)); rintro e w10 ⟨rfl, hi, hb, hk⟩; replace HK := am (KeepBut.trans (by repeat (first | (with_reducible first | exact HK.out | apply KeepBut.set_ | apply keep_drewN | apply keep_drew | apply keep_alloc) | exact HK.out)) hk (.inl rfl)); replace HB := am (hb); replace HI0 := am (hi); (try clear hb); (try clear hk); (try clear hi); obtain ⟨HGz11, hgz11⟩ := HI0.out; have hcz11_0 := cellS125_0 HGz11; have hcz11_1 := cellS125_1 HGz11; have hcz11_2 := cellS125_2 HGz11; have hfz11_0 := blk_frozen HGz11 0; have hfz11_1 := blk_frozen HGz11 1; have hfz11_2 := blk_frozen HGz11 2; clear HGz11 hgz11; clear A4) | (go_at_call 72; (with_reducible refine (octet_ReadNumber.calls k t283 t284 t286 t287 t288 _ A6.out).mono ?_); rintro e w' ⟨rfl, ⟨nd, rfl⟩⟩; (try first | exact ⟨rfl, _, World.drewN_drewN _ _ _⟩ | exact ⟨rfl, _, Eq.trans (World.drewN_drewN _ _ _) (congrArg (World.drewN _) (Nat.add_assoc _ _ _))⟩); clear A6)); try go_wp2_with (first | (go_at_call 71; (with_reducible refine (octet_Reader_Err.calls g s0_0 s0_1 s0_2 t282 t283 t284 t285 w0 _ ?side1 ?side2 A4.out).mono ?_); (case side1 => repeat (first | (with_reducible first | exact HI0.out | apply IsS125.alloc | apply IsS125.drewN | apply IsS125.drew | apply IsS125.set_0 | apply IsS125.set_1 | apply IsS125.set_2) | exact HI0.out)); (case side2 => repeat (first | (with_reducible first | exact HB.out | apply below_alloc | apply pw_below_drewN | apply below_drew1 | refine below_set ?_ (IsS125.ge HI0.out)) | exact HB.out)); rintro e w10 ⟨rfl, hi, hb, hk⟩; replace HK := am (KeepBut.trans (by repeat (first | (with_reducible first | exact HK.out | apply KeepBut.set_ | apply keep_drewN | apply keep_drew | apply keep_alloc) | exact HK.out)) hk (.inl rfl)); replace HB := am (hb); replace HI0 := am (hi); (try clear hb); (try clear hk); (try clear hi); obtain ⟨HGz11, hgz11⟩ := HI0.out; have hcz11_0 := cellS125_0 HGz11; have hcz11_1 := cellS125_1 HGz11; have hcz11_2 := cellS125_2 HGz11; have hfz11_0 := blk_frozen HGz11 0; have hfz11_1 := blk_frozen HGz11 1; have hfz11_2 := blk_frozen HGz11 2; clear HGz11 hgz11; clear A4) | (go_at_call 72; (with_reducible refine (octet_ReadNumber.calls k t283 t284 t286 t287 t288 _ A6.out).mono ?_); rintro e w' ⟨rfl, ⟨nd, rfl⟩⟩; (try first | exact ⟨rfl, _, World.drewN_drewN _ _ _⟩ | exact ⟨rfl, _, Eq.trans (World.drewN_drewN _ _ _) (congrArg (World.drewN _) (Nat.add_assoc _ _ _))⟩); clear A6)))
    go_ret
    exact ⟨rf, by repeat (first | (with_reducible first | exact HI0.out | apply IsS125.alloc | apply IsS125.drewN | apply IsS125.drew | apply IsS125.set_0 | apply IsS125.set_1 | apply IsS125.set_2) | exact HI0.out), by repeat (first | (with_reducible first | exact HB.out | apply below_alloc | apply pw_below_drewN | apply below_drew1 | refine below_set ?_ (IsS125.ge HI0.out)) | exact HB.out), by repeat (first | (with_reducible first | exact HK.out | apply KeepBut.set_ | apply keep_drewN | apply keep_drew | apply keep_alloc) | exact HK.out)⟩
  ·
   rw [if_neg c5] at H
   have c5b0 := beq_eq_false_iff_ne.mpr c5
   have c5b1 := bne_iff_ne.mpr c5
   simp only [Option.some.injEq, Prod.mk.injEq] at H
   obtain ⟨rfl, rfl, rfl, rfl⟩ := H
   go_enter Tryd.func53, Tryd.ntmps53
   go_wp2_with (first | (go_at_call 71; (with_reducible refine (octet_Reader_Err.calls g s0_0 s0_1 s0_2 t282 t283 t284 t285 w0 _ ?side1 ?side2 A4.out).mono ?_); (case side1 => repeat (first | (with_reducible first | exact HI0.out | apply IsS125.alloc | apply IsS125.drewN | apply IsS125.drew | apply IsS125.set_0 | apply IsS125.set_1 | apply IsS125.set_2) | exact HI0.out)); (case side2 => repeat (first | (with_reducible first | exact HB.out | apply below_alloc | apply pw_below_drewN | apply below_drew1 | refine below_set ?_ (IsS125.ge HI0.out)) | exact HB.out)); rintro e w12 ⟨rfl, hi, hb, hk⟩; replace HK := am (KeepBut.trans (by repeat (first | (with_reducible first | exact HK.out | apply KeepBut.set_ | apply keep_drewN | apply keep_drew | apply keep_alloc) | exact HK.out)) hk (.inl rfl)); replace HB := am (hb); replace HI0 := am (hi); (try clear hb); (try clear hk); (try clear hi)))
   repeat (go_quiet (first | (go_at_call 71; (with_reducible refine (octet_Reader_Err.calls g s0_0 s0_1 s0_2 t282 t283 t284 t285 w0 _ ?side1 ?side2 A4.out).mono ?_); (case side1 => repeat (first | (with_reducible first | exact HI0.out | apply IsS125.alloc | apply IsS125.drewN | apply IsS125.drew | apply IsS125.set_0 | apply IsS125.set_1 | apply IsS125.set_2) | exact HI0.out)); (case side2 => repeat (first | (with_reducible first | exact HB.out | apply below_alloc | apply pw_below_drewN | apply below_drew1 | refine below_set ?_ (IsS125.ge HI0.out)) | exact HB.out)); rintro e w12 ⟨rfl, hi, hb, hk⟩; replace HK := am (KeepBut.trans (by repeat (first | (with_reducible first | exact HK.out | apply KeepBut.set_ | apply keep_drewN | apply keep_drew | apply keep_alloc) | exact HK.out)) hk (.inl rfl)); replace HB := am (hb); replace HI0 := am (hi); (try clear hb); (try clear hk); (try clear hi); clear A4)); try go_wp2_with (first | (go_at_call 71; (with_reducible refine (octet_Reader_Err.calls g s0_0 s0_1 s0_2 t282 t283 t284 t285 w0 _ ?side1 ?side2 A4.out).mono ?_); (case side1 => repeat (first | (with_reducible first | exact HI0.out | apply IsS125.alloc | apply IsS125.drewN | apply IsS125.drew | apply IsS125.set_0 | apply IsS125.set_1 | apply IsS125.set_2) | exact HI0.out)); (case side2 => repeat (first | (with_reducible first | exact HB.out | apply below_alloc | apply pw_below_drewN | apply below_drew1 | refine below_set ?_ (IsS125.ge HI0.out)) | exact HB.out)); rintro e w12 ⟨rfl, hi, hb, hk⟩; replace HK := am (KeepBut.trans (by repeat (first | (with_reducible first | exact HK.out | apply KeepBut.set_ | apply keep_drewN | apply keep_drew | apply keep_alloc) | exact HK.out)) hk (.inl rfl)); replace HB := am (hb); replace HI0 := am (hi); (try clear hb); (try clear hk); (try clear hi); clear A4)))
   go_ret
   exact ⟨rf, by repeat (first | (with_reducible first | exact HI0.out | apply IsS125.alloc | apply IsS125.drewN | apply IsS125.drew | apply IsS125.set_0 | apply IsS125.set_1 | apply IsS125.set_2) | exact HI0.out), by repeat (first | (with_reducible first | exact HB.out | apply below_alloc | apply pw_below_drewN | apply below_drew1 | refine below_set ?_ (IsS125.ge HI0.out)) | exact HB.out), by repeat (first | (with_reducible first | exact HK.out | apply KeepBut.set_ | apply keep_drewN | apply keep_drew | apply keep_alloc) | exact HK.out)⟩
 ·
  obtain ⟨⟨t289, t290, t291, t292⟩, A13, H⟩ := obE H
  try dsimp only at H
  simp only [Option.some.injEq, Prod.mk.injEq] at H
  obtain ⟨rfl, rfl, rfl, rfl⟩ := H
  go_enter Tryd.func53, Tryd.ntmps53
  go_wp2_with (first | (go_at_call 73; (with_reducible refine (octet_Reader_Number.calls k g s0_0 s0_1 s0_2 (IntKind.u64.wrap (a1)) t289 t290 t291 t292 w0 _ ?side1 ?side2 A13.out).mono ?_); (case side1 => repeat (first | (with_reducible first | exact HI0.out | apply IsS125.alloc | apply IsS125.drewN | apply IsS125.drew | apply IsS125.set_0 | apply IsS125.set_1 | apply IsS125.set_2) | exact HI0.out)); (case side2 => repeat (first | (with_reducible first | exact HB.out | apply below_alloc | apply pw_below_drewN | apply below_drew1 | refine below_set ?_ (IsS125.ge HI0.out)) | exact HB.out)); rintro e w14 ⟨rfl, hi, hb, hk⟩; replace HK := am (KeepBut.trans (by repeat (first | (with_reducible first | exact HK.out | apply KeepBut.set_ | apply keep_drewN | apply keep_drew | apply keep_alloc) | exact HK.out)) hk (.inl rfl)); replace HB := am (hb); replace HI0 := am (hi); (try clear hb); (try clear hk); (try clear hi)))
  repeat (go_quiet (first | (go_at_call 73; (with_reducible refine (octet_Reader_Number.calls k g s0_0 s0_1 s0_2 (IntKind.u64.wrap (a1)) t289 t290 t291 t292 w0 _ ?side1 ?side2 A13.out).mono ?_); (case side1 => repeat (first | (with_reducible first | exact HI0.out | apply IsS125.alloc | apply IsS125.drewN | apply IsS125.drew | apply IsS125.set_0 | apply IsS125.set_1 | apply IsS125.set_2) | exact HI0.out)); (case side2 => repeat (first | (with_reducible first | exact HB.out | apply below_alloc | apply pw_below_drewN | apply below_drew1 | refine below_set ?_ (IsS125.ge HI0.out)) | exact HB.out)); rintro e w14 ⟨rfl, hi, hb, hk⟩; replace HK := am (KeepBut.trans (by repeat (first | (with_reducible first | exact HK.out | apply KeepBut.set_ | apply keep_drewN | apply keep_drew | apply keep_alloc) | exact HK.out)) hk (.inl rfl)); replace HB := am (hb); replace HI0 := am (hi); (try clear hb); (try clear hk); (try clear hi); clear A13)); try go_wp2_with (first | (go_at_call 73; (with_reducible refine (octet_Reader_Number.calls k g s0_0 s0_1 s0_2 (IntKind.u64.wrap (a1)) t289 t290 t291 t292 w0 _ ?side1 ?side2 A13.out).mono ?_); (case side1 => repeat (first | (with_reducible first | exact HI0.out | apply IsS125.alloc | apply IsS125.drewN | apply IsS125.drew | apply IsS125.set_0 | apply IsS125.set_1 | apply IsS125.set_2) | exact HI0.out)); (case side2 => repeat (first | (with_reducible first | exact HB.out | apply below_alloc | apply pw_below_drewN | apply below_drew1 | refine below_set ?_ (IsS125.ge HI0.out)) | exact HB.out)); rintro e w14 ⟨rfl, hi, hb, hk⟩; replace HK := am (KeepBut.trans (by repeat (first | (with_reducible first | exact HK.out | apply KeepBut.set_ | apply keep_drewN | apply keep_drew | apply keep_alloc) | exact HK.out)) hk (.inl rfl)); replace HB := am (hb); replace HI0 := am (hi); (try clear hb); (try clear hk); (try clear hi); clear A13)))
  go_ret
  exact ⟨rf, by repeat (first | (with_reducible first | exact HI0.out | apply IsS125.alloc | apply IsS125.drewN | apply IsS125.drew | apply IsS125.set_0 | apply IsS125.set_1 | apply IsS125.set_2) | exact HI0.out), by repeat (first | (with_reducible first | exact HB.out | apply below_alloc | apply pw_below_drewN | apply below_drew1 | refine below_set ?_ (IsS125.ge HI0.out)) | exact HB.out), by repeat (first | (with_reducible first | exact HK.out | apply KeepBut.set_ | apply keep_drewN | apply keep_drew | apply keep_alloc) | exact HK.out)⟩
def octet_ReadText.f (k : Nat) (a0 : ByteArray) (a1 : Int) : Option (ByteArray × Int × Int) := (octet_ReadNumber.f k a0 a1).bind fun bt293 => (if bt293.2.2 = 0 then (if bt293.1 > (IntKind.u64.wrap (wrap64 ((a0.size : Int) - bt293.2.1))) then (some ((⟨#[]⟩ : ByteArray), 0, 5)) else (if 0 ≤ bt293.2.1 then (if bt293.2.1 ≤ (wrap64 (bt293.2.1 + (wrap64 (bt293.1)))) then (if (wrap64 (bt293.2.1 + (wrap64 (bt293.1)))) ≤ (a0.size : Int) then (some (a0.extract (bt293.2.1 : Int).toNat ((wrap64 (bt293.2.1 + (wrap64 (bt293.1)))) : Int).toNat, wrap64 (bt293.2.1 + (wrap64 (bt293.1))), 0)) else (none)) else (none)) else (none))) else (some ((⟨#[]⟩ : ByteArray), 0, bt293.2.2)))
theorem octet_ReadText.mono : ∀ a0 a1 k, LeO (octet_ReadText.f k a0 a1) (octet_ReadText.f (k + 1) a0 a1) := by
 intro a0 a1 k
 unfold octet_ReadText.f
 repeat' (with_reducible first | exact octet_ReadNumber.mono _ _ _ | exact LeO.refl _ | exact LeO.none _ | refine LeO.ite ?_ ?_ | refine LeO.bind ?_ (fun _ => ?_))
set_option maxHeartbeats 8000000 in
set_option maxRecDepth 100000 in
theorem octet_ReadText.calls (k : Nat) (a0 : ByteArray) (a1 : Int) (r1 : ByteArray) (r2 : Int) (r3 : Int) (w : World) (h : octet_ReadText.f k a0 a1 = some (r1, r2, r3)) :
  Calls Tryd.prog 74 #[.string a0, .int .i64 a1] w fun e w' => e = .returned (.tuple #[.string r1, .int .i64 r2, .int .i64 r3]) ∧ Drawn0 w w' := by
 have H := h
 clear h
 unfold octet_ReadText.f at H
 obtain ⟨⟨t293, t294, t295⟩, A3, H⟩ := obE H
 try dsimp only at H
 by_cases c4 : t295 = 0
 ·
  rw [if_pos c4] at H
  have c4b0 := beq_iff_eq.mpr c4
  have c4b1 := bne_eq_false_iff_eq.mpr c4
  clear c4
  rcases iteD H with ⟨c5b0, H⟩ | ⟨c5b0, H⟩
  ·
   simp only [Option.some.injEq, Prod.mk.injEq] at H
   obtain ⟨rfl, rfl, rfl⟩ := H
   go_enter Tryd.func74, Tryd.ntmps74
   go_wp2_with (first | ((with_reducible refine gate_callee (f := 72) rfl ?_); refine goesL_ (some 13) rfl rfl Tryd.func72 (by kernel_rfl) rfl #[.string a0, .int .i64 a1] rfl gl ?_; (with_reducible refine (octet_ReadNumber.calls k a0 a1 t293 t294 t295 _ A3.out).mono ?_); rintro e w' ⟨rfl, ⟨nd, rfl⟩⟩; refine ⟨_, rfl, ?_⟩))
   go_ret3
   exact ⟨by first | rfl | (simp; done) | (simp [*]; done), by repeat (first | exact Drawn0.refl _ | apply Drawn0.step)⟩
  ·
   by_cases c6 : 0 ≤ t294
   ·
    rw [if_pos c6] at H
    have c6b0 := eq_true c6
    have c6b1 := decide_eq_true c6
    clear c6
    by_cases c7 : t294 ≤ (wrap64 (t294 + (wrap64 (t293))))
    ·
     rw [if_pos c7] at H
     have c7b0 := eq_true c7
     have c7b1 := decide_eq_true c7
     by_cases c8 : (wrap64 (t294 + (wrap64 (t293)))) ≤ (a0.size : Int)
     ·
      rw [if_pos c8] at H
      have c8b0 := eq_true c8
      have c8b1 := decide_eq_true c8
      simp only [Option.some.injEq, Prod.mk.injEq] at H
      obtain ⟨rfl, rfl, rfl⟩ := H
      go_enter Tryd.func74, Tryd.ntmps74
      go_wp2_with (first | ((with_reducible refine gate_callee (f := 72) rfl ?_); refine goesL_ (some 13) rfl rfl Tryd.func72 (by kernel_rfl) rfl #[.string a0, .int .i64 a1] rfl gl ?_; (with_reducible refine (octet_ReadNumber.calls k a0 a1 t293 t294 t295 _ A3.out).mono ?_); rintro e w' ⟨rfl, ⟨nd, rfl⟩⟩; refine ⟨_, rfl, ?_⟩))
      go_ret3
      exact ⟨by first | rfl | (simp; done) | (simp [*]; done), by repeat (first | exact Drawn0.refl _ | apply Drawn0.step)⟩
     ·
      rw [if_neg c8] at H
      exact absurd H (by simp)
    ·
     rw [if_neg c7] at H
     exact absurd H (by simp)
   ·
    rw [if_neg c6] at H
    exact absurd H (by simp)
 ·
  rw [if_neg c4] at H
  have c4b0 := beq_eq_false_iff_ne.mpr c4
  have c4b1 := bne_iff_ne.mpr c4
  simp only [Option.some.injEq, Prod.mk.injEq] at H
  obtain ⟨rfl, rfl, rfl⟩ := H
  go_enter Tryd.func74, Tryd.ntmps74
  go_wp2_with (first | ((with_reducible refine gate_callee (f := 72) rfl ?_); refine goesL_ (some 13) rfl rfl Tryd.func72 (by kernel_rfl) rfl #[.string a0, .int .i64 a1] rfl gl ?_; (with_reducible refine (octet_ReadNumber.calls k a0 a1 t293 t294 t295 _ A3.out).mono ?_); rintro e w' ⟨rfl, ⟨nd, rfl⟩⟩; refine ⟨_, rfl, ?_⟩))
  go_ret3
  exact ⟨by first | rfl | (simp; done) | (simp [*]; done), by repeat (first | exact Drawn0.refl _ | apply Drawn0.step)⟩
end Go.Proofs.YtoiockmmlanimaaDoor.Ob
end
section
namespace Go.Proofs.YtoiockmmlanimaaDoor.Ob
open Go.RowKit Go.Proofs.YtoiockmmlanimaaDoorW.PrintWords Go.Proofs.YtoiockmmlanimaaDoorW.PrintLast Go.Proofs.YtoiockmmlanimaaDoorW.PrintMore
attribute [local go_sem] max2_int min2_int max_two min_two max_three min_three max_four min_four
set_option linter.unusedVariables false
set_option linter.unusedSimpArgs false
def octet_Reader_Text.j0 : Nat → ByteArray → Int → Int → Bool → ByteArray → Int → Int → Option (ByteArray × ByteArray × Int × Int)
 | 0, _, _, _, _, _, _, _ => none
 | k + 1, x5, x6, x7, x31, x1000, x1001, x1002 => if x31 = true then (if 2 = 0 then (some (x5, x1000, x6, x1002)) else (some ((⟨#[]⟩ : ByteArray), x1000, x1001, 2))) else (if x7 = 0 then (some (x5, x1000, x6, x1002)) else (some ((⟨#[]⟩ : ByteArray), x1000, x1001, x7)))
def octet_Reader_Text.f (k : Nat) (s0_0 : ByteArray) (s0_1 : Int) (s0_2 : Int) (a1 : Int) : Option (ByteArray × ByteArray × Int × Int) := (octet_Reader_Err.f s0_0 s0_1 s0_2).bind fun bt296 => (if bt296.1 = 0 then ((octet_ReadText.f k bt296.2.1 bt296.2.2.1).bind fun bt300 => (if bt300.2.2 = 0 then (octet_Reader_Text.j0 k bt300.1 bt300.2.1 bt300.2.2 (decide ((bt300.1.size : Int) > a1)) bt296.2.1 bt296.2.2.1 bt296.2.2.2) else (octet_Reader_Text.j0 k bt300.1 bt300.2.1 bt300.2.2 false bt296.2.1 bt296.2.2.1 bt296.2.2.2))) else (some ((⟨#[]⟩ : ByteArray), bt296.2.1, bt296.2.2.1, bt296.2.2.2)))
theorem octet_Reader_Text.mono_l : ∀ k, (∀ y0 y1 y2 y3 y4 y5 y6, LeO (octet_Reader_Text.j0 k y0 y1 y2 y3 y4 y5 y6) (octet_Reader_Text.j0 (k + 1) y0 y1 y2 y3 y4 y5 y6))
 | 0 => fun _ _ _ _ _ _ _ r h => by simp [octet_Reader_Text.j0] at h
 | k + 1 => by
  have ih0 := octet_Reader_Text.mono_l k
  ·
   intro y0 y1 y2 y3 y4 y5 y6
   unfold octet_Reader_Text.j0
   repeat' (with_reducible first | exact ih0 _ _ _ _ _ _ _ | exact octet_ReadText.mono _ _ _ | exact LeO.refl _ | exact LeO.none _ | refine LeO.ite ?_ ?_ | refine LeO.bind ?_ (fun _ => ?_))
theorem octet_Reader_Text.mono : ∀ a0 a1 a2 a3 k, LeO (octet_Reader_Text.f k a0 a1 a2 a3) (octet_Reader_Text.f (k + 1) a0 a1 a2 a3) := by
 intro a0 a1 a2 a3 k
 have ih0 := octet_Reader_Text.mono_l k
 unfold octet_Reader_Text.f
 repeat' (with_reducible first | exact ih0 _ _ _ _ _ _ _ | exact octet_ReadText.mono _ _ _ | exact LeO.refl _ | exact LeO.none _ | refine LeO.ite ?_ ?_ | refine LeO.bind ?_ (fun _ => ?_))
set_option maxHeartbeats 8000000 in
set_option maxRecDepth 100000 in
theorem octet_Reader_Text.calls (k : Nat) (g : Nat) (s0_0 : ByteArray) (s0_1 : Int) (s0_2 : Int) (a1 : Int) (r1 : ByteArray) (r2 : ByteArray) (r3 : Int) (r4 : Int) (w0 w : World) (hI : IsS125 w0 w g s0_0 s0_1 s0_2) (hB : Below w0.heap.size w0 w) (h : octet_Reader_Text.f k s0_0 s0_1 s0_2 a1 = some (r1, r2, r3, r4)) :
  Calls Tryd.prog 54 #[.pointer (some ⟨g, 0, none⟩), .int .i64 a1] w fun e w' => e = .returned (.string r1) ∧ IsS125 w0 w' g r2 r3 r4 ∧ Below w0.heap.size w0 w' ∧ KeepBut w w' g none := by
 have HI0 := am hI
 have HK := am (KeepBut.refl w g none)
 have HL := am hB.size
 clear hI
 have HW0 := am hB.size
 have HB := am hB
 clear hB
 have H := h
 clear h
 unfold octet_Reader_Text.f at H
 obtain ⟨⟨t296, t297, t298, t299⟩, A3, H⟩ := obE H
 try dsimp only at H
 by_cases c4 : t296 = 0
 ·
  rw [if_pos c4] at H
  have c4b0 := beq_iff_eq.mpr c4
  have c4b1 := bne_eq_false_iff_eq.mpr c4
  clear c4
  obtain ⟨⟨t300, t301, t302⟩, A5, H⟩ := obE H
  try dsimp only at H
  have HC6 := am H
  clear H
  go_enter Tryd.func54, Tryd.ntmps54
  go_upto_region 4 with (first | (go_at_call 71; (with_reducible refine (octet_Reader_Err.calls g s0_0 s0_1 s0_2 t296 t297 t298 t299 w0 _ ?side1 ?side2 A3.out).mono ?_); (case side1 => repeat (first | (with_reducible first | exact HI0.out | apply IsS125.alloc | apply IsS125.drewN | apply IsS125.drew | apply IsS125.set_0 | apply IsS125.set_1 | apply IsS125.set_2) | exact HI0.out)); (case side2 => repeat (first | (with_reducible first | exact HB.out | apply below_alloc | apply pw_below_drewN | apply below_drew1 | refine below_set ?_ (IsS125.ge HI0.out)) | exact HB.out)); rintro e w7 ⟨rfl, hi, hb, hk⟩; replace HK := am (KeepBut.trans (by repeat (first | (with_reducible first | exact HK.out | apply KeepBut.set_ | apply keep_drewN | apply keep_drew | apply keep_alloc) | exact HK.out)) hk (.inl rfl)); replace HB := am (hb); replace HI0 := am (hi); (try clear hb); (try clear hk); (try clear hi); obtain ⟨HGz8, hgz8⟩ := HI0.out; have hcz8_0 := cellS125_0 HGz8; have hcz8_1 := cellS125_1 HGz8; have hcz8_2 := cellS125_2 HGz8; have hfz8_0 := blk_frozen HGz8 0; have hfz8_1 := blk_frozen HGz8 1; have hfz8_2 := blk_frozen HGz8 2; clear HGz8 hgz8) | (go_at_call 74; (with_reducible refine (octet_ReadText.calls k t297 t298 t300 t301 t302 _ A5.out).mono ?_); rintro e w' ⟨rfl, ⟨nd, rfl⟩⟩; (try first | exact ⟨rfl, _, World.drewN_drewN _ _ _⟩ | exact ⟨rfl, _, Eq.trans (World.drewN_drewN _ _ _) (congrArg (World.drewN _) (Nat.add_assoc _ _ _))⟩)))
  repeat (go_quiet (first | (go_at_call 71; (with_reducible refine (octet_Reader_Err.calls g s0_0 s0_1 s0_2 t296 t297 t298 t299 w0 _ ?side1 ?side2 A3.out).mono ?_); (case side1 => repeat (first | (with_reducible first | exact HI0.out | apply IsS125.alloc | apply IsS125.drewN | apply IsS125.drew | apply IsS125.set_0 | apply IsS125.set_1 | apply IsS125.set_2) | exact HI0.out)); (case side2 => repeat (first | (with_reducible first | exact HB.out | apply below_alloc | apply pw_below_drewN | apply below_drew1 | refine below_set ?_ (IsS125.ge HI0.out)) | exact HB.out)); rintro e w7 ⟨rfl, hi, hb, hk⟩; replace HK := am (KeepBut.trans (by repeat (first | (with_reducible first | exact HK.out | apply KeepBut.set_ | apply keep_drewN | apply keep_drew | apply keep_alloc) | exact HK.out)) hk (.inl rfl)); replace HB := am (hb); replace HI0 := am (hi); (try clear hb); (try clear hk); (try clear hi); obtain ⟨HGz8, hgz8⟩ := HI0.out; have hcz8_0 := cellS125_0 HGz8; have hcz8_1 := cellS125_1 HGz8; have hcz8_2 := cellS125_2 HGz8; have hfz8_0 := blk_frozen HGz8 0; have hfz8_1 := blk_frozen HGz8 1; have hfz8_2 := blk_frozen HGz8 2; clear HGz8 hgz8; clear A3) | (go_at_call 74; (with_reducible refine (octet_ReadText.calls k t297 t298 t300 t301 t302 _ A5.out).mono ?_); rintro e w' ⟨rfl, ⟨nd, rfl⟩⟩; (try first | exact ⟨rfl, _, World.drewN_drewN _ _ _⟩ | exact ⟨rfl, _, Eq.trans (World.drewN_drewN _ _ _) (congrArg (World.drewN _) (Nat.add_assoc _ _ _))⟩); clear A5)); go_upto_region 4 with (first | (go_at_call 71; (with_reducible refine (octet_Reader_Err.calls g s0_0 s0_1 s0_2 t296 t297 t298 t299 w0 _ ?side1 ?side2 A3.out).mono ?_); (case side1 => repeat (first | (with_reducible first | exact HI0.out | apply IsS125.alloc | apply IsS125.drewN | apply IsS125.drew | apply IsS125.set_0 | apply IsS125.set_1 | apply IsS125.set_2) | exact HI0.out)); (case side2 => repeat (first | (with_reducible first | exact HB.out | apply below_alloc | apply pw_below_drewN | apply below_drew1 | refine below_set ?_ (IsS125.ge HI0.out)) | exact HB.out)); rintro e w7 ⟨rfl, hi, hb, hk⟩; replace HK := am (KeepBut.trans (by repeat (first | (with_reducible first | exact HK.out | apply KeepBut.set_ | apply keep_drewN | apply keep_drew | apply keep_alloc) | exact HK.out)) hk (.inl rfl)); replace HB := am (hb); replace HI0 := am (hi); (try clear hb); (try clear hk); (try clear hi); obtain ⟨HGz8, hgz8⟩ := HI0.out; have hcz8_0 := cellS125_0 HGz8; have hcz8_1 := cellS125_1 HGz8; have hcz8_2 := cellS125_2 HGz8; have hfz8_0 := blk_frozen HGz8 0; have hfz8_1 := blk_frozen HGz8 1; have hfz8_2 := blk_frozen HGz8 2; clear HGz8 hgz8; clear A3) | (go_at_call 74; (with_reducible refine (octet_ReadText.calls k t297 t298 t300 t301 t302 _ A5.out).mono ?_); rintro e w' ⟨rfl, ⟨nd, rfl⟩⟩; (try first | exact ⟨rfl, _, World.drewN_drewN _ _ _⟩ | exact ⟨rfl, _, Eq.trans (World.drewN_drewN _ _ _) (congrArg (World.drewN _) (Nat.add_assoc _ _ _))⟩); clear A5)))
  (try simp only [Act.put, List.setIfInBounds_toArray, List.set_cons_zero, List.set_cons_succ])
  go_cut [31] (fun v31 wc => ∃ (kq : Nat) (x31_5 : Bool), v31 = .bool x31_5 ∧ Aside0 (octet_Reader_Text.j0 kq t300 t301 t302 x31_5 t297 t298 t299 = some (r1, r2, r3, r4)) ∧ Aside0 (kq ≤ k) ∧ Aside0 (IsS125 w0 wc g t297 t298 t299) ∧ Aside0 (KeepBut w wc g none) ∧ Aside0 (Below w0.heap.size w0 wc))
  case first =>
   have H := HC6.out
   clear HC6
   by_cases c9 : t302 = 0
   ·
    rw [if_pos c9] at H
    have c9b0 := beq_iff_eq.mpr c9
    have c9b1 := bne_eq_false_iff_eq.mpr c9
    clear c9
    (first | rw [c9b0] | (simp only [i64_w, i32_w]; rw [c9b0]) | skip)
    have H' := am H
    clear H
    go_wp2
    repeat (go_quiet (fail); try go_wp2)
    go_meet
    case rel => exact ⟨_, (decide ((t300.size : Int) > a1)), rs, H', ⟨om⟩, ⟨by repeat (first | (with_reducible first | exact HI0.out | apply IsS125.alloc | apply IsS125.drewN | apply IsS125.drew | apply IsS125.set_0 | apply IsS125.set_1 | apply IsS125.set_2) | exact HI0.out)⟩, ⟨by repeat (first | (with_reducible first | exact HK.out | apply KeepBut.set_ | apply keep_drewN | apply keep_drew | apply keep_alloc) | exact HK.out)⟩, ⟨by repeat (first | (with_reducible first | exact HB.out | apply below_alloc | apply pw_below_drewN | apply below_drew1 | refine below_set ?_ (IsS125.ge HI0.out)) | exact HB.out)⟩⟩
   ·
    rw [if_neg c9] at H
    have c9b0 := beq_eq_false_iff_ne.mpr c9
    have c9b1 := bne_iff_ne.mpr c9
    (first | rw [c9b0] | (simp only [i64_w, i32_w]; rw [c9b0]) | skip)
    have H' := am H
    clear H
    go_wp2
    repeat (go_quiet (fail); try go_wp2)
    go_meet
    case rel => exact ⟨_, (false), rs, H', ⟨om⟩, ⟨by repeat (first | (with_reducible first | exact HI0.out | apply IsS125.alloc | apply IsS125.drewN | apply IsS125.drew | apply IsS125.set_0 | apply IsS125.set_1 | apply IsS125.set_2) | exact HI0.out)⟩, ⟨by repeat (first | (with_reducible first | exact HK.out | apply KeepBut.set_ | apply keep_drewN | apply keep_drew | apply keep_alloc) | exact HK.out)⟩, ⟨by repeat (first | (with_reducible first | exact HB.out | apply below_alloc | apply pw_below_drewN | apply below_drew1 | refine below_set ?_ (IsS125.ge HI0.out)) | exact HB.out)⟩⟩
  case rest =>
   clear HC6
   try clear p2
   try clear c4
   try clear c4b0
   try clear c4b1
   try clear c5
   try clear c9
   try clear c9b0
   try clear c9b1
   try clear hcz8_0 hcz8_1 hcz8_2 hfz8_0 hfz8_1 hfz8_2
   obtain ⟨kq, x31_5, rfl, HA, HJ5, HI0, HK, HB⟩ := hcut
   cases kq with
   | zero => exact absurd HA.out (by simp [octet_Reader_Text.j0])
   | succ kj5 =>
    have H := HA.out
    clear HA
    simp only [octet_Reader_Text.j0] at H
    by_cases c10 : x31_5 = true
    ·
     subst c10
     rw [if_pos rfl] at H
     by_cases c11 : 2 = 0
     ·
      exact absurd c11 (by decide)
     ·
      rw [if_neg c11] at H
      have c11b0 := beq_eq_false_iff_ne.mpr c11
      have c11b1 := bne_iff_ne.mpr c11
      simp only [Option.some.injEq, Prod.mk.injEq] at H
      obtain ⟨rfl, rfl, rfl, rfl⟩ := H
      obtain ⟨HGz13, hgz13⟩ := HI0.out
      have hcz13_0 := cellS125_0 HGz13
      have hcz13_1 := cellS125_1 HGz13
      have hcz13_2 := cellS125_2 HGz13
      have hfz13_0 := blk_frozen HGz13 0
      have hfz13_1 := blk_frozen HGz13 1
      have hfz13_2 := blk_frozen HGz13 2
      clear HGz13 hgz13
      go_wp2
      repeat (go_quiet (fail); try go_wp2)
      go_ret
      exact ⟨rf, by repeat (first | (with_reducible first | exact HI0.out | apply IsS125.alloc | apply IsS125.drewN | apply IsS125.drew | apply IsS125.set_0 | apply IsS125.set_1 | apply IsS125.set_2) | exact HI0.out), by repeat (first | (with_reducible first | exact HB.out | apply below_alloc | apply pw_below_drewN | apply below_drew1 | refine below_set ?_ (IsS125.ge HI0.out)) | exact HB.out), by repeat (first | (with_reducible first | exact HK.out | apply KeepBut.set_ | apply keep_drewN | apply keep_drew | apply keep_alloc) | exact HK.out)⟩
    ·
     replace c10 := Bool.eq_false_iff.mpr c10
     subst c10
     rw [if_neg (show ¬ (false = true) by decide)] at H
     by_cases c14 : t302 = 0
     ·
      rw [if_pos c14] at H
      have c14b0 := beq_iff_eq.mpr c14
      have c14b1 := bne_eq_false_iff_eq.mpr c14
      clear c14
      simp only [Option.some.injEq, Prod.mk.injEq] at H
      obtain ⟨rfl, rfl, rfl, rfl⟩ := H
      obtain ⟨HGz15, hgz15⟩ := HI0.out
      have hcz15_0 := cellS125_0 HGz15
      have hcz15_1 := cellS125_1 HGz15
      have hcz15_2 := cellS125_2 HGz15
      have hfz15_0 := blk_frozen HGz15 0
      have hfz15_1 := blk_frozen HGz15 1
      have hfz15_2 := blk_frozen HGz15 2
      clear HGz15 hgz15
      go_wp2
      repeat (go_quiet (fail); try go_wp2)
      go_ret
      exact ⟨rf, by repeat (first | (with_reducible first | exact HI0.out | apply IsS125.alloc | apply IsS125.drewN | apply IsS125.drew | apply IsS125.set_0 | apply IsS125.set_1 | apply IsS125.set_2) | exact HI0.out), by repeat (first | (with_reducible first | exact HB.out | apply below_alloc | apply pw_below_drewN | apply below_drew1 | refine below_set ?_ (IsS125.ge HI0.out)) | exact HB.out), by repeat (first | (with_reducible first | exact HK.out | apply KeepBut.set_ | apply keep_drewN | apply keep_drew | apply keep_alloc) | exact HK.out)⟩
     ·
      rw [if_neg c14] at H
      have c14b0 := beq_eq_false_iff_ne.mpr c14
      have c14b1 := bne_iff_ne.mpr c14
      simp only [Option.some.injEq, Prod.mk.injEq] at H
      obtain ⟨rfl, rfl, rfl, rfl⟩ := H
      obtain ⟨HGz16, hgz16⟩ := HI0.out
      have hcz16_0 := cellS125_0 HGz16
      have hcz16_1 := cellS125_1 HGz16
      have hcz16_2 := cellS125_2 HGz16
      have hfz16_0 := blk_frozen HGz16 0
      have hfz16_1 := blk_frozen HGz16 1
      have hfz16_2 := blk_frozen HGz16 2
      clear HGz16 hgz16
      go_wp2
      repeat (go_quiet (fail); try go_wp2)
      go_ret
      exact ⟨rf, by repeat (first | (with_reducible first | exact HI0.out | apply IsS125.alloc | apply IsS125.drewN | apply IsS125.drew | apply IsS125.set_0 | apply IsS125.set_1 | apply IsS125.set_2) | exact HI0.out), by repeat (first | (with_reducible first | exact HB.out | apply below_alloc | apply pw_below_drewN | apply below_drew1 | refine below_set ?_ (IsS125.ge HI0.out)) | exact HB.out), by repeat (first | (with_reducible first | exact HK.out | apply KeepBut.set_ | apply keep_drewN | apply keep_drew | apply keep_alloc) | exact HK.out)⟩
 ·
  rw [if_neg c4] at H
  have c4b0 := beq_eq_false_iff_ne.mpr c4
  have c4b1 := bne_iff_ne.mpr c4
  simp only [Option.some.injEq, Prod.mk.injEq] at H
  obtain ⟨rfl, rfl, rfl, rfl⟩ := H
  go_enter Tryd.func54, Tryd.ntmps54
  go_wp2_with (first | (go_at_call 71; (with_reducible refine (octet_Reader_Err.calls g s0_0 s0_1 s0_2 t296 t297 t298 t299 w0 _ ?side1 ?side2 A3.out).mono ?_); (case side1 => repeat (first | (with_reducible first | exact HI0.out | apply IsS125.alloc | apply IsS125.drewN | apply IsS125.drew | apply IsS125.set_0 | apply IsS125.set_1 | apply IsS125.set_2) | exact HI0.out)); (case side2 => repeat (first | (with_reducible first | exact HB.out | apply below_alloc | apply pw_below_drewN | apply below_drew1 | refine below_set ?_ (IsS125.ge HI0.out)) | exact HB.out)); rintro e w17 ⟨rfl, hi, hb, hk⟩; replace HK := am (KeepBut.trans (by repeat (first | (with_reducible first | exact HK.out | apply KeepBut.set_ | apply keep_drewN | apply keep_drew | apply keep_alloc) | exact HK.out)) hk (.inl rfl)); replace HB := am (hb); replace HI0 := am (hi); (try clear hb); (try clear hk); (try clear hi)))
  repeat (go_quiet (first | (go_at_call 71; (with_reducible refine (octet_Reader_Err.calls g s0_0 s0_1 s0_2 t296 t297 t298 t299 w0 _ ?side1 ?side2 A3.out).mono ?_); (case side1 => repeat (first | (with_reducible first | exact HI0.out | apply IsS125.alloc | apply IsS125.drewN | apply IsS125.drew | apply IsS125.set_0 | apply IsS125.set_1 | apply IsS125.set_2) | exact HI0.out)); (case side2 => repeat (first | (with_reducible first | exact HB.out | apply below_alloc | apply pw_below_drewN | apply below_drew1 | refine below_set ?_ (IsS125.ge HI0.out)) | exact HB.out)); rintro e w17 ⟨rfl, hi, hb, hk⟩; replace HK := am (KeepBut.trans (by repeat (first | (with_reducible first | exact HK.out | apply KeepBut.set_ | apply keep_drewN | apply keep_drew | apply keep_alloc) | exact HK.out)) hk (.inl rfl)); replace HB := am (hb); replace HI0 := am (hi); (try clear hb); (try clear hk); (try clear hi); clear A3)); try go_wp2_with (first | (go_at_call 71; (with_reducible refine (octet_Reader_Err.calls g s0_0 s0_1 s0_2 t296 t297 t298 t299 w0 _ ?side1 ?side2 A3.out).mono ?_); (case side1 => repeat (first | (with_reducible first | exact HI0.out | apply IsS125.alloc | apply IsS125.drewN | apply IsS125.drew | apply IsS125.set_0 | apply IsS125.set_1 | apply IsS125.set_2) | exact HI0.out)); (case side2 => repeat (first | (with_reducible first | exact HB.out | apply below_alloc | apply pw_below_drewN | apply below_drew1 | refine below_set ?_ (IsS125.ge HI0.out)) | exact HB.out)); rintro e w17 ⟨rfl, hi, hb, hk⟩; replace HK := am (KeepBut.trans (by repeat (first | (with_reducible first | exact HK.out | apply KeepBut.set_ | apply keep_drewN | apply keep_drew | apply keep_alloc) | exact HK.out)) hk (.inl rfl)); replace HB := am (hb); replace HI0 := am (hi); (try clear hb); (try clear hk); (try clear hi); clear A3)))
  go_ret
  exact ⟨rf, by repeat (first | (with_reducible first | exact HI0.out | apply IsS125.alloc | apply IsS125.drewN | apply IsS125.drew | apply IsS125.set_0 | apply IsS125.set_1 | apply IsS125.set_2) | exact HI0.out), by repeat (first | (with_reducible first | exact HB.out | apply below_alloc | apply pw_below_drewN | apply below_drew1 | refine below_set ?_ (IsS125.ge HI0.out)) | exact HB.out), by repeat (first | (with_reducible first | exact HK.out | apply KeepBut.set_ | apply keep_drewN | apply keep_drew | apply keep_alloc) | exact HK.out)⟩
def octet_Reader_End.f (s0_0 : ByteArray) (s0_1 : Int) (s0_2 : Int) : Option (Int × ByteArray × Int × Int) := if s0_2 = 0 then (if s0_1 < (s0_0.size : Int) then some (2, s0_0, s0_1, 2) else some (0, s0_0, s0_1, 0)) else some (s0_2, s0_0, s0_1, s0_2)
set_option maxRecDepth 100000 in
set_option maxHeartbeats 1000000 in
theorem octet_Reader_End_err (g : Nat) (e0 : Int) (w : World) (h2 : w.cell? ⟨g, 2, none⟩ = some (.int .i64 e0)) :
  Calls Tryd.prog 71 #[.pointer (some ⟨g, 0, none⟩)] w fun e w' => e = .returned (.int .i64 e0) ∧ w' = w := by
 go_enter Tryd.func71, Tryd.ntmps71
 go_wp2
 go_ret
 exact ⟨rfl, rfl⟩
set_option maxRecDepth 100000 in
set_option maxHeartbeats 1000000 in
theorem octet_Reader_End_no (g : Nat) (e0 : Int) (w : World) (he : ¬ e0 = 0) (h2 : w.cell? ⟨g, 2, none⟩ = some (.int .i64 e0)) :
  Calls Tryd.prog 55 #[.pointer (some ⟨g, 0, none⟩)] w fun e w' => e = .returned (.int .i64 e0) ∧ ∃ n, w' = w.drewN n := by
 have mixed : Tryd.prog.follows Departure.mixedOrders = true := by kernel_rfl
 have hne : (e0 == 0) = false := beq_eq_false_iff_ne.2 he
 go_enter Tryd.func55, Tryd.ntmps55
 go_wp2
 go_quiet (first | (go_at_call 71; exact Calls.quiet_of_same (octet_Reader_End_err g e0 _ h2)))
 go_wp2_with (go_at_call 71; refine (octet_Reader_End_err g e0 _ (by exact h2)).mono ?_; rintro e w' ⟨rfl, rfl⟩)
 go_ret
 exact ⟨rfl, _, rfl⟩
set_option maxRecDepth 100000 in
set_option maxHeartbeats 1000000 in
theorem octet_Reader_End_end (g : Nat) (s : ByteArray) (a : Int) (w : World) (ha : ¬ a < (s.size : Int)) (h0 : w.cell? ⟨g, 0, none⟩ = some (.string s)) (h1 : w.cell? ⟨g, 1, none⟩ = some (.int .i64 a)) (h2 : w.cell? ⟨g, 2, none⟩ = some (.int .i64 0)) :
  Calls Tryd.prog 55 #[.pointer (some ⟨g, 0, none⟩)] w fun e w' => e = .returned (.int .i64 0) ∧ ∃ n, w' = w.drewN n := by
 have mixed : Tryd.prog.follows Departure.mixedOrders = true := by kernel_rfl
 have hne : decide (a < (s.size : Int)) = false := decide_eq_false ha
 go_enter Tryd.func55, Tryd.ntmps55
 go_wp2
 go_quiet (first | (go_at_call 71; exact Calls.quiet_of_same (octet_Reader_End_err g 0 _ h2)))
 go_wp2_with (go_at_call 71; refine (octet_Reader_End_err g 0 _ (by exact h2)).mono ?_; rintro e w' ⟨rfl, rfl⟩)
 go_ret
 exact ⟨rfl, _, rfl⟩
set_option maxRecDepth 100000 in
set_option maxHeartbeats 1000000 in
theorem octet_Reader_End_long (g : Nat) (s : ByteArray) (a : Int) (w : World) (ha : a < (s.size : Int)) (h0 : w.cell? ⟨g, 0, none⟩ = some (.string s)) (h1 : w.cell? ⟨g, 1, none⟩ = some (.int .i64 a)) (h2 : w.cell? ⟨g, 2, none⟩ = some (.int .i64 0)) (hz : w.frozen? ⟨g, 2, none⟩ = false) :
  Calls Tryd.prog 55 #[.pointer (some ⟨g, 0, none⟩)] w fun e w' => e = .returned (.int .i64 2) ∧ ∃ n, w' = (w.drewN n).setCell ⟨g, 2, none⟩ (.int .i64 2) := by
 have mixed : Tryd.prog.follows Departure.mixedOrders = true := by kernel_rfl
 have hne : decide (a < (s.size : Int)) = true := decide_eq_true ha
 go_enter Tryd.func55, Tryd.ntmps55
 go_wp2
 go_quiet (first | (go_at_call 71; exact Calls.quiet_of_same (octet_Reader_End_err g 0 _ h2)))
 go_wp2_with (go_at_call 71; refine (octet_Reader_End_err g 2 _ ?_).mono ?_; rotate_left; rintro e w' ⟨rfl, rfl⟩)
 ·
  go_ret
  exact ⟨rfl, _, rfl⟩
 ·
  exact World.cell?_setCell_same _ _ _ (u := .int .i64 0) (by exact h2)
theorem octet_Reader_End.calls (g : Nat) (s0_0 : ByteArray) (s0_1 : Int) (s0_2 : Int) (r1 : Int) (r2 : ByteArray) (r3 : Int) (r4 : Int) (w0 w : World) (hI : IsS125 w0 w g s0_0 s0_1 s0_2) (hB : Below w0.heap.size w0 w) (h : octet_Reader_End.f s0_0 s0_1 s0_2 = some (r1, r2, r3, r4)) :
  Calls Tryd.prog 55 #[.pointer (some ⟨g, 0, none⟩)] w fun e w' => e = .returned (.int .i64 r1) ∧ IsS125 w0 w' g r2 r3 r4 ∧ Below w0.heap.size w0 w' ∧ KeepBut w w' g none := by
 have c0 := cellS125_0 hI.1
 have c1 := cellS125_1 hI.1
 have c2 := cellS125_2 hI.1
 have cz := blk_frozen hI.1 2
 unfold octet_Reader_End.f at h
 split at h
 ·
  rename_i he
  subst he
  split at h
  ·
   rename_i ha
   cases h
   exact (octet_Reader_End_long g _ _ w ha c0 c1 c2 cz).mono fun e w' ⟨h1, n, h2⟩ => ⟨h1, by rw [h2]; exact (hI.drewN n).set_2 2, by rw [h2]; exact (pw_below_drewN hB n).setCell hI.2 _, by rw [h2]; exact (keep_drewN (KeepBut.refl _ _ _) n).set_ 2 _⟩
  ·
   rename_i ha
   cases h
   exact (octet_Reader_End_end g _ _ w ha c0 c1 c2).mono fun e w' ⟨h1, n, h2⟩ => ⟨h1, by rw [h2]; exact hI.drewN n, by rw [h2]; exact pw_below_drewN hB n, by rw [h2]; exact keep_drewN (KeepBut.refl _ _ _) n⟩
 ·
  rename_i he
  cases h
  exact (octet_Reader_End_no g _ w he c2).mono fun e w' ⟨h1, n, h2⟩ => ⟨h1, by rw [h2]; exact hI.drewN n, by rw [h2]; exact pw_below_drewN hB n, by rw [h2]; exact keep_drewN (KeepBut.refl _ _ _) n⟩
end Go.Proofs.YtoiockmmlanimaaDoor.Ob
end
