/- Merged of several texts of this session's by merge.py. -/
import Derived.Test.YtoiockmmlanimaaDoorMk3
import Derived.Test.YtoiockmmlanimaaDoorMk5
import Derived.Lib.Hide
import Derived.IntWalk
import Derived.Deep.QuietTactic
import Derived.BigQuiet
import Derived.OwnWalk
import Derived.Lib.Walk
import Derived.Deep.RegionWith
import Derived.Laws.Bits64b
section
-- Written for this claim by hyb.py, a driver of this session's over the kit's printer.
namespace Go.Proofs.YtoiockmmlanimaaDoor.Ok
open Go.RowKit Go.Proofs.YtoiockmmlanimaaDoorW.PrintWords Go.Proofs.YtoiockmmlanimaaDoorW.PrintLast Go.Proofs.YtoiockmmlanimaaDoorW.PrintMore
attribute [local go_sem] max2_int min2_int max_two min_two max_three min_three max_four min_four
set_option linter.unusedVariables false
set_option linter.unusedSimpArgs false

/-! ### octet_Reader_Err: function 71 -/
def octet_Reader_Err.f (s0_0 : ByteArray) (s0_1 : Int) (s0_2 : Int) : Option (Int × ByteArray × Int × Int) := some (s0_2, s0_0, s0_1, s0_2)
set_option maxHeartbeats 8000000 in
set_option maxRecDepth 100000 in
theorem octet_Reader_Err.calls (g : Nat) (s0_0 : ByteArray) (s0_1 : Int) (s0_2 : Int) (r1 : Int) (r2 : ByteArray) (r3 : Int) (r4 : Int) (w0 w : World) (hI : IsS125 w0 w g s0_0 s0_1 s0_2) (hB : Below w0.heap.size w0 w) (h : octet_Reader_Err.f s0_0 s0_1 s0_2 = some (r1, r2, r3, r4)) :
  Calls Tryd.prog 71 #[.pointer (some ⟨g, 0, none⟩)] w fun e w' => e = .returned (.int .i64 r1) ∧ IsS125 w0 w' g r2 r3 r4 ∧ Below w0.heap.size w0 w' ∧ KeepBut w w' g none := by
 have HI0 := am hI
 have HK := am (KeepBut.refl w g none)
 have HL := am hB.size
 clear hI
 have HW0 := am hB.size
 have HB := am hB
 clear hB
 have H := h
 clear h
 unfold octet_Reader_Err.f at H
 simp only [Option.some.injEq, Prod.mk.injEq] at H
 obtain ⟨rfl, rfl, rfl, rfl⟩ := H
 obtain ⟨HGz2, hgz2⟩ := HI0.out
 have hcz2_0 := cellS125_0 HGz2
 have hcz2_1 := cellS125_1 HGz2
 have hcz2_2 := cellS125_2 HGz2
 have hfz2_0 := blk_frozen HGz2 0
 have hfz2_1 := blk_frozen HGz2 1
 have hfz2_2 := blk_frozen HGz2 2
 clear HGz2 hgz2
 go_enter Tryd.func71, Tryd.ntmps71
 go_wp2
 go_ret
 exact ⟨rf, by repeat (first | (with_reducible first | exact HI0.out | apply IsS125.alloc | apply IsS125.drewN | apply IsS125.drew | apply IsS125.set_0 | apply IsS125.set_1 | apply IsS125.set_2) | exact HI0.out), by repeat (first | (with_reducible first | exact HB.out | apply below_alloc | apply pw_below_drewN | apply below_drew1 | refine below_set ?_ (IsS125.ge HI0.out)) | exact HB.out), by repeat (first | (with_reducible first | exact HK.out | apply KeepBut.set_ | apply keep_drewN | apply keep_drew | apply keep_alloc) | exact HK.out)⟩

/-! ### octet_ReadNumber: function 72 -/
mutual
def octet_ReadNumber.j0 : Nat → ByteArray → Int → Bool → Option (Int × Int × Int)
 | 0, _, _, _ => none
 | k + 1, x0, x1, x17 => if x17 = true then (some (0, 0, 1)) else (octet_ReadNumber.l0 k x0 x1 0 0)
def octet_ReadNumber.l0 : Nat → ByteArray → Int → Int → Int → Option (Int × Int × Int)
 | 0, _, _, _, _ => none
 | k + 1, x0, x1, x7, x18 => if x18 < 10 then (if (wrap64 (x1 + x18)) ≥ (x0.size : Int) then (some (0, 0, 5)) else (if 0 ≤ (wrap64 (x1 + x18)) then (if (wrap64 (x1 + x18)) < (x0.size : Int) then (if x18 = 9 then (if (bt x0 (wrap64 (x1 + x18))) > 1 then (octet_ReadNumber.j2 k x0 x1 x7 x18 (bt x0 (wrap64 (x1 + x18))) x18 true) else (if x18 > 0 then (octet_ReadNumber.j2 k x0 x1 x7 x18 (bt x0 (wrap64 (x1 + x18))) x18 ((bt x0 (wrap64 (x1 + x18))) == 0)) else (octet_ReadNumber.j2 k x0 x1 x7 x18 (bt x0 (wrap64 (x1 + x18))) x18 false))) else (if x18 > 0 then (octet_ReadNumber.j2 k x0 x1 x7 x18 (bt x0 (wrap64 (x1 + x18))) x18 ((bt x0 (wrap64 (x1 + x18))) == 0)) else (octet_ReadNumber.j2 k x0 x1 x7 x18 (bt x0 (wrap64 (x1 + x18))) x18 false))) else (none)) else (none))) else (some (0, 0, 3))
def octet_ReadNumber.j2 : Nat → ByteArray → Int → Int → Int → Int → Int → Bool → Option (Int × Int × Int)
 | 0, _, _, _, _, _, _, _ => none
 | k + 1, x0, x1, x7, x8, x9, x18, x45 => if x45 = true then (some (0, 0, 3)) else (if 0 ≤ (wrap64 (7 * x8)) then (if x9 < 128 then (some (Go.bits .or .u64 x7 (shl .u64 (IntKind.u64.wrap (Go.bits .and .u8 x9 127)) (wrap64 (7 * x8))), wrap64 ((wrap64 (x1 + x8)) + 1), 0)) else (octet_ReadNumber.l0 k x0 x1 (Go.bits .or .u64 x7 (shl .u64 (IntKind.u64.wrap (Go.bits .and .u8 x9 127)) (wrap64 (7 * x8)))) (wrap64 (x18 + 1)))) else (none))
end
def octet_ReadNumber.f (k : Nat) (a0 : ByteArray) (a1 : Int) : Option (Int × Int × Int) := if a1 < 0 then (octet_ReadNumber.j0 k a0 a1 true) else (octet_ReadNumber.j0 k a0 a1 (decide (a1 > (a0.size : Int))))
theorem octet_ReadNumber.mono_l : ∀ k, (∀ y0 y1 y2, LeO (octet_ReadNumber.j0 k y0 y1 y2) (octet_ReadNumber.j0 (k + 1) y0 y1 y2)) ∧ (∀ y0 y1 y2 y3, LeO (octet_ReadNumber.l0 k y0 y1 y2 y3) (octet_ReadNumber.l0 (k + 1) y0 y1 y2 y3)) ∧ (∀ y0 y1 y2 y3 y4 y5 y6, LeO (octet_ReadNumber.j2 k y0 y1 y2 y3 y4 y5 y6) (octet_ReadNumber.j2 (k + 1) y0 y1 y2 y3 y4 y5 y6))
 | 0 => ⟨fun _ _ _ r h => by simp [octet_ReadNumber.j0] at h, fun _ _ _ _ r h => by simp [octet_ReadNumber.l0] at h, fun _ _ _ _ _ _ _ r h => by simp [octet_ReadNumber.j2] at h⟩
 | k + 1 => by
  obtain ⟨ih0, ih1, ih2⟩ := octet_ReadNumber.mono_l k
  refine ⟨?_, ?_, ?_⟩
  all_goals intros
  all_goals first | unfold octet_ReadNumber.j0 | unfold octet_ReadNumber.l0 | unfold octet_ReadNumber.j2
  all_goals repeat' (with_reducible first | exact ih0 _ _ _ | exact ih1 _ _ _ _ | exact ih2 _ _ _ _ _ _ _ | exact LeO.refl _ | exact LeO.none _ | refine LeO.ite ?_ ?_ | refine LeO.bind ?_ (fun _ => ?_))
theorem octet_ReadNumber.mono : ∀ a0 a1 k, LeO (octet_ReadNumber.f k a0 a1) (octet_ReadNumber.f (k + 1) a0 a1) := by
 intro a0 a1 k
 obtain ⟨ih0, ih1, ih2⟩ := octet_ReadNumber.mono_l k
 unfold octet_ReadNumber.f
 repeat' (with_reducible first | exact ih0 _ _ _ | exact ih1 _ _ _ _ | exact ih2 _ _ _ _ _ _ _ | exact LeO.refl _ | exact LeO.none _ | refine LeO.ite ?_ ?_ | refine LeO.bind ?_ (fun _ => ?_))
set_option maxHeartbeats 8000000 in
set_option maxRecDepth 100000 in
theorem octet_ReadNumber.calls (k : Nat) (a0 : ByteArray) (a1 : Int) (r1 : Int) (r2 : Int) (r3 : Int) (w : World) (h : octet_ReadNumber.f k a0 a1 = some (r1, r2, r3)) :
  Calls Tryd.prog 72 #[.string a0, .int .i64 a1] w fun e w' => e = .returned (.tuple #[.int .u64 r1, .int .i64 r2, .int .i64 r3]) ∧ Drawn0 w w' := by
 have H := h
 clear h
 unfold octet_ReadNumber.f at H
 have HC3 := am H
 clear H
 go_enter Tryd.func72, Tryd.ntmps72
 go_upto_region 1 with (fail)
 go_cut [17] (fun v17 wc => ∃ (kq : Nat) (x17_2 : Bool), v17 = .bool x17_2 ∧ Aside0 (octet_ReadNumber.j0 kq a0 a1 x17_2 = some (r1, r2, r3)) ∧ Aside0 (kq ≤ k) ∧ Drawn0 w wc)
 case first =>
  have H := HC3.out
  clear HC3
  rcases iteD H with ⟨c4b0, H⟩ | ⟨c4b0, H⟩
  ·
   (first | rw [c4b0] | (simp only [i64_w, i32_w]; rw [c4b0]) | skip)
   have H' := am H
   clear H
   go_wp2
   go_meet
   case rel => exact ⟨_, (true), rs, H', ⟨om⟩, by repeat (first | exact Drawn0.refl _ | apply Drawn0.step)⟩
  ·
   (first | rw [c4b0] | (simp only [i64_w, i32_w]; rw [c4b0]) | skip)
   have H' := am H
   clear H
   go_wp2
   go_meet
   case rel => exact ⟨_, (decide (a1 > (a0.size : Int))), rs, H', ⟨om⟩, by repeat (first | exact Drawn0.refl _ | apply Drawn0.step)⟩
 case rest =>
  clear HC3
  try clear p2
  try clear c4
  try clear c4b0
  obtain ⟨kq, x17_2, rfl, HA, HJ2, ⟨mc2, rfl⟩⟩ := hcut
  cases kq with
  | zero => exact absurd HA.out (by simp [octet_ReadNumber.j0])
  | succ kj2 =>
   have H := HA.out
   clear HA
   simp only [octet_ReadNumber.j0] at H
   by_cases c5 : x17_2 = true
   ·
    subst c5
    rw [if_pos rfl] at H
    simp only [Option.some.injEq, Prod.mk.injEq] at H
    obtain ⟨rfl, rfl, rfl⟩ := H
    go_wp2
    go_ret3
    exact ⟨by first | rfl | (simp; done) | (simp [*]; done), by repeat (first | exact Drawn0.refl _ | apply Drawn0.step)⟩
   ·
    replace c5 := Bool.eq_false_iff.mpr c5
    subst c5
    rw [if_neg (show ¬ (false = true) by decide)] at H
    have H' := am H
    clear H
    go_wp2
    go_loopg [7, 18] kj2 (fun kq v7 v18 w' => ∃ (x7_2 : Int) (x18_2 : Int), v7 = .int .u64 x7_2 ∧ v18 = .int .i64 x18_2 ∧ Aside0 (octet_ReadNumber.l0 kq a0 a1 x7_2 x18_2 = some (r1, r2, r3)) ∧ Aside0 (kq ≤ kj2) ∧ Drawn0 w w')
    case atStart => exact ⟨(0), (0), rs, rs, H', ⟨Nat.le_refl _⟩, by repeat (first | exact Drawn0.refl _ | apply Drawn0.step)⟩
    case round =>
     clear H'
     try clear c2
     try clear p2
     try clear c4
     try clear c4b0
     try clear c5
     try clear p2
     obtain ⟨x7_2, x18_2, rfl, rfl, HA, HK2, ⟨m2, rfl⟩⟩ := hrel
     cases gk with
     | zero => exact absurd HA.out (by simp [octet_ReadNumber.l0])
     | succ k2 =>
      have H := HA.out
      clear HA
      simp only [octet_ReadNumber.l0] at H
      rcases iteD H with ⟨c6b0, H⟩ | ⟨c6b0, H⟩
      ·
       rcases iteD H with ⟨c7b0, H⟩ | ⟨c7b0, H⟩
       ·
        simp only [Option.some.injEq, Prod.mk.injEq] at H
        obtain ⟨rfl, rfl, rfl⟩ := H
        go_wp2
        go_ret3
        exact ⟨by first | rfl | (simp; done) | (simp [*]; done), by repeat (first | exact Drawn0.refl _ | apply Drawn0.step)⟩
       ·
        obtain ⟨ji8, hji8⟩ : ∃ j_ : Int, (wrap64 (a1 + x18_2)) = j_ := ⟨_, rfl⟩
        replace H : (if 0 ≤ (ji8) then (if (ji8) < (a0.size : Int) then (if x18_2 = 9 then (if (bt a0 (ji8)) > 1 then (octet_ReadNumber.j2 k2 a0 a1 x7_2 x18_2 (bt a0 (ji8)) x18_2 true) else (if x18_2 > 0 then (octet_ReadNumber.j2 k2 a0 a1 x7_2 x18_2 (bt a0 (ji8)) x18_2 ((bt a0 (ji8)) == 0)) else (octet_ReadNumber.j2 k2 a0 a1 x7_2 x18_2 (bt a0 (ji8)) x18_2 false))) else (if x18_2 > 0 then (octet_ReadNumber.j2 k2 a0 a1 x7_2 x18_2 (bt a0 (ji8)) x18_2 ((bt a0 (ji8)) == 0)) else (octet_ReadNumber.j2 k2 a0 a1 x7_2 x18_2 (bt a0 (ji8)) x18_2 false))) else (none)) else (none)) = some (r1, r2, r3) := by first | (rw [hji8] at H; exact H) | (simp only [hji8] at H ⊢; exact H)
        (try rw [hji8] at c7b0)
        have hji8w : (IntKind.i64.wrap (a1 + x18_2)) = ji8 := (i64_w _).trans hji8
        rcases iteD H with ⟨c9b0, H⟩ | ⟨_, H⟩
        ·
         rcases iteD H with ⟨c10b0, H⟩ | ⟨_, H⟩
         ·
          have HC12 := am H
          clear H
          have p11 := pz (ji8)
          have q11 := pl (ji8) (a0.size : Int)
          have hx11 := bt_at a0 (ji8)
          go_upto_region 10 with (fail)
          go_cut [45] (fun v45 wc => ∃ (kq : Nat) (x45_11 : Bool), v45 = .bool x45_11 ∧ Aside0 (octet_ReadNumber.j2 kq a0 a1 x7_2 x18_2 (bt a0 (ji8)) x18_2 x45_11 = some (r1, r2, r3)) ∧ Aside0 (kq ≤ k2) ∧ Drawn0 w wc)
          case first =>
           have H := HC12.out
           clear HC12
           by_cases c13 : x18_2 = 9
           ·
            rw [if_pos c13] at H
            have c13b0 := beq_iff_eq.mpr c13
            have c13b1 := bne_eq_false_iff_eq.mpr c13
            clear c13
            (first | rw [c13b0] | (simp only [i64_w, i32_w]; rw [c13b0]) | skip)
            rcases iteD H with ⟨c14b0, H⟩ | ⟨c14b0, H⟩
            ·
             have H' := am H
             clear H
             go_wp2
             go_meet
             case rel => exact ⟨_, (true), rs, H', ⟨by have := HJ2.out; have := HK2.out; first | omega | exact Nat.le_refl _⟩, by repeat (first | exact Drawn0.refl _ | apply Drawn0.step)⟩
            ·
             rcases iteD H with ⟨c15b0, H⟩ | ⟨c15b0, H⟩
             ·
              have H' := am H
              clear H
              go_wp2
              go_meet
              case rel => exact ⟨_, (((bt a0 (ji8)) == 0)), (by first | rfl | (simp; done) | (simp only [← hji8] <;> (first | rfl | simp)) | (simp [*]; done)), H', ⟨by have := HJ2.out; have := HK2.out; first | omega | exact Nat.le_refl _⟩, by repeat (first | exact Drawn0.refl _ | apply Drawn0.step)⟩
             ·
              have H' := am H
              clear H
              go_wp2
              go_meet
              case rel => exact ⟨_, (false), rs, H', ⟨by have := HJ2.out; have := HK2.out; first | omega | exact Nat.le_refl _⟩, by repeat (first | exact Drawn0.refl _ | apply Drawn0.step)⟩
           ·
            rw [if_neg c13] at H
            have c13b0 := beq_eq_false_iff_ne.mpr c13
            have c13b1 := bne_iff_ne.mpr c13
            (first | rw [c13b0] | (simp only [i64_w, i32_w]; rw [c13b0]) | skip)
            rcases iteD H with ⟨c16b0, H⟩ | ⟨c16b0, H⟩
            ·
             have H' := am H
             clear H
             go_wp2
             go_meet
             case rel => exact ⟨_, (((bt a0 (ji8)) == 0)), (by first | rfl | (simp; done) | (simp only [← hji8] <;> (first | rfl | simp)) | (simp [*]; done)), H', ⟨by have := HJ2.out; have := HK2.out; first | omega | exact Nat.le_refl _⟩, by repeat (first | exact Drawn0.refl _ | apply Drawn0.step)⟩
            ·
             have H' := am H
             clear H
             go_wp2
             go_meet
             case rel => exact ⟨_, (false), rs, H', ⟨by have := HJ2.out; have := HK2.out; first | omega | exact Nat.le_refl _⟩, by repeat (first | exact Drawn0.refl _ | apply Drawn0.step)⟩
          case rest =>
           clear HC12
           try clear c1
           try clear p1
           try clear q1
           try clear hx1
           try clear c2
           try clear p2
           try clear c4
           try clear c4b0
           try clear c5
           try clear c6
           try clear c6b0
           try clear p6
           try clear c7
           try clear c7b0
           try clear c9
           try clear c9b0
           try clear c10
           try clear c10b0
           try clear p11
           try clear q11
           try clear hx11
           try clear c13
           try clear c13b0
           try clear c13b1
           try clear c14
           try clear c14b0
           try clear c15
           try clear c15b0
           try clear c16
           try clear c16b0
           try clear p11
           try clear p2
           try clear q11
           obtain ⟨kq, x45_11, rfl, HA, HJ11, ⟨mc11, rfl⟩⟩ := hcut
           cases kq with
           | zero => exact absurd HA.out (by simp [octet_ReadNumber.j2])
           | succ kj11 =>
            have H := HA.out
            clear HA
            simp only [octet_ReadNumber.j2] at H
            by_cases c17 : x45_11 = true
            ·
             subst c17
             rw [if_pos rfl] at H
             simp only [Option.some.injEq, Prod.mk.injEq] at H
             obtain ⟨rfl, rfl, rfl⟩ := H
             go_wp2
             go_ret3
             exact ⟨by first | rfl | (simp; done) | (simp only [← hji8] <;> (first | rfl | simp)) | (simp [*]; done), by repeat (first | exact Drawn0.refl _ | apply Drawn0.step)⟩
            ·
             replace c17 := Bool.eq_false_iff.mpr c17
             subst c17
             rw [if_neg (show ¬ (false = true) by decide)] at H
             obtain ⟨ji18, hji18⟩ : ∃ j_ : Int, (wrap64 (7 * x18_2)) = j_ := ⟨_, rfl⟩
             replace H : (if 0 ≤ (ji18) then (if (bt a0 (ji8)) < 128 then (some (Go.bits .or .u64 x7_2 (shl .u64 (IntKind.u64.wrap (Go.bits .and .u8 (bt a0 (ji8)) 127)) (ji18)), wrap64 ((wrap64 (a1 + x18_2)) + 1), 0)) else (octet_ReadNumber.l0 kj11 a0 a1 (Go.bits .or .u64 x7_2 (shl .u64 (IntKind.u64.wrap (Go.bits .and .u8 (bt a0 (ji8)) 127)) (ji18))) (wrap64 (x18_2 + 1)))) else (none)) = some (r1, r2, r3) := by first | (rw [hji18] at H; exact H) | (simp only [hji18] at H ⊢; exact H)
             have hji18w : (IntKind.i64.wrap (7 * x18_2)) = ji18 := (i64_w _).trans hji18
             by_cases c19 : 0 ≤ (ji18)
             ·
              rw [if_pos c19] at H
              have c19b0 := eq_true c19
              have c19b1 := decide_eq_true c19
              clear c19
              obtain ⟨ji20, hji20⟩ : ∃ j_ : Int, (shl .u64 (IntKind.u64.wrap (Go.bits .and .u8 (bt a0 (ji8)) 127)) (ji18)) = j_ := ⟨_, rfl⟩
              replace H : (if (bt a0 (ji8)) < 128 then (some (Go.bits .or .u64 x7_2 (ji20), wrap64 ((wrap64 (a1 + x18_2)) + 1), 0)) else (octet_ReadNumber.l0 kj11 a0 a1 (Go.bits .or .u64 x7_2 (ji20)) (wrap64 (x18_2 + 1)))) = some (r1, r2, r3) := by first | (rw [hji20] at H; exact H) | (simp only [hji20] at H ⊢; exact H)
              have hji20_ : (IntKind.u64.wrap ((IntKind.u64.wrap (Go.bits .and .u8 (bt a0 (ji8)) 127)) * 2 ^ min (ji18).toNat 64)) = ji20 := hji20
              have hji20z : (ji18) ≤ 64 → (IntKind.u64.wrap ((IntKind.u64.wrap (Go.bits .and .u8 (bt a0 (ji8)) 127)) * 2 ^ (ji18).toNat)) = ji20 := shl_small hji20
              rcases iteD H with ⟨c21b0, H⟩ | ⟨c21b0, H⟩
              ·
               simp only [Option.some.injEq, Prod.mk.injEq] at H
               obtain ⟨rfl, rfl, rfl⟩ := H
               go_wp2
               go_ret3
               exact ⟨by first | rfl | (simp; done) | (simp only [← hji8, ← hji18, ← hji20] <;> (first | rfl | simp)) | (simp [*]; done), by repeat (first | exact Drawn0.refl _ | apply Drawn0.step)⟩
              ·
               have H' := am H
               clear H
               go_wp2
               go_roundg kj11
               case measure => have := HJ2.out; have := HK2.out; have := HJ11.out; omega
               case rel => exact ⟨(Go.bits .or .u64 x7_2 (ji20)), (wrap64 (x18_2 + 1)), (by first | rfl | (simp; done) | (simp only [← hji20] <;> (first | rfl | simp)) | (simp [*]; done)), rs, H', ⟨by have := HJ2.out; have := HK2.out; have := HJ11.out; omega⟩, by repeat (first | exact Drawn0.refl _ | apply Drawn0.step)⟩
             ·
              rw [if_neg c19] at H
              exact absurd H (by simp)
         ·
          exact absurd H (by simp)
        ·
         exact absurd H (by simp)
      ·
       simp only [Option.some.injEq, Prod.mk.injEq] at H
       obtain ⟨rfl, rfl, rfl⟩ := H
       go_wp2
       go_ret3
       exact ⟨by first | rfl | (simp; done) | (simp [*]; done), by repeat (first | exact Drawn0.refl _ | apply Drawn0.step)⟩

/-! ### octet_Reader_Number: function 73 -/
def octet_Reader_Number.j0 : Nat → Int → Int → Int → Bool → ByteArray → Int → Int → Option (Int × ByteArray × Int × Int)
 | 0, _, _, _, _, _, _, _ => none
 | k + 1, x5, x6, x7, x30, x1000, x1001, x1002 => if x30 = true then (if 2 = 0 then (some (x5, x1000, x6, x1002)) else (some (0, x1000, x1001, 2))) else (if x7 = 0 then (some (x5, x1000, x6, x1002)) else (some (0, x1000, x1001, x7)))
def octet_Reader_Number.f (k : Nat) (s0_0 : ByteArray) (s0_1 : Int) (s0_2 : Int) (a1 : Int) : Option (Int × ByteArray × Int × Int) := (octet_Reader_Err.f s0_0 s0_1 s0_2).bind fun bt236 => (if bt236.1 = 0 then ((octet_ReadNumber.f k bt236.2.1 bt236.2.2.1).bind fun bt240 => (if bt240.2.2 = 0 then (octet_Reader_Number.j0 k bt240.1 bt240.2.1 bt240.2.2 (decide (bt240.1 > a1)) bt236.2.1 bt236.2.2.1 bt236.2.2.2) else (octet_Reader_Number.j0 k bt240.1 bt240.2.1 bt240.2.2 false bt236.2.1 bt236.2.2.1 bt236.2.2.2))) else (some (0, bt236.2.1, bt236.2.2.1, bt236.2.2.2)))
theorem octet_Reader_Number.mono_l : ∀ k, (∀ y0 y1 y2 y3 y4 y5 y6, LeO (octet_Reader_Number.j0 k y0 y1 y2 y3 y4 y5 y6) (octet_Reader_Number.j0 (k + 1) y0 y1 y2 y3 y4 y5 y6))
 | 0 => fun _ _ _ _ _ _ _ r h => by simp [octet_Reader_Number.j0] at h
 | k + 1 => by
  have ih0 := octet_Reader_Number.mono_l k
  ·
   intro y0 y1 y2 y3 y4 y5 y6
   unfold octet_Reader_Number.j0
   repeat' (with_reducible first | exact ih0 _ _ _ _ _ _ _ | exact octet_ReadNumber.mono _ _ _ | exact LeO.refl _ | exact LeO.none _ | refine LeO.ite ?_ ?_ | refine LeO.bind ?_ (fun _ => ?_))
theorem octet_Reader_Number.mono : ∀ a0 a1 a2 a3 k, LeO (octet_Reader_Number.f k a0 a1 a2 a3) (octet_Reader_Number.f (k + 1) a0 a1 a2 a3) := by
 intro a0 a1 a2 a3 k
 have ih0 := octet_Reader_Number.mono_l k
 unfold octet_Reader_Number.f
 repeat' (with_reducible first | exact ih0 _ _ _ _ _ _ _ | exact octet_ReadNumber.mono _ _ _ | exact LeO.refl _ | exact LeO.none _ | refine LeO.ite ?_ ?_ | refine LeO.bind ?_ (fun _ => ?_))
set_option maxHeartbeats 8000000 in
set_option maxRecDepth 100000 in
theorem octet_Reader_Number.calls (k : Nat) (g : Nat) (s0_0 : ByteArray) (s0_1 : Int) (s0_2 : Int) (a1 : Int) (r1 : Int) (r2 : ByteArray) (r3 : Int) (r4 : Int) (w0 w : World) (hI : IsS125 w0 w g s0_0 s0_1 s0_2) (hB : Below w0.heap.size w0 w) (h : octet_Reader_Number.f k s0_0 s0_1 s0_2 a1 = some (r1, r2, r3, r4)) :
  Calls Tryd.prog 73 #[.pointer (some ⟨g, 0, none⟩), .int .u64 a1] w fun e w' => e = .returned (.int .u64 r1) ∧ IsS125 w0 w' g r2 r3 r4 ∧ Below w0.heap.size w0 w' ∧ KeepBut w w' g none := by
 have HI0 := am hI
 have HK := am (KeepBut.refl w g none)
 have HL := am hB.size
 clear hI
 have HW0 := am hB.size
 have HB := am hB
 clear hB
 have H := h
 clear h
 unfold octet_Reader_Number.f at H
 obtain ⟨⟨t236, t237, t238, t239⟩, A3, H⟩ := obE H
 try dsimp only at H
 by_cases c4 : t236 = 0
 ·
  rw [if_pos c4] at H
  have c4b0 := beq_iff_eq.mpr c4
  have c4b1 := bne_eq_false_iff_eq.mpr c4
  clear c4
  obtain ⟨⟨t240, t241, t242⟩, A5, H⟩ := obE H
  try dsimp only at H
  have HC6 := am H
  clear H
  go_enter Tryd.func73, Tryd.ntmps73
  go_upto_region 4 with (first | (go_at_call 71; (with_reducible refine (octet_Reader_Err.calls g s0_0 s0_1 s0_2 t236 t237 t238 t239 w0 _ ?side1 ?side2 A3.out).mono ?_); (case side1 => repeat (first | (with_reducible first | exact HI0.out | apply IsS125.alloc | apply IsS125.drewN | apply IsS125.drew | apply IsS125.set_0 | apply IsS125.set_1 | apply IsS125.set_2) | exact HI0.out)); (case side2 => repeat (first | (with_reducible first | exact HB.out | apply below_alloc | apply pw_below_drewN | apply below_drew1 | refine below_set ?_ (IsS125.ge HI0.out)) | exact HB.out)); rintro e w7 ⟨rfl, hi, hb, hk⟩; replace HK := am (KeepBut.trans (by repeat (first | (with_reducible first | exact HK.out | apply KeepBut.set_ | apply keep_drewN | apply keep_drew | apply keep_alloc) | exact HK.out)) hk (.inl rfl)); replace HB := am (hb); replace HI0 := am (hi); (try clear hb); (try clear hk); (try clear hi); obtain ⟨HGz8, hgz8⟩ := HI0.out; have hcz8_0 := cellS125_0 HGz8; have hcz8_1 := cellS125_1 HGz8; have hcz8_2 := cellS125_2 HGz8; have hfz8_0 := blk_frozen HGz8 0; have hfz8_1 := blk_frozen HGz8 1; have hfz8_2 := blk_frozen HGz8 2; clear HGz8 hgz8) | (go_at_call 72; (with_reducible refine (octet_ReadNumber.calls k t237 t238 t240 t241 t242 _ A5.out).mono ?_); rintro e w' ⟨rfl, ⟨nd, rfl⟩⟩; (try first | exact ⟨rfl, _, World.drewN_drewN _ _ _⟩ | exact ⟨rfl, _, Eq.trans (World.drewN_drewN _ _ _) (congrArg (World.drewN _) (Nat.add_assoc _ _ _))⟩)))
  repeat (go_quiet (first | (go_at_call 71; (with_reducible refine (octet_Reader_Err.calls g s0_0 s0_1 s0_2 t236 t237 t238 t239 w0 _ ?side1 ?side2 A3.out).mono ?_); (case side1 => repeat (first | (with_reducible first | exact HI0.out | apply IsS125.alloc | apply IsS125.drewN | apply IsS125.drew | apply IsS125.set_0 | apply IsS125.set_1 | apply IsS125.set_2) | exact HI0.out)); (case side2 => repeat (first | (with_reducible first | exact HB.out | apply below_alloc | apply pw_below_drewN | apply below_drew1 | refine below_set ?_ (IsS125.ge HI0.out)) | exact HB.out)); rintro e w7 ⟨rfl, hi, hb, hk⟩; replace HK := am (KeepBut.trans (by repeat (first | (with_reducible first | exact HK.out | apply KeepBut.set_ | apply keep_drewN | apply keep_drew | apply keep_alloc) | exact HK.out)) hk (.inl rfl)); replace HB := am (hb); replace HI0 := am (hi); (try clear hb); (try clear hk); (try clear hi); obtain ⟨HGz8, hgz8⟩ := HI0.out; have hcz8_0 := cellS125_0 HGz8; have hcz8_1 := cellS125_1 HGz8; have hcz8_2 := cellS125_2 HGz8; have hfz8_0 := blk_frozen HGz8 0; have hfz8_1 := blk_frozen HGz8 1; have hfz8_2 := blk_frozen HGz8 2; clear HGz8 hgz8; clear A3) | (go_at_call 72; (with_reducible refine (octet_ReadNumber.calls k t237 t238 t240 t241 t242 _ A5.out).mono ?_); rintro e w' ⟨rfl, ⟨nd, rfl⟩⟩; (try first | exact ⟨rfl, _, World.drewN_drewN _ _ _⟩ | exact ⟨rfl, _, Eq.trans (World.drewN_drewN _ _ _) (congrArg (World.drewN _) (Nat.add_assoc _ _ _))⟩); clear A5)); go_upto_region 4 with (first | (go_at_call 71; (with_reducible refine (octet_Reader_Err.calls g s0_0 s0_1 s0_2 t236 t237 t238 t239 w0 _ ?side1 ?side2 A3.out).mono ?_); (case side1 => repeat (first | (with_reducible first | exact HI0.out | apply IsS125.alloc | apply IsS125.drewN | apply IsS125.drew | apply IsS125.set_0 | apply IsS125.set_1 | apply IsS125.set_2) | exact HI0.out)); (case side2 => repeat (first | (with_reducible first | exact HB.out | apply below_alloc | apply pw_below_drewN | apply below_drew1 | refine below_set ?_ (IsS125.ge HI0.out)) | exact HB.out)); rintro e w7 ⟨rfl, hi, hb, hk⟩; replace HK := am (KeepBut.trans (by repeat (first | (with_reducible first | exact HK.out | apply KeepBut.set_ | apply keep_drewN | apply keep_drew | apply keep_alloc) | exact HK.out)) hk (.inl rfl)); replace HB := am (hb); replace HI0 := am (hi); (try clear hb); (try clear hk); (try clear hi); obtain ⟨HGz8, hgz8⟩ := HI0.out; have hcz8_0 := cellS125_0 HGz8; have hcz8_1 := cellS125_1 HGz8; have hcz8_2 := cellS125_2 HGz8; have hfz8_0 := blk_frozen HGz8 0; have hfz8_1 := blk_frozen HGz8 1; have hfz8_2 := blk_frozen HGz8 2; clear HGz8 hgz8; clear A3) | (go_at_call 72; (with_reducible refine (octet_ReadNumber.calls k t237 t238 t240 t241 t242 _ A5.out).mono ?_); rintro e w' ⟨rfl, ⟨nd, rfl⟩⟩; (try first | exact ⟨rfl, _, World.drewN_drewN _ _ _⟩ | exact ⟨rfl, _, Eq.trans (World.drewN_drewN _ _ _) (congrArg (World.drewN _) (Nat.add_assoc _ _ _))⟩); clear A5)))
  (try simp only [Act.put, List.setIfInBounds_toArray, List.set_cons_zero, List.set_cons_succ])
  go_cut [30] (fun v30 wc => ∃ (kq : Nat) (x30_5 : Bool), v30 = .bool x30_5 ∧ Aside0 (octet_Reader_Number.j0 kq t240 t241 t242 x30_5 t237 t238 t239 = some (r1, r2, r3, r4)) ∧ Aside0 (kq ≤ k) ∧ Aside0 (IsS125 w0 wc g t237 t238 t239) ∧ Aside0 (KeepBut w wc g none) ∧ Aside0 (Below w0.heap.size w0 wc))
  case first =>
   have H := HC6.out
   clear HC6
   by_cases c9 : t242 = 0
   ·
    rw [if_pos c9] at H
    have c9b0 := beq_iff_eq.mpr c9
    have c9b1 := bne_eq_false_iff_eq.mpr c9
    clear c9
    (first | rw [c9b0] | (simp only [i64_w, i32_w]; rw [c9b0]) | skip)
    have H' := am H
    clear H
    go_wp2
    repeat (go_quiet (fail); try go_wp2)
    go_meet
    case rel => exact ⟨_, (decide (t240 > a1)), rs, H', ⟨om⟩, ⟨by repeat (first | (with_reducible first | exact HI0.out | apply IsS125.alloc | apply IsS125.drewN | apply IsS125.drew | apply IsS125.set_0 | apply IsS125.set_1 | apply IsS125.set_2) | exact HI0.out)⟩, ⟨by repeat (first | (with_reducible first | exact HK.out | apply KeepBut.set_ | apply keep_drewN | apply keep_drew | apply keep_alloc) | exact HK.out)⟩, ⟨by repeat (first | (with_reducible first | exact HB.out | apply below_alloc | apply pw_below_drewN | apply below_drew1 | refine below_set ?_ (IsS125.ge HI0.out)) | exact HB.out)⟩⟩
   ·
    rw [if_neg c9] at H
    have c9b0 := beq_eq_false_iff_ne.mpr c9
    have c9b1 := bne_iff_ne.mpr c9
    (first | rw [c9b0] | (simp only [i64_w, i32_w]; rw [c9b0]) | skip)
    have H' := am H
    clear H
    go_wp2
    repeat (go_quiet (fail); try go_wp2)
    go_meet
    case rel => exact ⟨_, (false), rs, H', ⟨om⟩, ⟨by repeat (first | (with_reducible first | exact HI0.out | apply IsS125.alloc | apply IsS125.drewN | apply IsS125.drew | apply IsS125.set_0 | apply IsS125.set_1 | apply IsS125.set_2) | exact HI0.out)⟩, ⟨by repeat (first | (with_reducible first | exact HK.out | apply KeepBut.set_ | apply keep_drewN | apply keep_drew | apply keep_alloc) | exact HK.out)⟩, ⟨by repeat (first | (with_reducible first | exact HB.out | apply below_alloc | apply pw_below_drewN | apply below_drew1 | refine below_set ?_ (IsS125.ge HI0.out)) | exact HB.out)⟩⟩
  case rest =>
   clear HC6
   try clear p2
   try clear c4
   try clear c4b0
   try clear c4b1
   try clear c7
   try clear c9
   try clear c9b0
   try clear c9b1
   try clear hcz8_0 hcz8_1 hcz8_2 hfz8_0 hfz8_1 hfz8_2
   obtain ⟨kq, x30_5, rfl, HA, HJ5, HI0, HK, HB⟩ := hcut
   cases kq with
   | zero => exact absurd HA.out (by simp [octet_Reader_Number.j0])
   | succ kj5 =>
    have H := HA.out
    clear HA
    simp only [octet_Reader_Number.j0] at H
    by_cases c10 : x30_5 = true
    ·
     subst c10
     rw [if_pos rfl] at H
     by_cases c11 : 2 = 0
     ·
      exact absurd c11 (by decide)
     ·
      rw [if_neg c11] at H
      have c11b0 := beq_eq_false_iff_ne.mpr c11
      have c11b1 := bne_iff_ne.mpr c11
      simp only [Option.some.injEq, Prod.mk.injEq] at H
      obtain ⟨rfl, rfl, rfl, rfl⟩ := H
      obtain ⟨HGz13, hgz13⟩ := HI0.out
      have hcz13_0 := cellS125_0 HGz13
      have hcz13_1 := cellS125_1 HGz13
      have hcz13_2 := cellS125_2 HGz13
      have hfz13_0 := blk_frozen HGz13 0
      have hfz13_1 := blk_frozen HGz13 1
      have hfz13_2 := blk_frozen HGz13 2
      clear HGz13 hgz13
      go_wp2
      repeat (go_quiet (fail); try go_wp2)
      go_ret
      exact ⟨rf, by repeat (first | (with_reducible first | exact HI0.out | apply IsS125.alloc | apply IsS125.drewN | apply IsS125.drew | apply IsS125.set_0 | apply IsS125.set_1 | apply IsS125.set_2) | exact HI0.out), by repeat (first | (with_reducible first | exact HB.out | apply below_alloc | apply pw_below_drewN | apply below_drew1 | refine below_set ?_ (IsS125.ge HI0.out)) | exact HB.out), by repeat (first | (with_reducible first | exact HK.out | apply KeepBut.set_ | apply keep_drewN | apply keep_drew | apply keep_alloc) | exact HK.out)⟩
    ·
     replace c10 := Bool.eq_false_iff.mpr c10
     subst c10
     rw [if_neg (show ¬ (false = true) by decide)] at H
     by_cases c14 : t242 = 0
     ·
      rw [if_pos c14] at H
      have c14b0 := beq_iff_eq.mpr c14
      have c14b1 := bne_eq_false_iff_eq.mpr c14
      clear c14
      simp only [Option.some.injEq, Prod.mk.injEq] at H
      obtain ⟨rfl, rfl, rfl, rfl⟩ := H
      obtain ⟨HGz15, hgz15⟩ := HI0.out
      have hcz15_0 := cellS125_0 HGz15
      have hcz15_1 := cellS125_1 HGz15
      have hcz15_2 := cellS125_2 HGz15
      have hfz15_0 := blk_frozen HGz15 0
      have hfz15_1 := blk_frozen HGz15 1
      have hfz15_2 := blk_frozen HGz15 2
      clear HGz15 hgz15
      go_wp2
      repeat (go_quiet (fail); try go_wp2)
      go_ret
      exact ⟨rf, by repeat (first | (with_reducible first | exact HI0.out | apply IsS125.alloc | apply IsS125.drewN | apply IsS125.drew | apply IsS125.set_0 | apply IsS125.set_1 | apply IsS125.set_2) | exact HI0.out), by repeat (first | (with_reducible first | exact HB.out | apply below_alloc | apply pw_below_drewN | apply below_drew1 | refine below_set ?_ (IsS125.ge HI0.out)) | exact HB.out), by repeat (first | (with_reducible first | exact HK.out | apply KeepBut.set_ | apply keep_drewN | apply keep_drew | apply keep_alloc) | exact HK.out)⟩
     ·
      rw [if_neg c14] at H
      have c14b0 := beq_eq_false_iff_ne.mpr c14
      have c14b1 := bne_iff_ne.mpr c14
      simp only [Option.some.injEq, Prod.mk.injEq] at H
      obtain ⟨rfl, rfl, rfl, rfl⟩ := H
      obtain ⟨HGz16, hgz16⟩ := HI0.out
      have hcz16_0 := cellS125_0 HGz16
      have hcz16_1 := cellS125_1 HGz16
      have hcz16_2 := cellS125_2 HGz16
      have hfz16_0 := blk_frozen HGz16 0
      have hfz16_1 := blk_frozen HGz16 1
      have hfz16_2 := blk_frozen HGz16 2
      clear HGz16 hgz16
      go_wp2
      repeat (go_quiet (fail); try go_wp2)
      go_ret
      exact ⟨rf, by repeat (first | (with_reducible first | exact HI0.out | apply IsS125.alloc | apply IsS125.drewN | apply IsS125.drew | apply IsS125.set_0 | apply IsS125.set_1 | apply IsS125.set_2) | exact HI0.out), by repeat (first | (with_reducible first | exact HB.out | apply below_alloc | apply pw_below_drewN | apply below_drew1 | refine below_set ?_ (IsS125.ge HI0.out)) | exact HB.out), by repeat (first | (with_reducible first | exact HK.out | apply KeepBut.set_ | apply keep_drewN | apply keep_drew | apply keep_alloc) | exact HK.out)⟩
 ·
  rw [if_neg c4] at H
  have c4b0 := beq_eq_false_iff_ne.mpr c4
  have c4b1 := bne_iff_ne.mpr c4
  simp only [Option.some.injEq, Prod.mk.injEq] at H
  obtain ⟨rfl, rfl, rfl, rfl⟩ := H
  go_enter Tryd.func73, Tryd.ntmps73
  go_wp2_with (first | (go_at_call 71; (with_reducible refine (octet_Reader_Err.calls g s0_0 s0_1 s0_2 t236 t237 t238 t239 w0 _ ?side1 ?side2 A3.out).mono ?_); (case side1 => repeat (first | (with_reducible first | exact HI0.out | apply IsS125.alloc | apply IsS125.drewN | apply IsS125.drew | apply IsS125.set_0 | apply IsS125.set_1 | apply IsS125.set_2) | exact HI0.out)); (case side2 => repeat (first | (with_reducible first | exact HB.out | apply below_alloc | apply pw_below_drewN | apply below_drew1 | refine below_set ?_ (IsS125.ge HI0.out)) | exact HB.out)); rintro e w17 ⟨rfl, hi, hb, hk⟩; replace HK := am (KeepBut.trans (by repeat (first | (with_reducible first | exact HK.out | apply KeepBut.set_ | apply keep_drewN | apply keep_drew | apply keep_alloc) | exact HK.out)) hk (.inl rfl)); replace HB := am (hb); replace HI0 := am (hi); (try clear hb); (try clear hk); (try clear hi)))
  repeat (go_quiet (first | (go_at_call 71; (with_reducible refine (octet_Reader_Err.calls g s0_0 s0_1 s0_2 t236 t237 t238 t239 w0 _ ?side1 ?side2 A3.out).mono ?_); (case side1 => repeat (first | (with_reducible first | exact HI0.out | apply IsS125.alloc | apply IsS125.drewN | apply IsS125.drew | apply IsS125.set_0 | apply IsS125.set_1 | apply IsS125.set_2) | exact HI0.out)); (case side2 => repeat (first | (with_reducible first | exact HB.out | apply below_alloc | apply pw_below_drewN | apply below_drew1 | refine below_set ?_ (IsS125.ge HI0.out)) | exact HB.out)); rintro e w17 ⟨rfl, hi, hb, hk⟩; replace HK := am (KeepBut.trans (by repeat (first | (with_reducible first | exact HK.out | apply KeepBut.set_ | apply keep_drewN | apply keep_drew | apply keep_alloc) | exact HK.out)) hk (.inl rfl)); replace HB := am (hb); replace HI0 := am (hi); (try clear hb); (try clear hk); (try clear hi); clear A3)); try go_wp2_with (first | (go_at_call 71; (with_reducible refine (octet_Reader_Err.calls g s0_0 s0_1 s0_2 t236 t237 t238 t239 w0 _ ?side1 ?side2 A3.out).mono ?_); (case side1 => repeat (first | (with_reducible first | exact HI0.out | apply IsS125.alloc | apply IsS125.drewN | apply IsS125.drew | apply IsS125.set_0 | apply IsS125.set_1 | apply IsS125.set_2) | exact HI0.out)); (case side2 => repeat (first | (with_reducible first | exact HB.out | apply below_alloc | apply pw_below_drewN | apply below_drew1 | refine below_set ?_ (IsS125.ge HI0.out)) | exact HB.out)); rintro e w17 ⟨rfl, hi, hb, hk⟩; replace HK := am (KeepBut.trans (by repeat (first | (with_reducible first | exact HK.out | apply KeepBut.set_ | apply keep_drewN | apply keep_drew | apply keep_alloc) | exact HK.out)) hk (.inl rfl)); replace HB := am (hb); replace HI0 := am (hi); (try clear hb); (try clear hk); (try clear hi); clear A3)))
  go_ret
  exact ⟨rf, by repeat (first | (with_reducible first | exact HI0.out | apply IsS125.alloc | apply IsS125.drewN | apply IsS125.drew | apply IsS125.set_0 | apply IsS125.set_1 | apply IsS125.set_2) | exact HI0.out), by repeat (first | (with_reducible first | exact HB.out | apply below_alloc | apply pw_below_drewN | apply below_drew1 | refine below_set ?_ (IsS125.ge HI0.out)) | exact HB.out), by repeat (first | (with_reducible first | exact HK.out | apply KeepBut.set_ | apply keep_drewN | apply keep_drew | apply keep_alloc) | exact HK.out)⟩

/-! ### octet_Reader_Int: function 53 -/
def octet_Reader_Int.f (k : Nat) (s0_0 : ByteArray) (s0_1 : Int) (s0_2 : Int) (a1 : Int) : Option (Int × ByteArray × Int × Int) := if a1 < 0 then ((octet_Reader_Err.f s0_0 s0_1 s0_2).bind fun bt243 => (if bt243.1 = 0 then ((octet_ReadNumber.f k bt243.2.1 bt243.2.2.1).bind fun bt247 => (if bt247.2.2 = 0 then (some (0, bt243.2.1, bt243.2.2.1, 2)) else (some (0, bt243.2.1, bt243.2.2.1, bt247.2.2)))) else (some (0, bt243.2.1, bt243.2.2.1, bt243.2.2.2)))) else ((octet_Reader_Number.f k s0_0 s0_1 s0_2 (IntKind.u64.wrap (a1))).bind fun bt250 => (some (wrap64 (bt250.1), bt250.2.1, bt250.2.2.1, bt250.2.2.2)))
theorem octet_Reader_Int.mono : ∀ a0 a1 a2 a3 k, LeO (octet_Reader_Int.f k a0 a1 a2 a3) (octet_Reader_Int.f (k + 1) a0 a1 a2 a3) := by
 intro a0 a1 a2 a3 k
 unfold octet_Reader_Int.f
 repeat' (with_reducible first | exact octet_ReadNumber.mono _ _ _ | exact octet_Reader_Number.mono _ _ _ _ _ | exact LeO.refl _ | exact LeO.none _ | refine LeO.ite ?_ ?_ | refine LeO.bind ?_ (fun _ => ?_))
set_option maxHeartbeats 8000000 in
set_option maxRecDepth 100000 in
theorem octet_Reader_Int.calls (k : Nat) (g : Nat) (s0_0 : ByteArray) (s0_1 : Int) (s0_2 : Int) (a1 : Int) (r1 : Int) (r2 : ByteArray) (r3 : Int) (r4 : Int) (w0 w : World) (hI : IsS125 w0 w g s0_0 s0_1 s0_2) (hB : Below w0.heap.size w0 w) (h : octet_Reader_Int.f k s0_0 s0_1 s0_2 a1 = some (r1, r2, r3, r4)) :
  Calls Tryd.prog 53 #[.pointer (some ⟨g, 0, none⟩), .int .i64 a1] w fun e w' => e = .returned (.int .i64 r1) ∧ IsS125 w0 w' g r2 r3 r4 ∧ Below w0.heap.size w0 w' ∧ KeepBut w w' g none := by
 have HI0 := am hI
 have HK := am (KeepBut.refl w g none)
 have HL := am hB.size
 clear hI
 have HW0 := am hB.size
 have HB := am hB
 clear hB
 have H := h
 clear h
 unfold octet_Reader_Int.f at H
 rcases iteD H with ⟨c3b0, H⟩ | ⟨c3b0, H⟩
 ·
  obtain ⟨⟨t243, t244, t245, t246⟩, A4, H⟩ := obE H
  try dsimp only at H
  by_cases c5 : t243 = 0
  ·
   rw [if_pos c5] at H
   have c5b0 := beq_iff_eq.mpr c5
   have c5b1 := bne_eq_false_iff_eq.mpr c5
   clear c5
   obtain ⟨⟨t247, t248, t249⟩, A6, H⟩ := obE H
   try dsimp only at H
   by_cases c7 : t249 = 0
   ·
    rw [if_pos c7] at H
    have c7b0 := beq_iff_eq.mpr c7
    have c7b1 := bne_eq_false_iff_eq.mpr c7
    clear c7
    simp only [Option.some.injEq, Prod.mk.injEq] at H
    obtain ⟨rfl, rfl, rfl, rfl⟩ := H
    go_enter Tryd.func53, Tryd.ntmps53
    go_wp2_with (first | (go_at_call 71; (with_reducible refine (octet_Reader_Err.calls g s0_0 s0_1 s0_2 t243 t244 t245 t246 w0 _ ?side1 ?side2 A4.out).mono ?_); (case side1 => repeat (first | (with_reducible first | exact HI0.out | apply IsS125.alloc | apply IsS125.drewN | apply IsS125.drew | apply IsS125.set_0 | apply IsS125.set_1 | apply IsS125.set_2) | exact HI0.out)); (case side2 => repeat (first | (with_reducible first | exact HB.out | apply below_alloc | apply pw_below_drewN | apply below_drew1 | refine below_set ?_ (IsS125.ge HI0.out)) | exact HB.out)); rintro e w8 ⟨rfl, hi, hb, hk⟩; replace HK := am (KeepBut.trans (by repeat (first | (with_reducible first | exact HK.out | apply KeepBut.set_ | apply keep_drewN | apply keep_drew | apply keep_alloc) | exact HK.out)) hk (.inl rfl)); replace HB := am (hb); replace HI0 := am (hi); (try clear hb); (try clear hk); (try clear hi); obtain ⟨HGz9, hgz9⟩ := HI0.out; have hcz9_0 := cellS125_0 HGz9; have hcz9_1 := cellS125_1 HGz9; have hcz9_2 := cellS125_2 HGz9; have hfz9_0 := blk_frozen HGz9 0; have hfz9_1 := blk_frozen HGz9 1; have hfz9_2 := blk_frozen HGz9 2; clear HGz9 hgz9) | (go_at_call 72; (with_reducible refine (octet_ReadNumber.calls k t244 t245 t247 t248 t249 _ A6.out).mono ?_); rintro e w' ⟨rfl, ⟨nd, rfl⟩⟩; (try first | exact ⟨rfl, _, World.drewN_drewN _ _ _⟩ | exact ⟨rfl, _, Eq.trans (World.drewN_drewN _ _ _) (congrArg (World.drewN _) (Nat.add_assoc _ _ _))⟩)))
    repeat (go_quiet (first | (go_at_call 71; (with_reducible refine (octet_Reader_Err.calls g s0_0 s0_1 s0_2 t243 t244 t245 t246 w0 _ ?side1 ?side2 A4.out).mono ?_); (case side1 => repeat (first | (with_reducible first | exact HI0.out | apply IsS125.alloc | apply IsS125.drewN | apply IsS125.drew | apply IsS125.set_0 | apply IsS125.set_1 | apply IsS125.set_2) | exact HI0.out)); (case side2 => repeat (first | (with_reducible first | exact HB.out | apply below_alloc | apply pw_below_drewN | apply below_drew1 | refine below_set ?_ (IsS125.ge HI0.out)) | exact HB.out)); rintro e w8 ⟨rfl, hi, hb, hk⟩; replace HK := am (KeepBut.trans (by repeat (first | (with_reducible first | exact HK.out | apply KeepBut.set_ | apply keep_drewN | apply keep_drew | apply keep_alloc) | exact HK.out)) hk (.inl rfl)); replace HB := am (hb); replace HI0 := am (hi); (try clear hb); (try clear hk); (try clear hi); obtain ⟨HGz9, hgz9⟩ := HI0.out; have hcz9_0 := cellS125_0 HGz9; have hcz9_1 := cellS125_1 HGz9; have hcz9_2 := cellS125_2 HGz9; have hfz9_0 := blk_frozen HGz9 0; have hfz9_1 := blk_frozen HGz9 1; have hfz9_2 := blk_frozen HGz9 2; clear HGz9 hgz9; clear A4) | (go_at_call 72; (with_reducible refine (octet_ReadNumber.calls k t244 t245 t247 t248 t249 _ A6.out).mono ?_); rintro e w' ⟨rfl, ⟨nd, rfl⟩⟩; (try first | exact ⟨rfl, _, World.drewN_drewN _ _ _⟩ | exact ⟨rfl, _, Eq.trans (World.drewN_drewN _ _ _) (congrArg (World.drewN _) (Nat.add_assoc _ _ _))⟩); clear A6)); try go_wp2_with (first | (go_at_call 71; (with_reducible refine (octet_Reader_Err.calls g s0_0 s0_1 s0_2 t243 t244 t245 t246 w0 _ ?side1 ?side2 A4.out).mono ?_); (case side1 => repeat (first | (with_reducible first | exact HI0.out | apply IsS125.alloc | apply IsS125.drewN | apply IsS125.drew | apply IsS125.set_0 | apply IsS125.set_1 | apply IsS125.set_2) | exact HI0.out)); (case side2 => repeat (first | (with_reducible first | exact HB.out | apply below_alloc | apply pw_below_drewN | apply below_drew1 | refine below_set ?_ (IsS125.ge HI0.out)) | exact HB.out)); rintro e w8 ⟨rfl, hi, hb, hk⟩; replace HK := am (KeepBut.trans (by repeat (first | (with_reducible first | exact HK.out | apply KeepBut.set_ | apply keep_drewN | apply keep_drew | apply keep_alloc) | exact HK.out)) hk (.inl rfl)); replace HB := am (hb); replace HI0 := am (hi); (try clear hb); (try clear hk); (try clear hi); obtain ⟨HGz9, hgz9⟩ := HI0.out; have hcz9_0 := cellS125_0 HGz9; have hcz9_1 := cellS125_1 HGz9; have hcz9_2 := cellS125_2 HGz9; have hfz9_0 := blk_frozen HGz9 0; have hfz9_1 := blk_frozen HGz9 1; have hfz9_2 := blk_frozen HGz9 2; clear HGz9 hgz9; clear A4) | (go_at_call 72; (with_reducible refine (octet_ReadNumber.calls k t244 t245 t247 t248 t249 _ A6.out).mono ?_); rintro e w' ⟨rfl, ⟨nd, rfl⟩⟩; (try first | exact ⟨rfl, _, World.drewN_drewN _ _ _⟩ | exact ⟨rfl, _, Eq.trans (World.drewN_drewN _ _ _) (congrArg (World.drewN _) (Nat.add_assoc _ _ _))⟩); clear A6)))
    go_ret
    exact ⟨rf, by repeat (first | (with_reducible first | exact HI0.out | apply IsS125.alloc | apply IsS125.drewN | apply IsS125.drew | apply IsS125.set_0 | apply IsS125.set_1 | apply IsS125.set_2) | exact HI0.out), by repeat (first | (with_reducible first | exact HB.out | apply below_alloc | apply pw_below_drewN | apply below_drew1 | refine below_set ?_ (IsS125.ge HI0.out)) | exact HB.out), by repeat (first | (with_reducible first | exact HK.out | apply KeepBut.set_ | apply keep_drewN | apply keep_drew | apply keep_alloc) | exact HK.out)⟩
   ·
    rw [if_neg c7] at H
    have c7b0 := beq_eq_false_iff_ne.mpr c7
    have c7b1 := bne_iff_ne.mpr c7
    simp only [Option.some.injEq, Prod.mk.injEq] at H
    obtain ⟨rfl, rfl, rfl, rfl⟩ := H
    go_enter Tryd.func53, Tryd.ntmps53
    go_wp2_with (first | (go_at_call 71; (with_reducible refine (octet_Reader_Err.calls g s0_0 s0_1 s0_2 t243 t244 t245 t246 w0 _ ?side1 ?side2 A4.out).mono ?_); (case side1 => repeat (first | (with_reducible first | exact HI0.out | apply IsS125.alloc | apply IsS125.drewN | apply IsS125.drew | apply IsS125.set_0 | apply IsS125.set_1 | apply IsS125.set_2) | exact HI0.out)); (case side2 => repeat (first | (with_reducible first | exact HB.out | apply below_alloc | apply pw_below_drewN | apply below_drew1 | refine below_set ?_ (IsS125.ge HI0.out)) | exact HB.out)); rintro e w10 ⟨rfl, hi, hb, hk⟩; replace HK := am (KeepBut.trans (by repeat (first | (with_reducible first | exact HK.out | apply KeepBut.set_ | apply keep_drewN | apply keep_drew | apply keep_alloc) | exact HK.out)) hk (.inl rfl)); replace HB := am (hb); replace HI0 := am (hi); (try clear hb); (try clear hk); (try clear hi); obtain ⟨HGz11, hgz11⟩ := HI0.out; have hcz11_0 := cellS125_0 HGz11; have hcz11_1 := cellS125_1 HGz11; have hcz11_2 := cellS125_2 HGz11; have hfz11_0 := blk_frozen HGz11 0; have hfz11_1 := blk_frozen HGz11 1; have hfz11_2 := blk_frozen HGz11 2; clear HGz11 hgz11) | (go_at_call 72; (with_reducible refine (octet_ReadNumber.calls k t244 t245 t247 t248 t249 _ A6.out).mono ?_); rintro e w' ⟨rfl, ⟨nd, rfl⟩⟩; (try first | exact ⟨rfl, _, World.drewN_drewN _ _ _⟩ | exact ⟨rfl, _, Eq.trans (World.drewN_drewN _ _ _) (congrArg (World.drewN _) (Nat.add_assoc _ _ _))⟩)))
    repeat (go_quiet (first | (go_at_call 71; (with_reducible refine (octet_Reader_Err.calls g s0_0 s0_1 s0_2 t243 t244 t245 t246 w0 _ ?side1 ?side2 A4.out).mono ?_); (case side1 => repeat (first | (with_reducible first | exact HI0.out | apply IsS125.alloc | apply IsS125.drewN | apply IsS125.drew | apply IsS125.set_0 | apply IsS125.set_1 | apply IsS125.set_2) | exact HI0.out)); (case side2 => repeat (first | (with_reducible first | exact HB.out | apply below_alloc | apply pw_below_drewN | apply below_drew1 | refine below_set ?_ (IsS125.ge HI0.out)) | exact HB.out)); rintro e w10 ⟨rfl, hi, hb, hk⟩; replace HK := am (KeepBut.trans (by repeat (first | (with_reducible first | exact HK.out | apply KeepBut.set_ | apply keep_drewN | apply keep_drew | apply keep_alloc) | exact HK.out)) hk (.inl rfl)); replace HB := am (hb); replace HI0 := am (hi); (try clear hb); (try clear hk); (try clear hi); obtain ⟨HGz11, hgz11⟩ := HI0.out; have hcz11_0 := cellS125_0 HGz11; have hcz11_1 := cellS125_1 HGz11; have hcz11_2 := cellS125_2 HGz11; have hfz11_0 := blk_frozen HGz11 0; have hfz11_1 := blk_frozen HGz11 1; have hfz11_2 := blk_frozen HGz11 2; clear HGz11 hgz11; clear A4) | (go_at_call 72; (with_reducible refine (octet_ReadNumber.calls k t244 t245 t247 t248 t249 _ A6.out).mono ?_); rintro e w' ⟨rfl, ⟨nd, rfl⟩⟩; (try first | exact ⟨rfl, _, World.drewN_drewN _ _ _⟩ | exact ⟨rfl, _, Eq.trans (World.drewN_drewN _ _ _) (congrArg (World.drewN _) (Nat.add_assoc _ _ _))⟩); clear A6)); try go_wp2_with (first | (go_at_call 71; (with_reducible refine (octet_Reader_Err.calls g s0_0 s0_1 s0_2 t243 t244 t245 t246 w0 _ ?side1 ?side2 A4.out).mono ?_); (case side1 => repeat (first | (with_reducible first | exact HI0.out | apply IsS125.alloc | apply IsS125.drewN | apply IsS125.drew | apply IsS125.set_0 | apply IsS125.set_1 | apply IsS125.set_2) | exact HI0.out)); (case side2 => repeat (first | (with_reducible first | exact HB.out | apply below_alloc | apply pw_below_drewN | apply below_drew1 | refine below_set ?_ (IsS125.ge HI0.out)) | exact HB.out)); rintro e w10 ⟨rfl, hi, hb, hk⟩; replace HK := am (KeepBut.trans (by repeat (first | (with_reducible first | exact HK.out | apply KeepBut.set_ | apply keep_drewN | apply keep_drew | apply keep_alloc) | exact HK.out)) hk (.inl rfl)); replace HB := am (hb); replace HI0 := am (hi); (try clear hb); (try clear hk); (try clear hi); obtain ⟨HGz11, hgz11⟩ := HI0.out; have hcz11_0 := cellS125_0 HGz11; have hcz11_1 := cellS125_1 HGz11; have hcz11_2 := cellS125_2 HGz11; have hfz11_0 := blk_frozen HGz11 0; have hfz11_1 := blk_frozen HGz11 1; have hfz11_2 := blk_frozen HGz11 2; clear HGz11 hgz11; clear A4) | (go_at_call 72; (with_reducible refine (octet_ReadNumber.calls k t244 t245 t247 t248 t249 _ A6.out).mono ?_); rintro e w' ⟨rfl, ⟨nd, rfl⟩⟩; (try first | exact ⟨rfl, _, World.drewN_drewN _ _ _⟩ | exact ⟨rfl, _, Eq.trans (World.drewN_drewN _ _ _) (congrArg (World.drewN _) (Nat.add_assoc _ _ _))⟩); clear A6)))
    go_ret
    exact ⟨rf, by repeat (first | (with_reducible first | exact HI0.out | apply IsS125.alloc | apply IsS125.drewN | apply IsS125.drew | apply IsS125.set_0 | apply IsS125.set_1 | apply IsS125.set_2) | exact HI0.out), by repeat (first | (with_reducible first | exact HB.out | apply below_alloc | apply pw_below_drewN | apply below_drew1 | refine below_set ?_ (IsS125.ge HI0.out)) | exact HB.out), by repeat (first | (with_reducible first | exact HK.out | apply KeepBut.set_ | apply keep_drewN | apply keep_drew | apply keep_alloc) | exact HK.out)⟩
  ·
   rw [if_neg c5] at H
   have c5b0 := beq_eq_false_iff_ne.mpr c5
   have c5b1 := bne_iff_ne.mpr c5
   simp only [Option.some.injEq, Prod.mk.injEq] at H
   obtain ⟨rfl, rfl, rfl, rfl⟩ := H
   go_enter Tryd.func53, Tryd.ntmps53
   go_wp2_with (first | (go_at_call 71; (with_reducible refine (octet_Reader_Err.calls g s0_0 s0_1 s0_2 t243 t244 t245 t246 w0 _ ?side1 ?side2 A4.out).mono ?_); (case side1 => repeat (first | (with_reducible first | exact HI0.out | apply IsS125.alloc | apply IsS125.drewN | apply IsS125.drew | apply IsS125.set_0 | apply IsS125.set_1 | apply IsS125.set_2) | exact HI0.out)); (case side2 => repeat (first | (with_reducible first | exact HB.out | apply below_alloc | apply pw_below_drewN | apply below_drew1 | refine below_set ?_ (IsS125.ge HI0.out)) | exact HB.out)); rintro e w12 ⟨rfl, hi, hb, hk⟩; replace HK := am (KeepBut.trans (by repeat (first | (with_reducible first | exact HK.out | apply KeepBut.set_ | apply keep_drewN | apply keep_drew | apply keep_alloc) | exact HK.out)) hk (.inl rfl)); replace HB := am (hb); replace HI0 := am (hi); (try clear hb); (try clear hk); (try clear hi)))
   repeat (go_quiet (first | (go_at_call 71; (with_reducible refine (octet_Reader_Err.calls g s0_0 s0_1 s0_2 t243 t244 t245 t246 w0 _ ?side1 ?side2 A4.out).mono ?_); (case side1 => repeat (first | (with_reducible first | exact HI0.out | apply IsS125.alloc | apply IsS125.drewN | apply IsS125.drew | apply IsS125.set_0 | apply IsS125.set_1 | apply IsS125.set_2) | exact HI0.out)); (case side2 => repeat (first | (with_reducible first | exact HB.out | apply below_alloc | apply pw_below_drewN | apply below_drew1 | refine below_set ?_ (IsS125.ge HI0.out)) | exact HB.out)); rintro e w12 ⟨rfl, hi, hb, hk⟩; replace HK := am (KeepBut.trans (by repeat (first | (with_reducible first | exact HK.out | apply KeepBut.set_ | apply keep_drewN | apply keep_drew | apply keep_alloc) | exact HK.out)) hk (.inl rfl)); replace HB := am (hb); replace HI0 := am (hi); (try clear hb); (try clear hk); (try clear hi); clear A4)); try go_wp2_with (first | (go_at_call 71; (with_reducible refine (octet_Reader_Err.calls g s0_0 s0_1 s0_2 t243 t244 t245 t246 w0 _ ?side1 ?side2 A4.out).mono ?_); (case side1 => repeat (first | (with_reducible first | exact HI0.out | apply IsS125.alloc | apply IsS125.drewN | apply IsS125.drew | apply IsS125.set_0 | apply IsS125.set_1 | apply IsS125.set_2) | exact HI0.out)); (case side2 => repeat (first | (with_reducible first | exact HB.out | apply below_alloc | apply pw_below_drewN | apply below_drew1 | refine below_set ?_ (IsS125.ge HI0.out)) | exact HB.out)); rintro e w12 ⟨rfl, hi, hb, hk⟩; replace HK := am (KeepBut.trans (by repeat (first | (with_reducible first | exact HK.out | apply KeepBut.set_ | apply keep_drewN | apply keep_drew | apply keep_alloc) | exact HK.out)) hk (.inl rfl)); replace HB := am (hb); replace HI0 := am (hi); (try clear hb); (try clear hk); (try clear hi); clear A4)))
   go_ret
   exact ⟨rf, by repeat (first | (with_reducible first | exact HI0.out | apply IsS125.alloc | apply IsS125.drewN | apply IsS125.drew | apply IsS125.set_0 | apply IsS125.set_1 | apply IsS125.set_2) | exact HI0.out), by repeat (first | (with_reducible first | exact HB.out | apply below_alloc | apply pw_below_drewN | apply below_drew1 | refine below_set ?_ (IsS125.ge HI0.out)) | exact HB.out), by repeat (first | (with_reducible first | exact HK.out | apply KeepBut.set_ | apply keep_drewN | apply keep_drew | apply keep_alloc) | exact HK.out)⟩
 ·
  obtain ⟨⟨t250, t251, t252, t253⟩, A13, H⟩ := obE H
  try dsimp only at H
  simp only [Option.some.injEq, Prod.mk.injEq] at H
  obtain ⟨rfl, rfl, rfl, rfl⟩ := H
  go_enter Tryd.func53, Tryd.ntmps53
  go_wp2_with (first | (go_at_call 73; (with_reducible refine (octet_Reader_Number.calls k g s0_0 s0_1 s0_2 (IntKind.u64.wrap (a1)) t250 t251 t252 t253 w0 _ ?side1 ?side2 A13.out).mono ?_); (case side1 => repeat (first | (with_reducible first | exact HI0.out | apply IsS125.alloc | apply IsS125.drewN | apply IsS125.drew | apply IsS125.set_0 | apply IsS125.set_1 | apply IsS125.set_2) | exact HI0.out)); (case side2 => repeat (first | (with_reducible first | exact HB.out | apply below_alloc | apply pw_below_drewN | apply below_drew1 | refine below_set ?_ (IsS125.ge HI0.out)) | exact HB.out)); rintro e w14 ⟨rfl, hi, hb, hk⟩; replace HK := am (KeepBut.trans (by repeat (first | (with_reducible first | exact HK.out | apply KeepBut.set_ | apply keep_drewN | apply keep_drew | apply keep_alloc) | exact HK.out)) hk (.inl rfl)); replace HB := am (hb); replace HI0 := am (hi); (try clear hb); (try clear hk); (try clear hi)))
  repeat (go_quiet (first | (go_at_call 73; (with_reducible refine (octet_Reader_Number.calls k g s0_0 s0_1 s0_2 (IntKind.u64.wrap (a1)) t250 t251 t252 t253 w0 _ ?side1 ?side2 A13.out).mono ?_); (case side1 => repeat (first | (with_reducible first | exact HI0.out | apply IsS125.alloc | apply IsS125.drewN | apply IsS125.drew | apply IsS125.set_0 | apply IsS125.set_1 | apply IsS125.set_2) | exact HI0.out)); (case side2 => repeat (first | (with_reducible first | exact HB.out | apply below_alloc | apply pw_below_drewN | apply below_drew1 | refine below_set ?_ (IsS125.ge HI0.out)) | exact HB.out)); rintro e w14 ⟨rfl, hi, hb, hk⟩; replace HK := am (KeepBut.trans (by repeat (first | (with_reducible first | exact HK.out | apply KeepBut.set_ | apply keep_drewN | apply keep_drew | apply keep_alloc) | exact HK.out)) hk (.inl rfl)); replace HB := am (hb); replace HI0 := am (hi); (try clear hb); (try clear hk); (try clear hi); clear A13)); try go_wp2_with (first | (go_at_call 73; (with_reducible refine (octet_Reader_Number.calls k g s0_0 s0_1 s0_2 (IntKind.u64.wrap (a1)) t250 t251 t252 t253 w0 _ ?side1 ?side2 A13.out).mono ?_); (case side1 => repeat (first | (with_reducible first | exact HI0.out | apply IsS125.alloc | apply IsS125.drewN | apply IsS125.drew | apply IsS125.set_0 | apply IsS125.set_1 | apply IsS125.set_2) | exact HI0.out)); (case side2 => repeat (first | (with_reducible first | exact HB.out | apply below_alloc | apply pw_below_drewN | apply below_drew1 | refine below_set ?_ (IsS125.ge HI0.out)) | exact HB.out)); rintro e w14 ⟨rfl, hi, hb, hk⟩; replace HK := am (KeepBut.trans (by repeat (first | (with_reducible first | exact HK.out | apply KeepBut.set_ | apply keep_drewN | apply keep_drew | apply keep_alloc) | exact HK.out)) hk (.inl rfl)); replace HB := am (hb); replace HI0 := am (hi); (try clear hb); (try clear hk); (try clear hi); clear A13)))
  go_ret
  exact ⟨rf, by repeat (first | (with_reducible first | exact HI0.out | apply IsS125.alloc | apply IsS125.drewN | apply IsS125.drew | apply IsS125.set_0 | apply IsS125.set_1 | apply IsS125.set_2) | exact HI0.out), by repeat (first | (with_reducible first | exact HB.out | apply below_alloc | apply pw_below_drewN | apply below_drew1 | refine below_set ?_ (IsS125.ge HI0.out)) | exact HB.out), by repeat (first | (with_reducible first | exact HK.out | apply KeepBut.set_ | apply keep_drewN | apply keep_drew | apply keep_alloc) | exact HK.out)⟩

/-! ### octet_ReadText: function 74 -/
def octet_ReadText.f (k : Nat) (a0 : ByteArray) (a1 : Int) : Option (ByteArray × Int × Int) := (octet_ReadNumber.f k a0 a1).bind fun bt254 => (if bt254.2.2 = 0 then (if bt254.1 > (IntKind.u64.wrap (wrap64 ((a0.size : Int) - bt254.2.1))) then (some ((⟨#[]⟩ : ByteArray), 0, 5)) else (if 0 ≤ bt254.2.1 then (if bt254.2.1 ≤ (wrap64 (bt254.2.1 + (wrap64 (bt254.1)))) then (if (wrap64 (bt254.2.1 + (wrap64 (bt254.1)))) ≤ (a0.size : Int) then (some (a0.extract (bt254.2.1 : Int).toNat ((wrap64 (bt254.2.1 + (wrap64 (bt254.1)))) : Int).toNat, wrap64 (bt254.2.1 + (wrap64 (bt254.1))), 0)) else (none)) else (none)) else (none))) else (some ((⟨#[]⟩ : ByteArray), 0, bt254.2.2)))
theorem octet_ReadText.mono : ∀ a0 a1 k, LeO (octet_ReadText.f k a0 a1) (octet_ReadText.f (k + 1) a0 a1) := by
 intro a0 a1 k
 unfold octet_ReadText.f
 repeat' (with_reducible first | exact octet_ReadNumber.mono _ _ _ | exact LeO.refl _ | exact LeO.none _ | refine LeO.ite ?_ ?_ | refine LeO.bind ?_ (fun _ => ?_))
set_option maxHeartbeats 8000000 in
set_option maxRecDepth 100000 in
theorem octet_ReadText.calls (k : Nat) (a0 : ByteArray) (a1 : Int) (r1 : ByteArray) (r2 : Int) (r3 : Int) (w : World) (h : octet_ReadText.f k a0 a1 = some (r1, r2, r3)) :
  Calls Tryd.prog 74 #[.string a0, .int .i64 a1] w fun e w' => e = .returned (.tuple #[.string r1, .int .i64 r2, .int .i64 r3]) ∧ Drawn0 w w' := by
 have H := h
 clear h
 unfold octet_ReadText.f at H
 obtain ⟨⟨t254, t255, t256⟩, A3, H⟩ := obE H
 try dsimp only at H
 by_cases c4 : t256 = 0
 ·
  rw [if_pos c4] at H
  have c4b0 := beq_iff_eq.mpr c4
  have c4b1 := bne_eq_false_iff_eq.mpr c4
  clear c4
  rcases iteD H with ⟨c5b0, H⟩ | ⟨c5b0, H⟩
  ·
   simp only [Option.some.injEq, Prod.mk.injEq] at H
   obtain ⟨rfl, rfl, rfl⟩ := H
   go_enter Tryd.func74, Tryd.ntmps74
   go_wp2_with (first | ((with_reducible refine gate_callee (f := 72) rfl ?_); refine goesL_ (some 13) rfl rfl Tryd.func72 (by kernel_rfl) rfl #[.string a0, .int .i64 a1] rfl gl ?_; (with_reducible refine (octet_ReadNumber.calls k a0 a1 t254 t255 t256 _ A3.out).mono ?_); rintro e w' ⟨rfl, ⟨nd, rfl⟩⟩; refine ⟨_, rfl, ?_⟩))
   go_ret3
   exact ⟨by first | rfl | (simp; done) | (simp [*]; done), by repeat (first | exact Drawn0.refl _ | apply Drawn0.step)⟩
  ·
   by_cases c6 : 0 ≤ t255
   ·
    rw [if_pos c6] at H
    have c6b0 := eq_true c6
    have c6b1 := decide_eq_true c6
    clear c6
    by_cases c7 : t255 ≤ (wrap64 (t255 + (wrap64 (t254))))
    ·
     rw [if_pos c7] at H
     have c7b0 := eq_true c7
     have c7b1 := decide_eq_true c7
     by_cases c8 : (wrap64 (t255 + (wrap64 (t254)))) ≤ (a0.size : Int)
     ·
      rw [if_pos c8] at H
      have c8b0 := eq_true c8
      have c8b1 := decide_eq_true c8
      simp only [Option.some.injEq, Prod.mk.injEq] at H
      obtain ⟨rfl, rfl, rfl⟩ := H
      go_enter Tryd.func74, Tryd.ntmps74
      go_wp2_with (first | ((with_reducible refine gate_callee (f := 72) rfl ?_); refine goesL_ (some 13) rfl rfl Tryd.func72 (by kernel_rfl) rfl #[.string a0, .int .i64 a1] rfl gl ?_; (with_reducible refine (octet_ReadNumber.calls k a0 a1 t254 t255 t256 _ A3.out).mono ?_); rintro e w' ⟨rfl, ⟨nd, rfl⟩⟩; refine ⟨_, rfl, ?_⟩))
      go_ret3
      exact ⟨by first | rfl | (simp; done) | (simp [*]; done), by repeat (first | exact Drawn0.refl _ | apply Drawn0.step)⟩
     ·
      rw [if_neg c8] at H
      exact absurd H (by simp)
    ·
     rw [if_neg c7] at H
     exact absurd H (by simp)
   ·
    rw [if_neg c6] at H
    exact absurd H (by simp)
 ·
  rw [if_neg c4] at H
  have c4b0 := beq_eq_false_iff_ne.mpr c4
  have c4b1 := bne_iff_ne.mpr c4
  simp only [Option.some.injEq, Prod.mk.injEq] at H
  obtain ⟨rfl, rfl, rfl⟩ := H
  go_enter Tryd.func74, Tryd.ntmps74
  go_wp2_with (first | ((with_reducible refine gate_callee (f := 72) rfl ?_); refine goesL_ (some 13) rfl rfl Tryd.func72 (by kernel_rfl) rfl #[.string a0, .int .i64 a1] rfl gl ?_; (with_reducible refine (octet_ReadNumber.calls k a0 a1 t254 t255 t256 _ A3.out).mono ?_); rintro e w' ⟨rfl, ⟨nd, rfl⟩⟩; refine ⟨_, rfl, ?_⟩))
  go_ret3
  exact ⟨by first | rfl | (simp; done) | (simp [*]; done), by repeat (first | exact Drawn0.refl _ | apply Drawn0.step)⟩

end Go.Proofs.YtoiockmmlanimaaDoor.Ok
end
section
-- Written for this claim by hyb.py, a driver of this session's over the kit's printer.
namespace Go.Proofs.YtoiockmmlanimaaDoor.Ok
open Go.RowKit Go.Proofs.YtoiockmmlanimaaDoorW.PrintWords Go.Proofs.YtoiockmmlanimaaDoorW.PrintLast Go.Proofs.YtoiockmmlanimaaDoorW.PrintMore
attribute [local go_sem] max2_int min2_int max_two min_two max_three min_three max_four min_four
set_option linter.unusedVariables false
set_option linter.unusedSimpArgs false

/-! ### octet_Reader_Text: function 54 -/
def octet_Reader_Text.j0 : Nat → ByteArray → Int → Int → Bool → ByteArray → Int → Int → Option (ByteArray × ByteArray × Int × Int)
 | 0, _, _, _, _, _, _, _ => none
 | k + 1, x5, x6, x7, x31, x1000, x1001, x1002 => if x31 = true then (if 2 = 0 then (some (x5, x1000, x6, x1002)) else (some ((⟨#[]⟩ : ByteArray), x1000, x1001, 2))) else (if x7 = 0 then (some (x5, x1000, x6, x1002)) else (some ((⟨#[]⟩ : ByteArray), x1000, x1001, x7)))
def octet_Reader_Text.f (k : Nat) (s0_0 : ByteArray) (s0_1 : Int) (s0_2 : Int) (a1 : Int) : Option (ByteArray × ByteArray × Int × Int) := (octet_Reader_Err.f s0_0 s0_1 s0_2).bind fun bt257 => (if bt257.1 = 0 then ((octet_ReadText.f k bt257.2.1 bt257.2.2.1).bind fun bt261 => (if bt261.2.2 = 0 then (octet_Reader_Text.j0 k bt261.1 bt261.2.1 bt261.2.2 (decide ((bt261.1.size : Int) > a1)) bt257.2.1 bt257.2.2.1 bt257.2.2.2) else (octet_Reader_Text.j0 k bt261.1 bt261.2.1 bt261.2.2 false bt257.2.1 bt257.2.2.1 bt257.2.2.2))) else (some ((⟨#[]⟩ : ByteArray), bt257.2.1, bt257.2.2.1, bt257.2.2.2)))
theorem octet_Reader_Text.mono_l : ∀ k, (∀ y0 y1 y2 y3 y4 y5 y6, LeO (octet_Reader_Text.j0 k y0 y1 y2 y3 y4 y5 y6) (octet_Reader_Text.j0 (k + 1) y0 y1 y2 y3 y4 y5 y6))
 | 0 => fun _ _ _ _ _ _ _ r h => by simp [octet_Reader_Text.j0] at h
 | k + 1 => by
  have ih0 := octet_Reader_Text.mono_l k
  ·
   intro y0 y1 y2 y3 y4 y5 y6
   unfold octet_Reader_Text.j0
   repeat' (with_reducible first | exact ih0 _ _ _ _ _ _ _ | exact octet_ReadText.mono _ _ _ | exact LeO.refl _ | exact LeO.none _ | refine LeO.ite ?_ ?_ | refine LeO.bind ?_ (fun _ => ?_))
theorem octet_Reader_Text.mono : ∀ a0 a1 a2 a3 k, LeO (octet_Reader_Text.f k a0 a1 a2 a3) (octet_Reader_Text.f (k + 1) a0 a1 a2 a3) := by
 intro a0 a1 a2 a3 k
 have ih0 := octet_Reader_Text.mono_l k
 unfold octet_Reader_Text.f
 repeat' (with_reducible first | exact ih0 _ _ _ _ _ _ _ | exact octet_ReadText.mono _ _ _ | exact LeO.refl _ | exact LeO.none _ | refine LeO.ite ?_ ?_ | refine LeO.bind ?_ (fun _ => ?_))
set_option maxHeartbeats 8000000 in
set_option maxRecDepth 100000 in
theorem octet_Reader_Text.calls (k : Nat) (g : Nat) (s0_0 : ByteArray) (s0_1 : Int) (s0_2 : Int) (a1 : Int) (r1 : ByteArray) (r2 : ByteArray) (r3 : Int) (r4 : Int) (w0 w : World) (hI : IsS125 w0 w g s0_0 s0_1 s0_2) (hB : Below w0.heap.size w0 w) (h : octet_Reader_Text.f k s0_0 s0_1 s0_2 a1 = some (r1, r2, r3, r4)) :
  Calls Tryd.prog 54 #[.pointer (some ⟨g, 0, none⟩), .int .i64 a1] w fun e w' => e = .returned (.string r1) ∧ IsS125 w0 w' g r2 r3 r4 ∧ Below w0.heap.size w0 w' ∧ KeepBut w w' g none := by
 have HI0 := am hI
 have HK := am (KeepBut.refl w g none)
 have HL := am hB.size
 clear hI
 have HW0 := am hB.size
 have HB := am hB
 clear hB
 have H := h
 clear h
 unfold octet_Reader_Text.f at H
 obtain ⟨⟨t257, t258, t259, t260⟩, A3, H⟩ := obE H
 try dsimp only at H
 by_cases c4 : t257 = 0
 ·
  rw [if_pos c4] at H
  have c4b0 := beq_iff_eq.mpr c4
  have c4b1 := bne_eq_false_iff_eq.mpr c4
  clear c4
  obtain ⟨⟨t261, t262, t263⟩, A5, H⟩ := obE H
  try dsimp only at H
  have HC6 := am H
  clear H
  go_enter Tryd.func54, Tryd.ntmps54
  go_upto_region 4 with (first | (go_at_call 71; (with_reducible refine (octet_Reader_Err.calls g s0_0 s0_1 s0_2 t257 t258 t259 t260 w0 _ ?side1 ?side2 A3.out).mono ?_); (case side1 => repeat (first | (with_reducible first | exact HI0.out | apply IsS125.alloc | apply IsS125.drewN | apply IsS125.drew | apply IsS125.set_0 | apply IsS125.set_1 | apply IsS125.set_2) | exact HI0.out)); (case side2 => repeat (first | (with_reducible first | exact HB.out | apply below_alloc | apply pw_below_drewN | apply below_drew1 | refine below_set ?_ (IsS125.ge HI0.out)) | exact HB.out)); rintro e w7 ⟨rfl, hi, hb, hk⟩; replace HK := am (KeepBut.trans (by repeat (first | (with_reducible first | exact HK.out | apply KeepBut.set_ | apply keep_drewN | apply keep_drew | apply keep_alloc) | exact HK.out)) hk (.inl rfl)); replace HB := am (hb); replace HI0 := am (hi); (try clear hb); (try clear hk); (try clear hi); obtain ⟨HGz8, hgz8⟩ := HI0.out; have hcz8_0 := cellS125_0 HGz8; have hcz8_1 := cellS125_1 HGz8; have hcz8_2 := cellS125_2 HGz8; have hfz8_0 := blk_frozen HGz8 0; have hfz8_1 := blk_frozen HGz8 1; have hfz8_2 := blk_frozen HGz8 2; clear HGz8 hgz8) | (go_at_call 74; (with_reducible refine (octet_ReadText.calls k t258 t259 t261 t262 t263 _ A5.out).mono ?_); rintro e w' ⟨rfl, ⟨nd, rfl⟩⟩; (try first | exact ⟨rfl, _, World.drewN_drewN _ _ _⟩ | exact ⟨rfl, _, Eq.trans (World.drewN_drewN _ _ _) (congrArg (World.drewN _) (Nat.add_assoc _ _ _))⟩)))
  repeat (go_quiet (first | (go_at_call 71; (with_reducible refine (octet_Reader_Err.calls g s0_0 s0_1 s0_2 t257 t258 t259 t260 w0 _ ?side1 ?side2 A3.out).mono ?_); (case side1 => repeat (first | (with_reducible first | exact HI0.out | apply IsS125.alloc | apply IsS125.drewN | apply IsS125.drew | apply IsS125.set_0 | apply IsS125.set_1 | apply IsS125.set_2) | exact HI0.out)); (case side2 => repeat (first | (with_reducible first | exact HB.out | apply below_alloc | apply pw_below_drewN | apply below_drew1 | refine below_set ?_ (IsS125.ge HI0.out)) | exact HB.out)); rintro e w7 ⟨rfl, hi, hb, hk⟩; replace HK := am (KeepBut.trans (by repeat (first | (with_reducible first | exact HK.out | apply KeepBut.set_ | apply keep_drewN | apply keep_drew | apply keep_alloc) | exact HK.out)) hk (.inl rfl)); replace HB := am (hb); replace HI0 := am (hi); (try clear hb); (try clear hk); (try clear hi); obtain ⟨HGz8, hgz8⟩ := HI0.out; have hcz8_0 := cellS125_0 HGz8; have hcz8_1 := cellS125_1 HGz8; have hcz8_2 := cellS125_2 HGz8; have hfz8_0 := blk_frozen HGz8 0; have hfz8_1 := blk_frozen HGz8 1; have hfz8_2 := blk_frozen HGz8 2; clear HGz8 hgz8; clear A3) | (go_at_call 74; (with_reducible refine (octet_ReadText.calls k t258 t259 t261 t262 t263 _ A5.out).mono ?_); rintro e w' ⟨rfl, ⟨nd, rfl⟩⟩; (try first | exact ⟨rfl, _, World.drewN_drewN _ _ _⟩ | exact ⟨rfl, _, Eq.trans (World.drewN_drewN _ _ _) (congrArg (World.drewN _) (Nat.add_assoc _ _ _))⟩); clear A5)); go_upto_region 4 with (first | (go_at_call 71; (with_reducible refine (octet_Reader_Err.calls g s0_0 s0_1 s0_2 t257 t258 t259 t260 w0 _ ?side1 ?side2 A3.out).mono ?_); (case side1 => repeat (first | (with_reducible first | exact HI0.out | apply IsS125.alloc | apply IsS125.drewN | apply IsS125.drew | apply IsS125.set_0 | apply IsS125.set_1 | apply IsS125.set_2) | exact HI0.out)); (case side2 => repeat (first | (with_reducible first | exact HB.out | apply below_alloc | apply pw_below_drewN | apply below_drew1 | refine below_set ?_ (IsS125.ge HI0.out)) | exact HB.out)); rintro e w7 ⟨rfl, hi, hb, hk⟩; replace HK := am (KeepBut.trans (by repeat (first | (with_reducible first | exact HK.out | apply KeepBut.set_ | apply keep_drewN | apply keep_drew | apply keep_alloc) | exact HK.out)) hk (.inl rfl)); replace HB := am (hb); replace HI0 := am (hi); (try clear hb); (try clear hk); (try clear hi); obtain ⟨HGz8, hgz8⟩ := HI0.out; have hcz8_0 := cellS125_0 HGz8; have hcz8_1 := cellS125_1 HGz8; have hcz8_2 := cellS125_2 HGz8; have hfz8_0 := blk_frozen HGz8 0; have hfz8_1 := blk_frozen HGz8 1; have hfz8_2 := blk_frozen HGz8 2; clear HGz8 hgz8; clear A3) | (go_at_call 74; (with_reducible refine (octet_ReadText.calls k t258 t259 t261 t262 t263 _ A5.out).mono ?_); rintro e w' ⟨rfl, ⟨nd, rfl⟩⟩; (try first | exact ⟨rfl, _, World.drewN_drewN _ _ _⟩ | exact ⟨rfl, _, Eq.trans (World.drewN_drewN _ _ _) (congrArg (World.drewN _) (Nat.add_assoc _ _ _))⟩); clear A5)))
  (try simp only [Act.put, List.setIfInBounds_toArray, List.set_cons_zero, List.set_cons_succ])
  go_cut [31] (fun v31 wc => ∃ (kq : Nat) (x31_5 : Bool), v31 = .bool x31_5 ∧ Aside0 (octet_Reader_Text.j0 kq t261 t262 t263 x31_5 t258 t259 t260 = some (r1, r2, r3, r4)) ∧ Aside0 (kq ≤ k) ∧ Aside0 (IsS125 w0 wc g t258 t259 t260) ∧ Aside0 (KeepBut w wc g none) ∧ Aside0 (Below w0.heap.size w0 wc))
  case first =>
   have H := HC6.out
   clear HC6
   by_cases c9 : t263 = 0
   ·
    rw [if_pos c9] at H
    have c9b0 := beq_iff_eq.mpr c9
    have c9b1 := bne_eq_false_iff_eq.mpr c9
    clear c9
    (first | rw [c9b0] | (simp only [i64_w, i32_w]; rw [c9b0]) | skip)
    have H' := am H
    clear H
    go_wp2
    repeat (go_quiet (fail); try go_wp2)
    go_meet
    case rel => exact ⟨_, (decide ((t261.size : Int) > a1)), rs, H', ⟨om⟩, ⟨by repeat (first | (with_reducible first | exact HI0.out | apply IsS125.alloc | apply IsS125.drewN | apply IsS125.drew | apply IsS125.set_0 | apply IsS125.set_1 | apply IsS125.set_2) | exact HI0.out)⟩, ⟨by repeat (first | (with_reducible first | exact HK.out | apply KeepBut.set_ | apply keep_drewN | apply keep_drew | apply keep_alloc) | exact HK.out)⟩, ⟨by repeat (first | (with_reducible first | exact HB.out | apply below_alloc | apply pw_below_drewN | apply below_drew1 | refine below_set ?_ (IsS125.ge HI0.out)) | exact HB.out)⟩⟩
   ·
    rw [if_neg c9] at H
    have c9b0 := beq_eq_false_iff_ne.mpr c9
    have c9b1 := bne_iff_ne.mpr c9
    (first | rw [c9b0] | (simp only [i64_w, i32_w]; rw [c9b0]) | skip)
    have H' := am H
    clear H
    go_wp2
    repeat (go_quiet (fail); try go_wp2)
    go_meet
    case rel => exact ⟨_, (false), rs, H', ⟨om⟩, ⟨by repeat (first | (with_reducible first | exact HI0.out | apply IsS125.alloc | apply IsS125.drewN | apply IsS125.drew | apply IsS125.set_0 | apply IsS125.set_1 | apply IsS125.set_2) | exact HI0.out)⟩, ⟨by repeat (first | (with_reducible first | exact HK.out | apply KeepBut.set_ | apply keep_drewN | apply keep_drew | apply keep_alloc) | exact HK.out)⟩, ⟨by repeat (first | (with_reducible first | exact HB.out | apply below_alloc | apply pw_below_drewN | apply below_drew1 | refine below_set ?_ (IsS125.ge HI0.out)) | exact HB.out)⟩⟩
  case rest =>
   clear HC6
   try clear p2
   try clear c4
   try clear c4b0
   try clear c4b1
   try clear c5
   try clear c9
   try clear c9b0
   try clear c9b1
   try clear hcz8_0 hcz8_1 hcz8_2 hfz8_0 hfz8_1 hfz8_2
   obtain ⟨kq, x31_5, rfl, HA, HJ5, HI0, HK, HB⟩ := hcut
   cases kq with
   | zero => exact absurd HA.out (by simp [octet_Reader_Text.j0])
   | succ kj5 =>
    have H := HA.out
    clear HA
    simp only [octet_Reader_Text.j0] at H
    by_cases c10 : x31_5 = true
    ·
     subst c10
     rw [if_pos rfl] at H
     by_cases c11 : 2 = 0
     ·
      exact absurd c11 (by decide)
     ·
      rw [if_neg c11] at H
      have c11b0 := beq_eq_false_iff_ne.mpr c11
      have c11b1 := bne_iff_ne.mpr c11
      simp only [Option.some.injEq, Prod.mk.injEq] at H
      obtain ⟨rfl, rfl, rfl, rfl⟩ := H
      obtain ⟨HGz13, hgz13⟩ := HI0.out
      have hcz13_0 := cellS125_0 HGz13
      have hcz13_1 := cellS125_1 HGz13
      have hcz13_2 := cellS125_2 HGz13
      have hfz13_0 := blk_frozen HGz13 0
      have hfz13_1 := blk_frozen HGz13 1
      have hfz13_2 := blk_frozen HGz13 2
      clear HGz13 hgz13
      go_wp2
      repeat (go_quiet (fail); try go_wp2)
      go_ret
      exact ⟨rf, by repeat (first | (with_reducible first | exact HI0.out | apply IsS125.alloc | apply IsS125.drewN | apply IsS125.drew | apply IsS125.set_0 | apply IsS125.set_1 | apply IsS125.set_2) | exact HI0.out), by repeat (first | (with_reducible first | exact HB.out | apply below_alloc | apply pw_below_drewN | apply below_drew1 | refine below_set ?_ (IsS125.ge HI0.out)) | exact HB.out), by repeat (first | (with_reducible first | exact HK.out | apply KeepBut.set_ | apply keep_drewN | apply keep_drew | apply keep_alloc) | exact HK.out)⟩
    ·
     replace c10 := Bool.eq_false_iff.mpr c10
     subst c10
     rw [if_neg (show ¬ (false = true) by decide)] at H
     by_cases c14 : t263 = 0
     ·
      rw [if_pos c14] at H
      have c14b0 := beq_iff_eq.mpr c14
      have c14b1 := bne_eq_false_iff_eq.mpr c14
      clear c14
      simp only [Option.some.injEq, Prod.mk.injEq] at H
      obtain ⟨rfl, rfl, rfl, rfl⟩ := H
      obtain ⟨HGz15, hgz15⟩ := HI0.out
      have hcz15_0 := cellS125_0 HGz15
      have hcz15_1 := cellS125_1 HGz15
      have hcz15_2 := cellS125_2 HGz15
      have hfz15_0 := blk_frozen HGz15 0
      have hfz15_1 := blk_frozen HGz15 1
      have hfz15_2 := blk_frozen HGz15 2
      clear HGz15 hgz15
      go_wp2
      repeat (go_quiet (fail); try go_wp2)
      go_ret
      exact ⟨rf, by repeat (first | (with_reducible first | exact HI0.out | apply IsS125.alloc | apply IsS125.drewN | apply IsS125.drew | apply IsS125.set_0 | apply IsS125.set_1 | apply IsS125.set_2) | exact HI0.out), by repeat (first | (with_reducible first | exact HB.out | apply below_alloc | apply pw_below_drewN | apply below_drew1 | refine below_set ?_ (IsS125.ge HI0.out)) | exact HB.out), by repeat (first | (with_reducible first | exact HK.out | apply KeepBut.set_ | apply keep_drewN | apply keep_drew | apply keep_alloc) | exact HK.out)⟩
     ·
      rw [if_neg c14] at H
      have c14b0 := beq_eq_false_iff_ne.mpr c14
      have c14b1 := bne_iff_ne.mpr c14
      simp only [Option.some.injEq, Prod.mk.injEq] at H
      obtain ⟨rfl, rfl, rfl, rfl⟩ := H
      obtain ⟨HGz16, hgz16⟩ := HI0.out
      have hcz16_0 := cellS125_0 HGz16
      have hcz16_1 := cellS125_1 HGz16
      have hcz16_2 := cellS125_2 HGz16
      have hfz16_0 := blk_frozen HGz16 0
      have hfz16_1 := blk_frozen HGz16 1
      have hfz16_2 := blk_frozen HGz16 2
      clear HGz16 hgz16
      go_wp2
      repeat (go_quiet (fail); try go_wp2)
      go_ret
      exact ⟨rf, by repeat (first | (with_reducible first | exact HI0.out | apply IsS125.alloc | apply IsS125.drewN | apply IsS125.drew | apply IsS125.set_0 | apply IsS125.set_1 | apply IsS125.set_2) | exact HI0.out), by repeat (first | (with_reducible first | exact HB.out | apply below_alloc | apply pw_below_drewN | apply below_drew1 | refine below_set ?_ (IsS125.ge HI0.out)) | exact HB.out), by repeat (first | (with_reducible first | exact HK.out | apply KeepBut.set_ | apply keep_drewN | apply keep_drew | apply keep_alloc) | exact HK.out)⟩
 ·
  rw [if_neg c4] at H
  have c4b0 := beq_eq_false_iff_ne.mpr c4
  have c4b1 := bne_iff_ne.mpr c4
  simp only [Option.some.injEq, Prod.mk.injEq] at H
  obtain ⟨rfl, rfl, rfl, rfl⟩ := H
  go_enter Tryd.func54, Tryd.ntmps54
  go_wp2_with (first | (go_at_call 71; (with_reducible refine (octet_Reader_Err.calls g s0_0 s0_1 s0_2 t257 t258 t259 t260 w0 _ ?side1 ?side2 A3.out).mono ?_); (case side1 => repeat (first | (with_reducible first | exact HI0.out | apply IsS125.alloc | apply IsS125.drewN | apply IsS125.drew | apply IsS125.set_0 | apply IsS125.set_1 | apply IsS125.set_2) | exact HI0.out)); (case side2 => repeat (first | (with_reducible first | exact HB.out | apply below_alloc | apply pw_below_drewN | apply below_drew1 | refine below_set ?_ (IsS125.ge HI0.out)) | exact HB.out)); rintro e w17 ⟨rfl, hi, hb, hk⟩; replace HK := am (KeepBut.trans (by repeat (first | (with_reducible first | exact HK.out | apply KeepBut.set_ | apply keep_drewN | apply keep_drew | apply keep_alloc) | exact HK.out)) hk (.inl rfl)); replace HB := am (hb); replace HI0 := am (hi); (try clear hb); (try clear hk); (try clear hi)))
  repeat (go_quiet (first | (go_at_call 71; (with_reducible refine (octet_Reader_Err.calls g s0_0 s0_1 s0_2 t257 t258 t259 t260 w0 _ ?side1 ?side2 A3.out).mono ?_); (case side1 => repeat (first | (with_reducible first | exact HI0.out | apply IsS125.alloc | apply IsS125.drewN | apply IsS125.drew | apply IsS125.set_0 | apply IsS125.set_1 | apply IsS125.set_2) | exact HI0.out)); (case side2 => repeat (first | (with_reducible first | exact HB.out | apply below_alloc | apply pw_below_drewN | apply below_drew1 | refine below_set ?_ (IsS125.ge HI0.out)) | exact HB.out)); rintro e w17 ⟨rfl, hi, hb, hk⟩; replace HK := am (KeepBut.trans (by repeat (first | (with_reducible first | exact HK.out | apply KeepBut.set_ | apply keep_drewN | apply keep_drew | apply keep_alloc) | exact HK.out)) hk (.inl rfl)); replace HB := am (hb); replace HI0 := am (hi); (try clear hb); (try clear hk); (try clear hi); clear A3)); try go_wp2_with (first | (go_at_call 71; (with_reducible refine (octet_Reader_Err.calls g s0_0 s0_1 s0_2 t257 t258 t259 t260 w0 _ ?side1 ?side2 A3.out).mono ?_); (case side1 => repeat (first | (with_reducible first | exact HI0.out | apply IsS125.alloc | apply IsS125.drewN | apply IsS125.drew | apply IsS125.set_0 | apply IsS125.set_1 | apply IsS125.set_2) | exact HI0.out)); (case side2 => repeat (first | (with_reducible first | exact HB.out | apply below_alloc | apply pw_below_drewN | apply below_drew1 | refine below_set ?_ (IsS125.ge HI0.out)) | exact HB.out)); rintro e w17 ⟨rfl, hi, hb, hk⟩; replace HK := am (KeepBut.trans (by repeat (first | (with_reducible first | exact HK.out | apply KeepBut.set_ | apply keep_drewN | apply keep_drew | apply keep_alloc) | exact HK.out)) hk (.inl rfl)); replace HB := am (hb); replace HI0 := am (hi); (try clear hb); (try clear hk); (try clear hi); clear A3)))
  go_ret
  exact ⟨rf, by repeat (first | (with_reducible first | exact HI0.out | apply IsS125.alloc | apply IsS125.drewN | apply IsS125.drew | apply IsS125.set_0 | apply IsS125.set_1 | apply IsS125.set_2) | exact HI0.out), by repeat (first | (with_reducible first | exact HB.out | apply below_alloc | apply pw_below_drewN | apply below_drew1 | refine below_set ?_ (IsS125.ge HI0.out)) | exact HB.out), by repeat (first | (with_reducible first | exact HK.out | apply KeepBut.set_ | apply keep_drewN | apply keep_drew | apply keep_alloc) | exact HK.out)⟩

end Go.Proofs.YtoiockmmlanimaaDoor.Ok
end
section
-- Written for this claim by hyb.py, a driver of this session's over the kit's printer.
namespace Go.Proofs.YtoiockmmlanimaaDoor.Ok
open Go.RowKit Go.Proofs.YtoiockmmlanimaaDoorW.PrintWords Go.Proofs.YtoiockmmlanimaaDoorW.PrintLast Go.Proofs.YtoiockmmlanimaaDoorW.PrintMore
attribute [local go_sem] max2_int min2_int max_two min_two max_three min_three max_four min_four
set_option linter.unusedVariables false
set_option linter.unusedSimpArgs false

/-! ### EXT octet_Reader_End: function 55 -/
def octet_Reader_End.f (s0_0 : ByteArray) (s0_1 : Int) (s0_2 : Int) : Option (Int × ByteArray × Int × Int) := if s0_2 = 0 then (if s0_1 < (s0_0.size : Int) then some (2, s0_0, s0_1, 2) else some (0, s0_0, s0_1, 0)) else some (s0_2, s0_0, s0_1, s0_2)
set_option maxRecDepth 100000 in
set_option maxHeartbeats 1000000 in
theorem octet_Reader_End_err (g : Nat) (e0 : Int) (w : World) (h2 : w.cell? ⟨g, 2, none⟩ = some (.int .i64 e0)) :
    Calls Tryd.prog 71 #[.pointer (some ⟨g, 0, none⟩)] w fun e w' => e = .returned (.int .i64 e0) ∧ w' = w := by
  go_enter Tryd.func71, Tryd.ntmps71
  go_wp2
  go_ret
  exact ⟨rfl, rfl⟩
set_option maxRecDepth 100000 in
set_option maxHeartbeats 1000000 in
theorem octet_Reader_End_no (g : Nat) (e0 : Int) (w : World) (he : ¬ e0 = 0) (h2 : w.cell? ⟨g, 2, none⟩ = some (.int .i64 e0)) :
    Calls Tryd.prog 55 #[.pointer (some ⟨g, 0, none⟩)] w fun e w' => e = .returned (.int .i64 e0) ∧ ∃ n, w' = w.drewN n := by
  have mixed : Tryd.prog.follows Departure.mixedOrders = true := by kernel_rfl
  have hne : (e0 == 0) = false := beq_eq_false_iff_ne.2 he
  go_enter Tryd.func55, Tryd.ntmps55
  go_wp2
  go_quiet (first | (go_at_call 71; exact Calls.quiet_of_same (octet_Reader_End_err g e0 _ h2)))
  go_wp2_with (go_at_call 71; refine (octet_Reader_End_err g e0 _ (by exact h2)).mono ?_; rintro e w' ⟨rfl, rfl⟩)
  go_ret
  exact ⟨rfl, _, rfl⟩
set_option maxRecDepth 100000 in
set_option maxHeartbeats 1000000 in
theorem octet_Reader_End_end (g : Nat) (s : ByteArray) (a : Int) (w : World) (ha : ¬ a < (s.size : Int)) (h0 : w.cell? ⟨g, 0, none⟩ = some (.string s)) (h1 : w.cell? ⟨g, 1, none⟩ = some (.int .i64 a)) (h2 : w.cell? ⟨g, 2, none⟩ = some (.int .i64 0)) :
    Calls Tryd.prog 55 #[.pointer (some ⟨g, 0, none⟩)] w fun e w' => e = .returned (.int .i64 0) ∧ ∃ n, w' = w.drewN n := by
  have mixed : Tryd.prog.follows Departure.mixedOrders = true := by kernel_rfl
  have hne : decide (a < (s.size : Int)) = false := decide_eq_false ha
  go_enter Tryd.func55, Tryd.ntmps55
  go_wp2
  go_quiet (first | (go_at_call 71; exact Calls.quiet_of_same (octet_Reader_End_err g 0 _ h2)))
  go_wp2_with (go_at_call 71; refine (octet_Reader_End_err g 0 _ (by exact h2)).mono ?_; rintro e w' ⟨rfl, rfl⟩)
  go_ret
  exact ⟨rfl, _, rfl⟩
set_option maxRecDepth 100000 in
set_option maxHeartbeats 1000000 in
theorem octet_Reader_End_long (g : Nat) (s : ByteArray) (a : Int) (w : World) (ha : a < (s.size : Int)) (h0 : w.cell? ⟨g, 0, none⟩ = some (.string s)) (h1 : w.cell? ⟨g, 1, none⟩ = some (.int .i64 a)) (h2 : w.cell? ⟨g, 2, none⟩ = some (.int .i64 0)) (hz : w.frozen? ⟨g, 2, none⟩ = false) :
    Calls Tryd.prog 55 #[.pointer (some ⟨g, 0, none⟩)] w fun e w' => e = .returned (.int .i64 2) ∧ ∃ n, w' = (w.drewN n).setCell ⟨g, 2, none⟩ (.int .i64 2) := by
  have mixed : Tryd.prog.follows Departure.mixedOrders = true := by kernel_rfl
  have hne : decide (a < (s.size : Int)) = true := decide_eq_true ha
  go_enter Tryd.func55, Tryd.ntmps55
  go_wp2
  go_quiet (first | (go_at_call 71; exact Calls.quiet_of_same (octet_Reader_End_err g 0 _ h2)))
  go_wp2_with (go_at_call 71; refine (octet_Reader_End_err g 2 _ ?_).mono ?_; rotate_left; rintro e w' ⟨rfl, rfl⟩)
  · go_ret
    exact ⟨rfl, _, rfl⟩
  · exact World.cell?_setCell_same _ _ _ (u := .int .i64 0) (by exact h2)
theorem octet_Reader_End.calls (g : Nat) (s0_0 : ByteArray) (s0_1 : Int) (s0_2 : Int) (r1 : Int) (r2 : ByteArray) (r3 : Int) (r4 : Int) (w0 w : World) (hI : IsS125 w0 w g s0_0 s0_1 s0_2) (hB : Below w0.heap.size w0 w) (h : octet_Reader_End.f s0_0 s0_1 s0_2 = some (r1, r2, r3, r4)) :
    Calls Tryd.prog 55 #[.pointer (some ⟨g, 0, none⟩)] w fun e w' => e = .returned (.int .i64 r1) ∧ IsS125 w0 w' g r2 r3 r4 ∧ Below w0.heap.size w0 w' ∧ KeepBut w w' g none := by
  have c0 := cellS125_0 hI.1
  have c1 := cellS125_1 hI.1
  have c2 := cellS125_2 hI.1
  have cz := blk_frozen hI.1 2
  unfold octet_Reader_End.f at h
  split at h
  · rename_i he
    subst he
    split at h
    · rename_i ha
      cases h
      exact (octet_Reader_End_long g _ _ w ha c0 c1 c2 cz).mono fun e w' ⟨h1, n, h2⟩ => ⟨h1, by rw [h2]; exact (hI.drewN n).set_2 2, by rw [h2]; exact (pw_below_drewN hB n).setCell hI.2 _, by rw [h2]; exact (keep_drewN (KeepBut.refl _ _ _) n).set_ 2 _⟩
    · rename_i ha
      cases h
      exact (octet_Reader_End_end g _ _ w ha c0 c1 c2).mono fun e w' ⟨h1, n, h2⟩ => ⟨h1, by rw [h2]; exact hI.drewN n, by rw [h2]; exact pw_below_drewN hB n, by rw [h2]; exact keep_drewN (KeepBut.refl _ _ _) n⟩
  · rename_i he
    cases h
    exact (octet_Reader_End_no g _ w he c2).mono fun e w' ⟨h1, n, h2⟩ => ⟨h1, by rw [h2]; exact hI.drewN n, by rw [h2]; exact pw_below_drewN hB n, by rw [h2]; exact keep_drewN (KeepBut.refl _ _ _) n⟩

end Go.Proofs.YtoiockmmlanimaaDoor.Ok
end
section
-- Written for this claim by hyb.py, a driver of this session's over the kit's printer.
namespace Go.Proofs.YtoiockmmlanimaaDoor.Ok
open Go.RowKit Go.Proofs.YtoiockmmlanimaaDoorW.PrintWords Go.Proofs.YtoiockmmlanimaaDoorW.PrintLast Go.Proofs.YtoiockmmlanimaaDoorW.PrintMore
attribute [local go_sem] max2_int min2_int max_two min_two max_three min_three max_four min_four
set_option linter.unusedVariables false
set_option linter.unusedSimpArgs false

/-! ### parts_Decode: function 27 -/
mutual
def parts_Decode.l0 : Nat → List (S46) → Int → Int → ByteArray → Int → Int → Option ((List (S46)) × Int)
 | 0, _, _, _, _, _, _ => none
 | k + 1, x5, x10, x11, x268000, x268001, x268002 => if x11 < x10 then ((octet_Reader_Int.f k x268000 x268001 x268002 100).bind fun bt272 => ((octet_Reader_Int.f k bt272.2.1 bt272.2.2.1 bt272.2.2.2 512).bind fun bt277 => (parts_Decode.l1 k x5 x10 x11 bt277.1 0 bt277.2.1 bt277.2.2.1 bt277.2.2.2 bt272.1 0 (⟨#[]⟩ : ByteArray) ([] : List (S63))))) else ((octet_Reader_End.f x268000 x268001 x268002).bind fun bt301 => (if bt301.1 = 0 then ((parts_right.f k x5).bind fun t305 => (if t305 = true then (some (x5, 0)) else (some (([] : List (S46)), 3)))) else (some (([] : List (S46)), 3))))
def parts_Decode.l1 : Nat → List (S46) → Int → Int → Int → Int → ByteArray → Int → Int → Int → Int → ByteArray → List (S63) → Option ((List (S46)) × Int)
 | 0, _, _, _, _, _, _, _, _, _, _, _, _ => none
 | k + 1, x5, x10, x11, x17, x18, x268000, x268001, x268002, x277000, x277001, x277002, x277003 => if x18 < x17 then ((octet_Reader_Text.f k x268000 x268001 x268002 64).bind fun bt281 => ((octet_Reader_Int.f k bt281.2.1 bt281.2.2.1 bt281.2.2.2 4096).bind fun bt285 => (if x277003.length < 5864062014805 then (parts_Decode.l1 k x5 x10 x11 x17 (wrap64 (x18 + 1)) bt285.2.1 bt285.2.2.1 bt285.2.2.2 x277000 x277001 x277002 (x277003 ++ [(⟨bt281.1, bt285.1⟩ : S63)])) else (none)))) else ((octet_Reader_Text.f k x268000 x268001 x268002 64).bind fun bt292 => ((chain_Pieces.f k x277003).bind fun bt296 => (if x5.length < 2513169434916 then (parts_Decode.l0 k (x5 ++ [(⟨x277000, bt296.1, bt292.1, x277003⟩ : S46)]) x10 (wrap64 (x11 + 1)) bt292.2.1 bt292.2.2.1 bt292.2.2.2) else (none))))
end
def parts_Decode.f (k : Nat) (a0 : ByteArray) : Option ((List (S46)) × Int) := (octet_NewReader.f a0).bind fun bt264 => ((octet_Reader_Int.f k bt264.1 bt264.2.1 bt264.2.2 100).bind fun bt268 => (parts_Decode.l0 k ([] : List (S46)) bt268.1 0 bt268.2.1 bt268.2.2.1 bt268.2.2.2))
theorem parts_Decode.mono_l : ∀ k, (∀ y0 y1 y2 y3 y4 y5, LeO (parts_Decode.l0 k y0 y1 y2 y3 y4 y5) (parts_Decode.l0 (k + 1) y0 y1 y2 y3 y4 y5)) ∧ (∀ y0 y1 y2 y3 y4 y5 y6 y7 y8 y9 y10 y11, LeO (parts_Decode.l1 k y0 y1 y2 y3 y4 y5 y6 y7 y8 y9 y10 y11) (parts_Decode.l1 (k + 1) y0 y1 y2 y3 y4 y5 y6 y7 y8 y9 y10 y11))
 | 0 => ⟨fun _ _ _ _ _ _ r h => by simp [parts_Decode.l0] at h, fun _ _ _ _ _ _ _ _ _ _ _ _ r h => by simp [parts_Decode.l1] at h⟩
 | k + 1 => by
  obtain ⟨ih0, ih1⟩ := parts_Decode.mono_l k
  refine ⟨?_, ?_⟩
  all_goals intros
  all_goals first | unfold parts_Decode.l0 | unfold parts_Decode.l1
  all_goals repeat' (with_reducible first | exact ih0 _ _ _ _ _ _ | exact ih1 _ _ _ _ _ _ _ _ _ _ _ _ | exact chain_Pieces.mono _ _ | exact octet_Reader_Int.mono _ _ _ _ _ | exact octet_Reader_Text.mono _ _ _ _ _ | exact parts_right.mono _ _ | exact LeO.refl _ | exact LeO.none _ | refine LeO.ite ?_ ?_ | refine LeO.bind ?_ (fun _ => ?_))
theorem parts_Decode.mono : ∀ a0 k, LeO (parts_Decode.f k a0) (parts_Decode.f (k + 1) a0) := by
 intro a0 k
 obtain ⟨ih0, ih1⟩ := parts_Decode.mono_l k
 unfold parts_Decode.f
 repeat' (with_reducible first | exact ih0 _ _ _ _ _ _ | exact ih1 _ _ _ _ _ _ _ _ _ _ _ _ | exact chain_Pieces.mono _ _ | exact octet_Reader_Int.mono _ _ _ _ _ | exact octet_Reader_Text.mono _ _ _ _ _ | exact parts_right.mono _ _ | exact LeO.refl _ | exact LeO.none _ | refine LeO.ite ?_ ?_ | refine LeO.bind ?_ (fun _ => ?_))
def parts_Decode.T8 : Bool × List (List Nat × List Nat) := (true, [([], []), ([0], [0]), ([], []), ([2], [2]), ([], []), ([4, 3], [4]), ([3, 5], [3, 5]), ([6], [6]), ([1, 7, 5], [1, 7]), ([0, 1, 2, 3, 4, 5, 6, 7, 8], []), ([9, 8, 8, 0, 1, 2, 3, 4, 5, 6, 7, 8], [8, 9])])
def parts_Decode.B8 : List Nat := [0, 1, 0, 4, 0, 28, 60, 124, 255, 511, 1023]
theorem parts_Decode.tab8 : rtab .any (opsOf Tryd.f27 8) = parts_Decode.T8 := by kernel_rfl
theorem parts_Decode.bits8 : waitsOk parts_Decode.T8.2 parts_Decode.B8 = true := by kernel_rfl
set_option maxHeartbeats 8000000 in
set_option maxRecDepth 100000 in
theorem parts_Decode.calls (k : Nat) (a0 : ByteArray) (r1 : List (S46)) (r2 : Int) (w : World) (h : parts_Decode.f k a0 = some (r1, r2)) :
  Calls Tryd.prog 27 #[.string a0] w fun e w' => ∃ v0_ : Value, e = .returned (.tuple #[v0_, .int .i64 r2]) ∧ Kd.S k46 46 w' w.heap.size (fun _ => True) v0_ r1 ∧ Below w.heap.size w w' := by
 have hu46 := Tryd.underlying46
 have hu63 := Tryd.underlying63
 have HB := am (Below.refl w.heap.size w)
 have H := h
 clear h
 unfold parts_Decode.f at H
 obtain ⟨⟨t264, t265, t266⟩, A2, H⟩ := obE H
 try dsimp only at H
 obtain ⟨⟨t268, t269, t270, t271⟩, A3, H⟩ := obE H
 try dsimp only at H
 have H' := am H
 clear H
 go_enter Tryd.func27, Tryd.ntmps27
 go_wp2_with (first | ((with_reducible refine gate_callee (f := 52) rfl ?_); refine goesL_ (some 8) rfl rfl Tryd.func52 (by kernel_rfl) rfl #[.string a0] rfl gl ?_; (with_reducible refine (octet_NewReader.calls a0 t264 t265 t266 w _ ?side1 A2.out).mono ?_); (case side1 => repeat (first | (with_reducible first | exact HB.out | apply below_alloc | apply pw_below_drewN | apply below_drew1) | exact HB.out)); rintro e w4 ⟨g267, rfl, hi, hb, hb2⟩; refine ⟨_, rfl, ?_⟩; replace HB := am (hb); have HI267 := am (hi); (try clear hb); (try clear hb2); (try clear hi)) | ((with_reducible refine gate_callee (f := 53) rfl ?_); refine goesL_ (some 10) rfl rfl Tryd.func53 (by kernel_rfl) rfl #[.pointer (some ⟨g267, 0, none⟩), .int .i64 100] rfl gl ?_; (with_reducible refine (octet_Reader_Int.calls k g267 t264 t265 t266 100 t268 t269 t270 t271 w _ ?side1 ?side2 A3.out).mono ?_); (case side1 => repeat (first | (with_reducible first | exact HI267.out | apply IsS125.alloc | apply IsS125.drewN | apply IsS125.drew | apply IsS125.set_0 | apply IsS125.set_1 | apply IsS125.set_2) | exact HI267.out)); (case side2 => repeat (first | (with_reducible first | exact HB.out | apply below_alloc | apply pw_below_drewN | apply below_drew1 | refine below_set ?_ (IsS125.ge HI267.out)) | exact HB.out)); rintro e w5 ⟨rfl, hi, hb, hk⟩; refine ⟨_, rfl, ?_⟩; replace HB := am (hb); replace HI267 := am (hi); (try clear hb); (try clear hk); (try clear hi)))
 go_loopg [5, 11] k (fun kq v5 v11 w' => ∃ (x5_1 : List (S46)) (x11_1 : Int) (x268000_1 : ByteArray) (x268001_1 : Int) (x268002_1 : Int), v11 = .int .i64 x11_1 ∧ Aside0 (parts_Decode.l0 kq x5_1 t268 x11_1 x268000_1 x268001_1 x268002_1 = some (r1, r2)) ∧ Aside0 (kq ≤ k) ∧ Aside0 (Kd.S k46 46 w' w.heap.size (fun _ => True) v5 x5_1) ∧ Aside0 (IsS125 w w' g267 x268000_1 x268001_1 x268002_1) ∧ Aside0 (Below w.heap.size w w'))
 case atStart => exact ⟨(([] : List (S46))), (0), (t269), (t270), (t271), rs, H', ⟨Nat.le_refl _⟩, ⟨niS⟩, ⟨by repeat (first | (with_reducible first | exact HI267.out | apply IsS125.alloc | apply IsS125.drewN | apply IsS125.drew | apply IsS125.set_0 | apply IsS125.set_1 | apply IsS125.set_2) | exact HI267.out)⟩, ⟨by repeat (first | (with_reducible first | exact HB.out | apply below_alloc | apply pw_below_drewN | apply below_drew1 | refine below_set ?_ (IsS125.ge HI267.out)) | exact HB.out)⟩⟩
 case round =>
  clear H'
  try clear c2
  try clear p2
  try clear c5
  obtain ⟨x5_1, x11_1, x268000_1, x268001_1, x268002_1, rfl, HA, HK1, HO_5, HI267, HB⟩ := hrel
  cases gk with
  | zero => exact absurd HA.out (by simp [parts_Decode.l0])
  | succ k1 =>
   have H := HA.out
   clear HA
   simp only [parts_Decode.l0] at H
   rcases iteD H with ⟨c6b0, H⟩ | ⟨c6b0, H⟩
   ·
    obtain ⟨⟨t272, t273, t274, t275⟩, A7, H⟩ := obE H
    try dsimp only at H
    obtain ⟨⟨t277, t278, t279, t280⟩, A8, H⟩ := obE H
    try dsimp only at H
    have H' := am H
    clear H
    go_wp2_with (first | ((with_reducible refine gate_callee (f := 53) rfl ?_); refine goesL_ (some 14) rfl rfl Tryd.func53 (by kernel_rfl) rfl #[.pointer (some ⟨g267, 0, none⟩), .int .i64 100] rfl gl ?_; (with_reducible refine (octet_Reader_Int.calls k1 g267 x268000_1 x268001_1 x268002_1 100 t272 t273 t274 t275 w _ ?side1 ?side2 A7.out).mono ?_); (case side1 => repeat (first | (with_reducible first | exact HI267.out | apply IsS125.alloc | apply IsS125.drewN | apply IsS125.drew | apply IsS125.set_0 | apply IsS125.set_1 | apply IsS125.set_2) | exact HI267.out)); (case side2 => repeat (first | (with_reducible first | exact HB.out | apply below_alloc | apply pw_below_drewN | apply below_drew1 | refine below_set ?_ (IsS125.ge HI267.out)) | exact HB.out)); rintro e w9 ⟨rfl, hi, hb, hk⟩; refine ⟨_, rfl, ?_⟩; replace HO_5 := am (Kd.S_mono (Kd.S_keep (IsS125.apartS (show IsS125 w _ g267 x268000_1 x268001_1 x268002_1 from by repeat (first | (with_reducible first | exact HI267.out | apply IsS125.alloc | apply IsS125.drewN | apply IsS125.drew | apply IsS125.set_0 | apply IsS125.set_1 | apply IsS125.set_2) | exact HI267.out)) (kS HO_5.out) (by decide)) hk (fun _ h => h.2)) (fun _ h => h.1)); replace HB := am (hb); replace HI267 := am (hi); (try clear hb); (try clear hk); (try clear hi)) | ((with_reducible refine gate_dst (N := 6) rfl ?_); refine bx 6 #[.int .i64 0, .int .i64 0, .string (⟨#[]⟩ : ByteArray), .slice none 0 0] 46 ?_; intro gb276 hg w10 hbox hb; have BK276 := am (hbox); have GW276 := am ((by rw [hg]; exact (below_size (by repeat (first | (with_reducible first | exact HB.out | apply below_alloc | apply pw_below_drewN | apply below_drew1 | refine below_set ?_ (IsS125.ge HI267.out)) | exact HB.out))) : w.heap.size ≤ gb276)); have GE276 := am ((by rw [hg]; exact (below_size (by repeat (first | (with_reducible first | exact HB.out | apply below_alloc | apply pw_below_drewN | apply below_drew1 | refine below_set ?_ (IsS125.ge HI267.out)) | exact HB.out))) : w.heap.size ≤ gb276)); have NB267_276 := am ((by rw [hg]; exact Nat.ne_of_lt (IsS125.lt (show IsS125 w _ g267 t273 t274 t275 from by repeat (first | (with_reducible first | exact HI267.out | apply IsS125.alloc | apply IsS125.drewN | apply IsS125.drew | apply IsS125.set_0 | apply IsS125.set_1 | apply IsS125.set_2) | exact HI267.out))) : g267 ≠ gb276)); have NB276_267 := am ((by rw [hg]; exact Nat.ne_of_gt (IsS125.lt (show IsS125 w _ g267 t273 t274 t275 from by repeat (first | (with_reducible first | exact HI267.out | apply IsS125.alloc | apply IsS125.drewN | apply IsS125.drew | apply IsS125.set_0 | apply IsS125.set_1 | apply IsS125.set_2) | exact HI267.out))) : gb276 ≠ g267)); replace HO_5 := am (Kd.S_below (Kd.S_elderB (kS HO_5.out) gb276 (Nat.le_of_eq hg.symm)) hb); replace HB := am (below_step (by repeat (first | (with_reducible first | exact HB.out | apply below_alloc | apply pw_below_drewN | apply below_drew1 | refine below_set ?_ (IsS125.ge HI267.out)) | exact HB.out)) hb); replace HI267 := am (IsS125.below (by repeat (first | (with_reducible first | exact HI267.out | apply IsS125.alloc | apply IsS125.drewN | apply IsS125.drew | apply IsS125.set_0 | apply IsS125.set_1 | apply IsS125.set_2) | exact HI267.out)) hb); clear hb hbox hg; have hnb11 := NB276_267.out; have hnc11 := NB267_276.out; obtain ⟨hcz12_0, hcz12_1, hcz12_2, hcz12_3, hfz12_0, hfz12_1, hfz12_2, hfz12_3⟩ := cz4 BK276.out) | ((with_reducible refine gate_callee (f := 53) rfl ?_); refine goesL_ (some 17) rfl rfl Tryd.func53 (by kernel_rfl) rfl #[.pointer (some ⟨g267, 0, none⟩), .int .i64 512] rfl gl ?_; (with_reducible refine (octet_Reader_Int.calls k1 g267 t273 t274 t275 512 t277 t278 t279 t280 w _ ?side1 ?side2 A8.out).mono ?_); (case side1 => repeat (first | (with_reducible first | exact HI267.out | apply IsS125.alloc | apply IsS125.drewN | apply IsS125.drew | apply IsS125.set_0 | apply IsS125.set_1 | apply IsS125.set_2 | refine IsS125.far ?_ NB267_276.out _) | exact HI267.out)); (case side2 => repeat (first | (with_reducible first | exact HB.out | apply below_alloc | apply pw_below_drewN | apply below_drew1 | refine below_set ?_ (IsS125.ge HI267.out) | refine below_set ?_ GE276.out) | exact HB.out)); rintro e w13 ⟨rfl, hi, hb, hk⟩; refine ⟨_, rfl, ?_⟩; replace HO_5 := am (Kd.S_mono (Kd.S_keep (IsS125.apartS (show IsS125 w _ g267 t273 t274 t275 from by repeat (first | (with_reducible first | exact HI267.out | apply IsS125.alloc | apply IsS125.drewN | apply IsS125.drew | apply IsS125.set_0 | apply IsS125.set_1 | apply IsS125.set_2 | refine IsS125.far ?_ NB267_276.out _) | exact HI267.out)) (by (with_reducible repeat (first | apply Kd.S_alloc | apply Kd.S_drewN | apply Kd.S_drew)); exact (Kd.S_mono (Kd.S_far (p := ⟨gb276, 3, none⟩) (Kd.S_far (p := ⟨gb276, 2, none⟩) (Kd.S_far (p := ⟨gb276, 1, none⟩) (Kd.S_far (p := ⟨gb276, 0, none⟩) (Kd.S_mono HO_5.out (fun k_ hk => (⟨hk, hk.2⟩ : _ ∧ k_ ≠ gb276))) (fun _ hk => hk.2) (.int .i64 t272)) (fun _ hk => hk.2) (.int .i64 0)) (fun _ hk => hk.2) (.string (⟨#[]⟩ : ByteArray))) (fun _ hk => hk.2) (.slice none 0 0)) (fun _ h_ => h_.1))) (by decide)) hk (fun _ h => h.2)) (fun _ h => h.1)); replace BK276 := am (KeepBut.blk hk (g' := gb276) (o := .cells #[.int .i64 t272, .int .i64 0, .string (⟨#[]⟩ : ByteArray), .slice none 0 0] 46 (0, 0)) (bkp BK276.out) NB276_267.out (by simp)); replace HB := am (hb); replace HI267 := am (hi); (try clear hb); (try clear hk); (try clear hi)))
    go_loopg [18] k1 (fun kq v18 w' => ∃ (x18_2 : Int) (x268000_2 : ByteArray) (x268001_2 : Int) (x268002_2 : Int) (x277003_2 : List (S63)) (u277003 : Value), v18 = .int .i64 x18_2 ∧ Aside0 (parts_Decode.l1 kq x5_1 t268 x11_1 t277 x18_2 x268000_2 x268001_2 x268002_2 t272 0 (⟨#[]⟩ : ByteArray) x277003_2 = some (r1, r2)) ∧ Aside0 (kq ≤ k1) ∧ Aside0 (Kd.S k46 46 w' w.heap.size (fun k_ => some k_ ≠ (u277003 : Value).ownBlock ∧ k_ ≠ gb276) u5 x5_1) ∧ Aside0 (Kd.R k63 63 w' w.heap.size (fun _ => True) u277003 x277003_2) ∧ Aside0 (w'.heap[gb276]? = some (.cells #[.int .i64 t272, .int .i64 0, .string (⟨#[]⟩ : ByteArray), u277003] 46 (0, 0))) ∧ Aside0 (IsS125 w w' g267 x268000_2 x268001_2 x268002_2) ∧ Aside0 (Below w.heap.size w w'))
    case atStart => exact ⟨(0), (t278), (t279), (t280), (([] : List (S63))), (.slice none 0 0), rs, H', ⟨Nat.le_refl _⟩, ⟨by (with_reducible repeat (first | apply Kd.S_alloc | apply Kd.S_drewN | apply Kd.S_drew)); exact Kd.S_mono HO_5.out (fun _ hk => ⟨(by simp [Value.ownBlock]), hk.2⟩)⟩, ⟨niR⟩, ⟨bk BK276.out⟩, ⟨by repeat (first | (with_reducible first | exact HI267.out | apply IsS125.alloc | apply IsS125.drewN | apply IsS125.drew | apply IsS125.set_0 | apply IsS125.set_1 | apply IsS125.set_2 | refine IsS125.far ?_ NB267_276.out _) | exact HI267.out)⟩, ⟨by repeat (first | (with_reducible first | exact HB.out | apply below_alloc | apply pw_below_drewN | apply below_drew1 | refine below_set ?_ (IsS125.ge HI267.out) | refine below_set ?_ GE276.out) | exact HB.out)⟩⟩
    case round =>
     clear H'
     try clear c1
     try clear c2
     try clear p2
     try clear c5
     try clear c6
     try clear c6b0
     try clear c11
     try clear hcz12_0 hcz12_1 hcz12_2 hcz12_3 hfz12_0 hfz12_1 hfz12_2 hfz12_3
     try clear p2
     obtain ⟨x18_2, x268000_2, x268001_2, x268002_2, x277003_2, u277003, rfl, HA, HK2, HO_5, HO_277003, BK276, HI267, HB⟩ := hrel
     cases gk with
     | zero => exact absurd HA.out (by simp [parts_Decode.l1])
     | succ k2 =>
      have H := HA.out
      clear HA
      simp only [parts_Decode.l1] at H
      rcases iteD H with ⟨c14b0, H⟩ | ⟨c14b0, H⟩
      ·
       obtain ⟨⟨t281, t282, t283, t284⟩, A15, H⟩ := obE H
       try dsimp only at H
       obtain ⟨⟨t285, t286, t287, t288⟩, A16, H⟩ := obE H
       try dsimp only at H
       by_cases c17 : x277003_2.length < 5864062014805
       ·
        rw [if_pos c17] at H
        have LMc17 := am c17
        clear c17
        obtain ⟨y289, hy289⟩ : ∃ y_ : List (S63), y_ = (x277003_2 ++ [(⟨t281, t285⟩ : S63)]) := ⟨_, rfl⟩
        replace H : (parts_Decode.l1 k2 x5_1 t268 x11_1 t277 (wrap64 (x18_2 + 1)) t286 t287 t288 t272 0 (⟨#[]⟩ : ByteArray) y289) = some (r1, r2) := by first | (rw [hy289]; with_reducible exact H) | (have H2_ := (Option.bind_some _ _).symm.trans H; rw [hy289]; with_reducible exact H2_) | (have H2_ := (Option.bind_some _ _).symm.trans H; with_reducible exact H2_) | with_reducible exact H | (rw [hy289]; exact H) | exact H
        have Ny289 := am hy289
        clear hy289
        have H' := am H
        clear H
        try go_wp2
        replace HO_5 := am (Kd.S_drew HO_5.out)
        replace HO_277003 := am (Kd.R_drew HO_277003.out)
        replace BK276 := am (blk_drew BK276.out)
        replace HI267 := am (IsS125.drew HI267.out)
        replace HB := am (below_drew1 HB.out)
        refine start_ (n := 11) (S := fun w' => w'.cell? ⟨gb276, 0, none⟩ = some (.int .i64 t272) ∧ w'.cell? ⟨gb276, 1, none⟩ = some (.int .i64 0) ∧ w'.cell? ⟨gb276, 2, none⟩ = some (.string (⟨#[]⟩ : ByteArray)) ∧ w'.cell? ⟨gb276, 3, none⟩ = some (u277003)) (ds := [10]) #[false, false, false, false, false, false, false, false, false, false, false] (by kernel_rfl) rfl rfl ⟨(blk_cell BK276.out 0).trans rfl, (blk_cell BK276.out 1).trans rfl, (blk_cell BK276.out 2).trans rfl, (blk_cell BK276.out 3).trans rfl⟩ (fun hHeld => ?_); refine with_tabW parts_Decode.tab8 parts_Decode.bits8 (fun HT_ HW_ => ?_)
        generalize wr.drew = w18 at HO_5 HO_277003 BK276 HI267 HB hHeld ⊢
        refine pu 0 (some 20) HT_.out ?_
        refine pu 2 (some 22) HT_.out ?_
        refine pu 4 (some 24) HT_.out ?_
        refine tk 1 (some 21) HT_.out HW_.out hHeld ?_
        refine one_ (i := 3) (N := some 23) #[true, true, true, true, true, false, false, false, false, false, false] rfl rfl (one_of HT_.out (by kernel_rfl)) (by decide) (fun K hK => ?_)
        refine goes_ Tryd.func54 (by kernel_rfl) rfl #[.pointer (some ⟨g267, 0, none⟩), .int .i64 64] (by rfl) rfl rfl gl ?_
        with_reducible refine (octet_Reader_Text.calls k2 g267 x268000_2 x268001_2 x268002_2 64 t281 t282 t283 t284 w _ ?side1 ?side2 A15.out).mono ?_
        (case side1 => repeat (first | (with_reducible first | exact HI267.out | apply IsS125.alloc | apply IsS125.drewN | apply IsS125.drew | apply IsS125.set_0 | apply IsS125.set_1 | apply IsS125.set_2 | refine IsS125.far ?_ NB267_276.out _) | exact HI267.out))
        (case side2 => repeat (first | (with_reducible first | exact HB.out | apply below_alloc | apply pw_below_drewN | apply below_drew1 | refine below_set ?_ (IsS125.ge HI267.out) | refine below_set ?_ GE276.out) | exact HB.out))
        rintro e w19 ⟨rfl, hi, hb, hk⟩
        refine ⟨_, rfl, ?_⟩
        replace HO_5 := am (Kd.S_mono (Kd.S_keep (IsS125.apartS (show IsS125 w _ g267 x268000_2 x268001_2 x268002_2 from by repeat (first | (with_reducible first | exact HI267.out | apply IsS125.alloc | apply IsS125.drewN | apply IsS125.drew | apply IsS125.set_0 | apply IsS125.set_1 | apply IsS125.set_2 | refine IsS125.far ?_ NB267_276.out _) | exact HI267.out)) (kS HO_5.out) (by decide)) hk (fun _ h => h.2)) (fun _ h => h.1))
        replace HO_277003 := am (Kd.R_mono (Kd.R_keep (IsS125.apart (show IsS125 w _ g267 x268000_2 x268001_2 x268002_2 from by repeat (first | (with_reducible first | exact HI267.out | apply IsS125.alloc | apply IsS125.drewN | apply IsS125.drew | apply IsS125.set_0 | apply IsS125.set_1 | apply IsS125.set_2 | refine IsS125.far ?_ NB267_276.out _) | exact HI267.out)) (kR HO_277003.out) (by decide)) hk (fun _ h => h.2)) (fun _ h => h.1))
        replace BK276 := am (KeepBut.blk hk (g' := gb276) (o := .cells #[.int .i64 t272, .int .i64 0, .string (⟨#[]⟩ : ByteArray), u277003] 46 (0, 0)) (bk BK276.out) NB276_267.out (by simp))
        replace HB := am (hb)
        replace HI267 := am (hi)
        (try clear hb)
        (try clear hb2)
        (try clear hk)
        (try clear hi)
        refine hK.out _ _ ⟨(blk_cell BK276.out 0).trans rfl, (blk_cell BK276.out 1).trans rfl, (blk_cell BK276.out 2).trans rfl, (blk_cell BK276.out 3).trans rfl⟩ (fun hHeld => ?_)
        clear hK K
        refine norm_ (a' := ?_) ?_ ?_
        rotate_left
        ·
         show Act.put _ (some 23) _ = _
         simp only [Act.put, List.setIfInBounds_toArray, List.set_cons_zero, List.set_cons_succ, i64_w, i32_w]
         rfl
        refine one_ (i := 5) (N := some 25) #[true, true, true, true, true, true, false, false, false, false, false] rfl rfl (one_of HT_.out (by kernel_rfl)) (by decide) (fun K hK => ?_)
        refine goes_ Tryd.func53 (by kernel_rfl) rfl #[.pointer (some ⟨g267, 0, none⟩), .int .i64 4096] (by rfl) rfl rfl gl ?_
        with_reducible refine (octet_Reader_Int.calls k2 g267 t282 t283 t284 4096 t285 t286 t287 t288 w _ ?side1 ?side2 A16.out).mono ?_
        (case side1 => repeat (first | (with_reducible first | exact HI267.out | apply IsS125.alloc | apply IsS125.drewN | apply IsS125.drew | apply IsS125.set_0 | apply IsS125.set_1 | apply IsS125.set_2 | refine IsS125.far ?_ NB267_276.out _) | exact HI267.out))
        (case side2 => repeat (first | (with_reducible first | exact HB.out | apply below_alloc | apply pw_below_drewN | apply below_drew1 | refine below_set ?_ (IsS125.ge HI267.out) | refine below_set ?_ GE276.out) | exact HB.out))
        rintro e w20 ⟨rfl, hi, hb, hk⟩
        refine ⟨_, rfl, ?_⟩
        replace HO_5 := am (Kd.S_mono (Kd.S_keep (IsS125.apartS (show IsS125 w _ g267 t282 t283 t284 from by repeat (first | (with_reducible first | exact HI267.out | apply IsS125.alloc | apply IsS125.drewN | apply IsS125.drew | apply IsS125.set_0 | apply IsS125.set_1 | apply IsS125.set_2 | refine IsS125.far ?_ NB267_276.out _) | exact HI267.out)) (kS HO_5.out) (by decide)) hk (fun _ h => h.2)) (fun _ h => h.1))
        replace HO_277003 := am (Kd.R_mono (Kd.R_keep (IsS125.apart (show IsS125 w _ g267 t282 t283 t284 from by repeat (first | (with_reducible first | exact HI267.out | apply IsS125.alloc | apply IsS125.drewN | apply IsS125.drew | apply IsS125.set_0 | apply IsS125.set_1 | apply IsS125.set_2 | refine IsS125.far ?_ NB267_276.out _) | exact HI267.out)) (kR HO_277003.out) (by decide)) hk (fun _ h => h.2)) (fun _ h => h.1))
        replace BK276 := am (KeepBut.blk hk (g' := gb276) (o := .cells #[.int .i64 t272, .int .i64 0, .string (⟨#[]⟩ : ByteArray), u277003] 46 (0, 0)) (bk BK276.out) NB276_267.out (by simp))
        replace HB := am (hb)
        replace HI267 := am (hi)
        (try clear hb)
        (try clear hb2)
        (try clear hk)
        (try clear hi)
        refine hK.out _ _ ⟨(blk_cell BK276.out 0).trans rfl, (blk_cell BK276.out 1).trans rfl, (blk_cell BK276.out 2).trans rfl, (blk_cell BK276.out 3).trans rfl⟩ (fun hHeld => ?_)
        clear hK K
        refine norm_ (a' := ?_) ?_ ?_
        rotate_left
        ·
         show Act.put _ (some 25) _ = _
         simp only [Act.put, List.setIfInBounds_toArray, List.set_cons_zero, List.set_cons_succ, i64_w, i32_w]
         rfl
        refine pu 6 (some 26) HT_.out ?_
        refine one_ (i := 7) (N := some 27) #[true, true, true, true, true, true, true, true, false, false, false] rfl rfl (one_of HT_.out (by kernel_rfl)) (by decide) (fun K hK => ?_)
        refine value_ (w1 := ?_) (v := ?_) (by rfl) rfl ?_ ?_
        rotate_left 2
        ·
         go_simp
         constructor
         ·
          rfl
         ·
          rfl
        refine hK.out _ _ ⟨(blk_cell (blk_alloc BK276.out _) 0).trans rfl, (blk_cell (blk_alloc BK276.out _) 1).trans rfl, (blk_cell (blk_alloc BK276.out _) 2).trans rfl, (blk_cell (blk_alloc BK276.out _) 3).trans rfl⟩ (fun hHeld => ?_)
        clear hK K
        refine norm_ (a' := ?_) ?_ ?_
        rotate_left
        ·
         show Act.put _ (some 27) _ = _
         simp only [Act.put, List.setIfInBounds_toArray, List.set_cons_zero, List.set_cons_succ, i64_w, i32_w]
         rfl
        refine one_ (i := 8) (N := some 28) #[true, true, true, true, true, true, true, true, true, false, false] rfl rfl (one_of HT_.out (by kernel_rfl)) (by decide) (fun K hK => ?_)
        refine Kd.R_append_step k63 (w0 := w) w.heap.size (by rfl) (.tmp 21) (.tmp 27) 24 63 (.agg #[(.string ⟨#[]⟩), (.int .i64 0)]) 24 rfl Tryd.underlying24 info63 rfl (by decide) (by omega) u277003 x277003_2 (⟨t281, t285⟩ : S63) [.string t281, .int .i64 t285] (fun _ => True) (fun _ => False) rfl rfl ?aP (fun _ hk => hk.elim) ?aF ?aO ?aB ?aS ?aL ?_
        (case aP => exact k63_mkM _ _ _ (⟨t281, t285⟩ : S63))
        (case aB => exact (by repeat (first | (with_reducible first | exact HB.out | apply below_alloc | apply pw_below_drewN | apply below_drew1 | refine below_set ?_ (IsS125.ge HI267.out) | refine below_set ?_ GE276.out) | exact HB.out)))
        (case aF => exact (fun _ _ => trivial))
        (case aO => exact (kR HO_277003.out))
        (case aS => exact (below_size (by repeat (first | (with_reducible first | exact HB.out | apply below_alloc | apply pw_below_drewN | apply below_drew1 | refine below_set ?_ (IsS125.ge HI267.out) | refine below_set ?_ GE276.out) | exact HB.out))))
        (case aL => have := LMc17.out; omega)
        intro v290 w21 ho hb hg hat
        rw [← Ny289.out] at ho
        have n0_ := am (Kd.S_after (ok := (fun k_ => k_ ≠ gb276)) (by (with_reducible repeat (first | apply Kd.S_alloc | apply Kd.S_drewN | apply Kd.S_drew)); exact Kd.S_mono HO_5.out (fun _ hk => ⟨hk.2, hk.1⟩)) hg hat)
        have n1_ := am (blk_grown (g := gb276) (o := .cells #[.int .i64 t272, .int .i64 0, .string (⟨#[]⟩ : ByteArray), u277003] 46 (0, 0)) (bk BK276.out) hg (Kd.R_ne HO_277003.out BK276.out (by decide)))
        have n2_ := am (IsS125.grown (by repeat (first | (with_reducible first | exact HI267.out | apply IsS125.alloc | apply IsS125.drewN | apply IsS125.drew | apply IsS125.set_0 | apply IsS125.set_1 | apply IsS125.set_2 | refine IsS125.far ?_ NB267_276.out _) | exact HI267.out)) hg (IsS125.own_ne HI267.out HO_277003.out (by decide)))
        have n3_ := am (hb)
        have n4_ := am (ho)
        clear HO_5
        clear BK276
        clear HI267
        clear HB
        clear HO_277003
        have HO_5 := n0_
        have BK276 := n1_
        have HI267 := n2_
        have HB := n3_
        have HO291 := n4_
        clear n0_ n1_ n2_ n3_ n4_
        clear ho hb hg hat
        obtain ⟨Ao22, co22, eo22⟩ := Kd.R_slice HO291.out
        (first | subst eo22 | (injection eo22 with f1_ f2_ f3_; have f4_ := f1_.symm; have f5_ := f3_.symm; clear f1_ f2_ f3_; subst f4_; subst f5_))
        refine hK.out _ _ ⟨(blk_cell BK276.out 0).trans rfl, (blk_cell BK276.out 1).trans rfl, (blk_cell BK276.out 2).trans rfl, (blk_cell BK276.out 3).trans rfl⟩ (fun hHeld => ?_)
        clear hK K
        refine norm_ (a' := ?_) ?_ ?_
        rotate_left
        ·
         show Act.put _ (some 28) _ = _
         simp only [Act.put, List.setIfInBounds_toArray, List.set_cons_zero, List.set_cons_succ, i64_w, i32_w]
         rfl
        refine pu 9 (some 29) HT_.out ?_
        refine last_ (i := 10) (N := none) #[true, true, true, true, true, true, true, true, true, true, true] rfl rfl (one_of HT_.out (by kernel_rfl)) (by decide) (fun K hK => ?_)
        have hs23 : w21.cell? ⟨gb276, 3, none⟩ = some (u277003) := (blk_cell BK276.out 3).trans rfl
        have hfs23 := blk_frozen BK276.out 3
        refine skip_ (w1 := ?_) (by rfl) rfl ?_ ?_
        rotate_left
        ·
         go_simp
         rfl
        refine hK.out _ _ ?_
        clear hK K
        refine done_ (done_of HT_.out (by kernel_rfl)) ?_
        try go_wp2
        go_roundg k2
        case measure => have := HK1.out; have := HK2.out; omega
        case rel => exact ⟨(wrap64 (x18_2 + 1)), (t286), (t287), (t288), (y289), (.slice Ao22 y289.length co22), rs, H', ⟨by have := HK1.out; have := HK2.out; omega⟩, ⟨by (with_reducible repeat (first | apply Kd.S_alloc | apply Kd.S_drewN | apply Kd.S_drew)); exact Kd.S_mono (Kd.S_far (p := ⟨gb276, 3, none⟩) (Kd.S_mono HO_5.out (fun k_ hk => (⟨hk, hk.1⟩ : _ ∧ k_ ≠ gb276))) (fun _ hk => hk.2) (.slice Ao22 y289.length co22)) (fun _ hk => ⟨hk.1.2, hk.1.1⟩)⟩, ⟨by (with_reducible repeat (first | apply Kd.R_alloc | apply Kd.R_drewN | apply Kd.R_drew)); exact Kd.R_mono (Kd.R_far (p := ⟨gb276, 3, none⟩) (Kd.R_types HO291.out BK276.out (by decide)) (fun _ hk => hk.2) (.slice Ao22 y289.length co22)) (fun _ hk => trivial)⟩, ⟨bkp BK276.out⟩, ⟨by repeat (first | (with_reducible first | exact HI267.out | apply IsS125.alloc | apply IsS125.drewN | apply IsS125.drew | apply IsS125.set_0 | apply IsS125.set_1 | apply IsS125.set_2 | refine IsS125.far ?_ NB267_276.out _) | exact HI267.out)⟩, ⟨by repeat (first | (with_reducible first | exact HB.out | apply below_alloc | apply pw_below_drewN | apply below_drew1 | refine below_set ?_ (IsS125.ge HI267.out) | refine below_set ?_ GE276.out) | exact HB.out)⟩⟩
       ·
        rw [if_neg c17] at H
        exact absurd H (by simp)
      ·
       obtain ⟨⟨t292, t293, t294, t295⟩, A24, H⟩ := obE H
       try dsimp only at H
       obtain ⟨⟨t296, t297⟩, A25, H⟩ := obE H
       try dsimp only at H
       by_cases c26 : x5_1.length < 2513169434916
       ·
        rw [if_pos c26] at H
        have LMc26 := am c26
        clear c26
        obtain ⟨y298, hy298⟩ : ∃ y_ : List (S46), y_ = (x5_1 ++ [(⟨t272, t296, t292, x277003_2⟩ : S46)]) := ⟨_, rfl⟩
        replace H : (parts_Decode.l0 k2 y298 t268 (wrap64 (x11_1 + 1)) t293 t294 t295) = some (r1, r2) := by first | (rw [hy298]; with_reducible exact H) | (have H2_ := (Option.bind_some _ _).symm.trans H; rw [hy298]; with_reducible exact H2_) | (have H2_ := (Option.bind_some _ _).symm.trans H; with_reducible exact H2_) | with_reducible exact H | (rw [hy298]; exact H) | exact H
        have Ny298 := am hy298
        clear hy298
        have H' := am H
        clear H
        go_wp2_with (first | ((with_reducible refine gate_callee (f := 54) rfl ?_); refine goesL_ (some 32) rfl rfl Tryd.func54 (by kernel_rfl) rfl #[.pointer (some ⟨g267, 0, none⟩), .int .i64 64] rfl gl ?_; (with_reducible refine (octet_Reader_Text.calls k2 g267 x268000_2 x268001_2 x268002_2 64 t292 t293 t294 t295 w _ ?side1 ?side2 A24.out).mono ?_); (case side1 => repeat (first | (with_reducible first | exact HI267.out | apply IsS125.alloc | apply IsS125.drewN | apply IsS125.drew | apply IsS125.set_0 | apply IsS125.set_1 | apply IsS125.set_2 | refine IsS125.far ?_ NB267_276.out _) | exact HI267.out)); (case side2 => repeat (first | (with_reducible first | exact HB.out | apply below_alloc | apply pw_below_drewN | apply below_drew1 | refine below_set ?_ (IsS125.ge HI267.out) | refine below_set ?_ GE276.out) | exact HB.out)); rintro e w27 ⟨rfl, hi, hb, hk⟩; refine ⟨_, rfl, ?_⟩; replace HO_5 := am (Kd.S_mono (Kd.S_keep (IsS125.apartS (show IsS125 w _ g267 x268000_2 x268001_2 x268002_2 from by repeat (first | (with_reducible first | exact HI267.out | apply IsS125.alloc | apply IsS125.drewN | apply IsS125.drew | apply IsS125.set_0 | apply IsS125.set_1 | apply IsS125.set_2 | refine IsS125.far ?_ NB267_276.out _) | exact HI267.out)) (kS HO_5.out) (by decide)) hk (fun _ h => h.2)) (fun _ h => h.1)); replace HO_277003 := am (Kd.R_mono (Kd.R_keep (IsS125.apart (show IsS125 w _ g267 x268000_2 x268001_2 x268002_2 from by repeat (first | (with_reducible first | exact HI267.out | apply IsS125.alloc | apply IsS125.drewN | apply IsS125.drew | apply IsS125.set_0 | apply IsS125.set_1 | apply IsS125.set_2 | refine IsS125.far ?_ NB267_276.out _) | exact HI267.out)) (kR HO_277003.out) (by decide)) hk (fun _ h => h.2)) (fun _ h => h.1)); replace BK276 := am (KeepBut.blk hk (g' := gb276) (o := .cells #[.int .i64 t272, .int .i64 0, .string (⟨#[]⟩ : ByteArray), u277003] 46 (0, 0)) (bk BK276.out) NB276_267.out (by simp)); replace HB := am (hb); replace HI267 := am (hi); (try clear hb); (try clear hk); (try clear hi); have hnb28 := NB276_267.out; have hnc28 := NB267_276.out; obtain ⟨hcz29_0, hcz29_1, hcz29_2, hcz29_3, hfz29_0, hfz29_1, hfz29_2, hfz29_3⟩ := cz4 BK276.out; obtain ⟨Ao30, co30, eo30⟩ := Kd.R_slice HO_277003.out; subst eo30) | ((with_reducible refine gate_callee (f := 42) rfl ?_); refine goesL_ (some 37) rfl rfl Tryd.func42 (by kernel_rfl) rfl #[.slice Ao30 x277003_2.length co30] rfl gl ?_; (with_reducible refine (chain_Pieces.calls k2 _ _ x277003_2 t296 t297 _ ?side1 ?side2 A25.out).mono ?_); (case side1 => refine (Kd.R_reads' (e := 63) (base := w.heap.size) (ok := fun k_ => True) (n := x277003_2.length) (c := co30) ?_).2.2; exact (by (with_reducible repeat (first | apply Kd.R_alloc | apply Kd.R_drewN | apply Kd.R_drew)); exact (Kd.R_mono (Kd.R_far (p := ⟨gb276, 2, none⟩) (Kd.R_types HO_277003.out BK276.out (by decide)) (fun _ hk => hk.2) (.string t292)) (fun _ h_ => h_.1)))); (case side2 => exact (Kd.R_reads' HO_277003.out).2.1); rintro e w31 ⟨rfl, hb⟩; refine ⟨_, rfl, ?_⟩; replace HO_5 := am (Kd.S_below (by (with_reducible repeat (first | apply Kd.S_alloc | apply Kd.S_drewN | apply Kd.S_drew)); exact (Kd.S_mono (Kd.S_far (p := ⟨gb276, 2, none⟩) (Kd.S_mono HO_5.out (fun k_ hk => (⟨hk, hk.2⟩ : _ ∧ k_ ≠ gb276))) (fun _ hk => hk.2) (.string t292)) (fun _ h_ => h_.1))) hb); replace HO_277003 := am (Kd.R_below (by (with_reducible repeat (first | apply Kd.R_alloc | apply Kd.R_drewN | apply Kd.R_drew)); exact (Kd.R_mono (Kd.R_far (p := ⟨gb276, 2, none⟩) (Kd.R_types HO_277003.out BK276.out (by decide)) (fun _ hk => hk.2) (.string t292)) (fun _ h_ => h_.1))) hb); replace BK276 := am (blk_below (g := gb276) (o := .cells #[.int .i64 t272, .int .i64 0, .string t292, .slice Ao30 x277003_2.length co30] 46 (0, 0)) (bkp BK276.out) hb); replace HB := am (below_step (by repeat (first | (with_reducible first | exact HB.out | apply below_alloc | apply pw_below_drewN | apply below_drew1 | refine below_set ?_ (IsS125.ge HI267.out) | refine below_set ?_ GE276.out) | exact HB.out)) hb); replace HI267 := am (IsS125.below (show IsS125 w (w27.setCell ⟨gb276, 2, none⟩ (.string t292)) g267 t293 t294 t295 from by repeat (first | (with_reducible first | exact HI267.out | apply IsS125.alloc | apply IsS125.drewN | apply IsS125.drew | apply IsS125.set_0 | apply IsS125.set_1 | apply IsS125.set_2 | refine IsS125.far ?_ NB267_276.out _) | exact HI267.out)) hb); (try clear hb); obtain ⟨hcz32_0, hcz32_1, hcz32_2, hcz32_3, hfz32_0, hfz32_1, hfz32_2, hfz32_3⟩ := cz4 BK276.out) | ((with_reducible refine gate_store (t := 3) (p := 40) rfl ?_); refine store_event (t := 3) (p := 40) (v := ?vo_w33) (w1 := (w31.setCell ⟨gb276, 1, none⟩ (.int .i64 t296))) ?hg ?ho ?hn ?hr ?_; (case ho => rfl); (case hg => rfl); (case hn => rfl); (case hr => first | (go_simp; done) | (go_simp; rfl)); intro w33 hw; have n0_ : Aside0 (Kd.S k46 46 w33 w.heap.size (fun k_ => some k_ ≠ (.slice Ao30 x277003_2.length co30 : Value).ownBlock ∧ k_ ≠ gb276) u5 x5_1) := ⟨(by rw [hw]; exact (by (with_reducible repeat (first | apply Kd.S_alloc | apply Kd.S_drewN | apply Kd.S_drew)); exact Kd.S_mono (Kd.S_far (p := ⟨gb276, 1, none⟩) (Kd.S_mono HO_5.out (fun k_ hk => (⟨hk, hk.2⟩ : _ ∧ k_ ≠ gb276))) (fun _ hk => hk.2) (.int .i64 t296)) (fun _ hk => ⟨hk.1.1, hk.1.2⟩)))⟩; have n1_ : Aside0 (Kd.R k63 63 w33 w.heap.size (fun _ => True) (.slice Ao30 x277003_2.length co30) x277003_2) := ⟨(by rw [hw]; exact (by (with_reducible repeat (first | apply Kd.R_alloc | apply Kd.R_drewN | apply Kd.R_drew)); exact Kd.R_mono (Kd.R_far (p := ⟨gb276, 1, none⟩) (Kd.R_types HO_277003.out BK276.out (by decide)) (fun _ hk => hk.2) (.int .i64 t296)) (fun _ hk => trivial)))⟩; have n2_ : Aside0 (w33.heap[gb276]? = some (.cells #[.int .i64 t272, .int .i64 t296, .string t292, .slice Ao30 x277003_2.length co30] 46 (0, 0))) := ⟨(by rw [hw]; exact (bkp BK276.out))⟩; have n3_ : Aside0 (IsS125 w w33 g267 t293 t294 t295) := ⟨(by rw [hw]; exact (by repeat (first | (with_reducible first | exact HI267.out | apply IsS125.alloc | apply IsS125.drewN | apply IsS125.drew | apply IsS125.set_0 | apply IsS125.set_1 | apply IsS125.set_2 | refine IsS125.far ?_ NB267_276.out _) | exact HI267.out)))⟩; have n4_ : Aside0 (Below w.heap.size w w33) := ⟨(by rw [hw]; exact (by repeat (first | (with_reducible first | exact HB.out | apply below_alloc | apply pw_below_drewN | apply below_drew1 | refine below_set ?_ (IsS125.ge HI267.out) | refine below_set ?_ GE276.out) | exact HB.out)))⟩; clear hw; clear HO_5; clear HO_277003; clear BK276; clear HI267; clear HB; have HO_5 := n0_; have HO_277003 := n1_; have BK276 := n2_; have HI267 := n3_; have HB := n4_; clear n0_ n1_ n2_ n3_ n4_; obtain ⟨hcz34_0, hcz34_1, hcz34_2, hcz34_3, hfz34_0, hfz34_1, hfz34_2, hfz34_3⟩ := cz4 BK276.out) | ((with_reducible refine gate_builtin (b := .append) (xs := #[.tmp 41, .tmp 43]) rfl ?_); at_builtin; refine Kd.S_append k46 (w0 := w) w.heap.size rfl (.tmp 41) (.tmp 43) 22 46 (.agg #[(.int .i64 0), (.int .i64 0), (.string ⟨#[]⟩), (.slice none 0 0)]) 56 rfl Tryd.underlying22 info46 rfl (by decide) (by omega) u5 x5_1 (⟨t272, t296, t292, x277003_2⟩ : S46) [.int .i64 t272, .int .i64 t296, .string t292, .slice Ao30 x277003_2.length co30] (fun k_ => k_ ≠ gb276) (fun k_ => some k_ = (.slice Ao30 x277003_2.length co30 : Value).ownBlock) rfl rfl ?aP (fun k_ hk_ => ((Kd.R_mono (ok' := fun k_ => ((fun k_ => k_ ≠ gb276)) k_ ∧ some k_ ≠ (u5 : Value).ownBlock) (Kd.R_types (Kd.R_apart' (HO_277003.out) (Kd.S_typed HO_5.out) (by decide)) BK276.out (by decide)) (fun k_ hk => ⟨hk.2, hk.1.2⟩))).1 k_ hk_.symm) ?aF ?aO ?aB ?aS ?aL ?_; (case aP => exact k46_mkM _ _ _ (⟨t272, t296, t292, x277003_2⟩ : S46) (Kd.R_mono (Kd.R_tight rfl (Kd.R_mono (ok' := fun k_ => ((fun k_ => k_ ≠ gb276)) k_ ∧ some k_ ≠ (u5 : Value).ownBlock) (Kd.R_types (Kd.R_apart' (HO_277003.out) (Kd.S_typed HO_5.out) (by decide)) BK276.out (by decide)) (fun k_ hk => ⟨hk.2, hk.1.2⟩))) (fun _ h_ => h_))); (case aB => exact (by repeat (first | (with_reducible first | exact HB.out | apply below_alloc | apply pw_below_drewN | apply below_drew1 | refine below_set ?_ (IsS125.ge HI267.out) | refine below_set ?_ GE276.out) | exact HB.out))); (case aF => exact (fun k_ hk => Kd.freshB (g := gb276) (o := .cells #[.int .i64 t272, .int .i64 t296, .string t292, .slice Ao30 x277003_2.length co30] 46 (0, 0)) (bk BK276.out) k_ hk)); (case aO => exact (by (with_reducible repeat (first | apply Kd.S_alloc | apply Kd.S_drewN | apply Kd.S_drew)); exact Kd.S_mono HO_5.out (fun k_ hk => ⟨hk.2, fun e_ => hk.1 e_⟩))); (case aS => exact (below_size (by repeat (first | (with_reducible first | exact HB.out | apply below_alloc | apply pw_below_drewN | apply below_drew1 | refine below_set ?_ (IsS125.ge HI267.out) | refine below_set ?_ GE276.out) | exact HB.out)))); (case aL => have := LMc26.out; omega); intro v299 w35 ho hb hg hat; rw [← Ny298.out] at ho; have n0_ := am (blk_grown (g := gb276) (o := .cells #[.int .i64 t272, .int .i64 t296, .string t292, .slice Ao30 x277003_2.length co30] 46 (0, 0)) (bk BK276.out) hg (Kd.S_away HO_5.out (fun _ hk => hk.2))); have n1_ := am (IsS125.grown (by repeat (first | (with_reducible first | exact HI267.out | apply IsS125.alloc | apply IsS125.drewN | apply IsS125.drew | apply IsS125.set_0 | apply IsS125.set_1 | apply IsS125.set_2 | refine IsS125.far ?_ NB267_276.out _) | exact HI267.out)) hg (IsS125.own_neS HI267.out HO_5.out (by decide))); have n2_ := am (hb); have n3_ := am (ho); clear BK276; clear HI267; clear HB; clear HO_5; clear HO_277003; have BK276 := n0_; have HI267 := n1_; have HB := n2_; have HO300 := n3_; clear n0_ n1_ n2_ n3_; clear ho hb hg hat))
        go_roundg k2
        case measure => have := HK1.out; have := HK2.out; omega
        case rel => exact ⟨(y298), (wrap64 (x11_1 + 1)), (t293), (t294), (t295), rs, H', ⟨by have := HK1.out; have := HK2.out; omega⟩, ⟨by (with_reducible repeat (first | apply Kd.S_alloc | apply Kd.S_drewN | apply Kd.S_drew)); exact Kd.S_mono HO300.out (fun _ hk => trivial)⟩, ⟨by repeat (first | (with_reducible first | exact HI267.out | apply IsS125.alloc | apply IsS125.drewN | apply IsS125.drew | apply IsS125.set_0 | apply IsS125.set_1 | apply IsS125.set_2 | refine IsS125.far ?_ NB267_276.out _) | exact HI267.out)⟩, ⟨by repeat (first | (with_reducible first | exact HB.out | apply below_alloc | apply pw_below_drewN | apply below_drew1 | refine below_set ?_ (IsS125.ge HI267.out) | refine below_set ?_ GE276.out) | exact HB.out)⟩⟩
       ·
        rw [if_neg c26] at H
        exact absurd H (by simp)
   ·
    obtain ⟨⟨t301, t302, t303, t304⟩, A36, H⟩ := obE H
    try dsimp only at H
    by_cases c37 : t301 = 0
    ·
     rw [if_pos c37] at H
     have c37b0 := beq_iff_eq.mpr c37
     have c37b1 := bne_eq_false_iff_eq.mpr c37
     clear c37
     obtain ⟨t305, A38, H⟩ := obE H
     by_cases c39 : t305 = true
     ·
      subst c39
      rw [if_pos rfl] at H
      simp only [Option.some.injEq, Prod.mk.injEq] at H
      obtain ⟨rfl, rfl⟩ := H
      go_wp2_with (first | ((with_reducible refine gate_callee (f := 55) rfl ?_); refine goesL_ (some 47) rfl rfl Tryd.func55 (by kernel_rfl) rfl #[.pointer (some ⟨g267, 0, none⟩)] rfl gl ?_; (with_reducible refine (octet_Reader_End.calls g267 x268000_1 x268001_1 x268002_1 t301 t302 t303 t304 w _ ?side1 ?side2 A36.out).mono ?_); (case side1 => repeat (first | (with_reducible first | exact HI267.out | apply IsS125.alloc | apply IsS125.drewN | apply IsS125.drew | apply IsS125.set_0 | apply IsS125.set_1 | apply IsS125.set_2) | exact HI267.out)); (case side2 => repeat (first | (with_reducible first | exact HB.out | apply below_alloc | apply pw_below_drewN | apply below_drew1 | refine below_set ?_ (IsS125.ge HI267.out)) | exact HB.out)); rintro e w40 ⟨rfl, hi, hb, hk⟩; refine ⟨_, rfl, ?_⟩; replace HO_5 := am (Kd.S_mono (Kd.S_keep (IsS125.apartS (show IsS125 w _ g267 x268000_1 x268001_1 x268002_1 from by repeat (first | (with_reducible first | exact HI267.out | apply IsS125.alloc | apply IsS125.drewN | apply IsS125.drew | apply IsS125.set_0 | apply IsS125.set_1 | apply IsS125.set_2) | exact HI267.out)) (kS HO_5.out) (by decide)) hk (fun _ h => h.2)) (fun _ h => h.1)); replace HB := am (hb); replace HI267 := am (hi); (try clear hb); (try clear hk); (try clear hi); obtain ⟨Ao41, co41, eo41⟩ := Kd.S_slice HO_5.out; subst eo41) | (go_at_call 29; (with_reducible refine (parts_right.calls k1 _ _ x5_1 true _ ?side1 ?side2 A38.out).mono ?_); (case side1 => repeat (first | exact (Kd.S_reads' HO_5.out).2.2 | (with_reducible refine Kd.C_alloc ?_ _) | (with_reducible refine Kd.C_drewN ?_ _) | (with_reducible refine Kd.C_drew ?_))); (case side2 => exact (Kd.S_reads' HO_5.out).2.1); rintro e w42 ⟨rfl, hb⟩; replace HO_5 := am (Kd.S_below (kS HO_5.out) hb); replace HB := am (below_step (by repeat (first | (with_reducible first | exact HB.out | apply below_alloc | apply pw_below_drewN | apply below_drew1 | refine below_set ?_ (IsS125.ge HI267.out)) | exact HB.out)) hb); replace HI267 := am (IsS125.below (by repeat (first | (with_reducible first | exact HI267.out | apply IsS125.alloc | apply IsS125.drewN | apply IsS125.drew | apply IsS125.set_0 | apply IsS125.set_1 | apply IsS125.set_2) | exact HI267.out)) hb); (try clear hb)))
      go_ret2
      exact ⟨_, rf, kS HO_5.out, by repeat (first | (with_reducible first | exact HB.out | apply below_alloc | apply pw_below_drewN | apply below_drew1 | refine below_set ?_ (IsS125.ge HI267.out)) | exact HB.out)⟩
     ·
      replace c39 := Bool.eq_false_iff.mpr c39
      subst c39
      rw [if_neg (show ¬ (false = true) by decide)] at H
      simp only [Option.some.injEq, Prod.mk.injEq] at H
      obtain ⟨rfl, rfl⟩ := H
      go_wp2_with (first | ((with_reducible refine gate_callee (f := 55) rfl ?_); refine goesL_ (some 47) rfl rfl Tryd.func55 (by kernel_rfl) rfl #[.pointer (some ⟨g267, 0, none⟩)] rfl gl ?_; (with_reducible refine (octet_Reader_End.calls g267 x268000_1 x268001_1 x268002_1 t301 t302 t303 t304 w _ ?side1 ?side2 A36.out).mono ?_); (case side1 => repeat (first | (with_reducible first | exact HI267.out | apply IsS125.alloc | apply IsS125.drewN | apply IsS125.drew | apply IsS125.set_0 | apply IsS125.set_1 | apply IsS125.set_2) | exact HI267.out)); (case side2 => repeat (first | (with_reducible first | exact HB.out | apply below_alloc | apply pw_below_drewN | apply below_drew1 | refine below_set ?_ (IsS125.ge HI267.out)) | exact HB.out)); rintro e w43 ⟨rfl, hi, hb, hk⟩; refine ⟨_, rfl, ?_⟩; replace HO_5 := am (Kd.S_mono (Kd.S_keep (IsS125.apartS (show IsS125 w _ g267 x268000_1 x268001_1 x268002_1 from by repeat (first | (with_reducible first | exact HI267.out | apply IsS125.alloc | apply IsS125.drewN | apply IsS125.drew | apply IsS125.set_0 | apply IsS125.set_1 | apply IsS125.set_2) | exact HI267.out)) (kS HO_5.out) (by decide)) hk (fun _ h => h.2)) (fun _ h => h.1)); replace HB := am (hb); replace HI267 := am (hi); (try clear hb); (try clear hk); (try clear hi); obtain ⟨Ao44, co44, eo44⟩ := Kd.S_slice HO_5.out; subst eo44) | (go_at_call 29; (with_reducible refine (parts_right.calls k1 _ _ x5_1 false _ ?side1 ?side2 A38.out).mono ?_); (case side1 => repeat (first | exact (Kd.S_reads' HO_5.out).2.2 | (with_reducible refine Kd.C_alloc ?_ _) | (with_reducible refine Kd.C_drewN ?_ _) | (with_reducible refine Kd.C_drew ?_))); (case side2 => exact (Kd.S_reads' HO_5.out).2.1); rintro e w45 ⟨rfl, hb⟩; replace HO_5 := am (Kd.S_below (kS HO_5.out) hb); replace HB := am (below_step (by repeat (first | (with_reducible first | exact HB.out | apply below_alloc | apply pw_below_drewN | apply below_drew1 | refine below_set ?_ (IsS125.ge HI267.out)) | exact HB.out)) hb); replace HI267 := am (IsS125.below (by repeat (first | (with_reducible first | exact HI267.out | apply IsS125.alloc | apply IsS125.drewN | apply IsS125.drew | apply IsS125.set_0 | apply IsS125.set_1 | apply IsS125.set_2) | exact HI267.out)) hb); (try clear hb)))
      go_ret2
      exact ⟨_, rf, niS, by repeat (first | (with_reducible first | exact HB.out | apply below_alloc | apply pw_below_drewN | apply below_drew1 | refine below_set ?_ (IsS125.ge HI267.out)) | exact HB.out)⟩
    ·
     rw [if_neg c37] at H
     have c37b0 := beq_eq_false_iff_ne.mpr c37
     have c37b1 := bne_iff_ne.mpr c37
     simp only [Option.some.injEq, Prod.mk.injEq] at H
     obtain ⟨rfl, rfl⟩ := H
     go_wp2_with (first | ((with_reducible refine gate_callee (f := 55) rfl ?_); refine goesL_ (some 47) rfl rfl Tryd.func55 (by kernel_rfl) rfl #[.pointer (some ⟨g267, 0, none⟩)] rfl gl ?_; (with_reducible refine (octet_Reader_End.calls g267 x268000_1 x268001_1 x268002_1 t301 t302 t303 t304 w _ ?side1 ?side2 A36.out).mono ?_); (case side1 => repeat (first | (with_reducible first | exact HI267.out | apply IsS125.alloc | apply IsS125.drewN | apply IsS125.drew | apply IsS125.set_0 | apply IsS125.set_1 | apply IsS125.set_2) | exact HI267.out)); (case side2 => repeat (first | (with_reducible first | exact HB.out | apply below_alloc | apply pw_below_drewN | apply below_drew1 | refine below_set ?_ (IsS125.ge HI267.out)) | exact HB.out)); rintro e w46 ⟨rfl, hi, hb, hk⟩; refine ⟨_, rfl, ?_⟩; replace HO_5 := am (Kd.S_mono (Kd.S_keep (IsS125.apartS (show IsS125 w _ g267 x268000_1 x268001_1 x268002_1 from by repeat (first | (with_reducible first | exact HI267.out | apply IsS125.alloc | apply IsS125.drewN | apply IsS125.drew | apply IsS125.set_0 | apply IsS125.set_1 | apply IsS125.set_2) | exact HI267.out)) (kS HO_5.out) (by decide)) hk (fun _ h => h.2)) (fun _ h => h.1)); replace HB := am (hb); replace HI267 := am (hi); (try clear hb); (try clear hk); (try clear hi)))
     go_ret2
     exact ⟨_, rf, niS, by repeat (first | (with_reducible first | exact HB.out | apply below_alloc | apply pw_below_drewN | apply below_drew1 | refine below_set ?_ (IsS125.ge HI267.out)) | exact HB.out)⟩

/-! ### stowagelaw14_PartsBack: function 8 -/
def stowagelaw14_PartsBack.j0 : Nat → ByteArray → Option (Bool)
 | 0, _ => none
 | k + 1, x1 => (parts_Decode.f k x1).bind fun bt319 => (if bt319.2 = 0 then ((parts_Encode.f k bt319.1).bind fun bt323 => ((stowagelaw14_awake.f k).bind fun t325 => (if t325 = true then (if bt323.2 = 0 then (some (bt323.1.toList == x1.toList)) else (some false)) else (some false)))) else ((stowagelaw14_awake.f k).bind fun t326 => (if t326 = true then (some ((bt319.1.length : Int) == 0)) else (some false))))
def stowagelaw14_PartsBack.f (k : Nat) (l0 : List (S46)) (a1 : ByteArray) : Option (Bool) := (parts_Encode.f k l0).bind fun bt306 => (if bt306.2 = 0 then ((parts_Decode.f k bt306.1).bind fun bt308 => (if bt308.2 = 0 then ((stowagelaw14_Refs.f k bt308.1).bind fun t312 => ((stowagelaw14_Refs.f k l0).bind fun t315 => ((stowageref14_Same.f k t312 t315).bind fun t318 => (if t318 = true then (stowagelaw14_PartsBack.j0 k a1) else (some false))))) else (some false))) else (stowagelaw14_PartsBack.j0 k a1))
theorem stowagelaw14_PartsBack.mono_l : ∀ k, (∀ y0, LeO (stowagelaw14_PartsBack.j0 k y0) (stowagelaw14_PartsBack.j0 (k + 1) y0))
 | 0 => fun _ r h => by simp [stowagelaw14_PartsBack.j0] at h
 | k + 1 => by
  have ih0 := stowagelaw14_PartsBack.mono_l k
  ·
   intro y0
   unfold stowagelaw14_PartsBack.j0
   repeat' (with_reducible first | exact ih0 _ | exact parts_Decode.mono _ _ | exact parts_Encode.mono _ _ | exact stowagelaw14_Refs.mono _ _ | exact stowagelaw14_awake.mono _ | exact stowageref14_Same.mono _ _ _ | exact LeO.refl _ | exact LeO.none _ | refine LeO.ite ?_ ?_ | refine LeO.bind ?_ (fun _ => ?_))
theorem stowagelaw14_PartsBack.mono : ∀ a0 a1 k, LeO (stowagelaw14_PartsBack.f k a0 a1) (stowagelaw14_PartsBack.f (k + 1) a0 a1) := by
 intro a0 a1 k
 have ih0 := stowagelaw14_PartsBack.mono_l k
 unfold stowagelaw14_PartsBack.f
 repeat' (with_reducible first | exact ih0 _ | exact parts_Decode.mono _ _ | exact parts_Encode.mono _ _ | exact stowagelaw14_Refs.mono _ _ | exact stowagelaw14_awake.mono _ | exact stowageref14_Same.mono _ _ _ | exact LeO.refl _ | exact LeO.none _ | refine LeO.ite ?_ ?_ | refine LeO.bind ?_ (fun _ => ?_))
set_option maxHeartbeats 8000000 in
set_option maxRecDepth 100000 in
theorem stowagelaw14_PartsBack.calls (k : Nat) (A0 : Option Addr) (c0 : Nat) (l0 : List (S46)) (a1 : ByteArray) (r : Bool) (w : World) (hr0 : Kd.C k46 w A0 l0.length l0) (hc0 : l0.length ≤ c0) (h : stowagelaw14_PartsBack.f k l0 a1 = some r) (hG : GG w) :
  Calls Tryd.prog 8 #[.slice A0 l0.length c0, .string a1] w fun e w' => e = .returned (.bool r) ∧ Below w.heap.size w w' := by
 have HG := am hG
 clear hG
 have HR0 := am hr0
 have HC0 := am hc0
 clear hr0 hc0
 have HB := am (Below.refl w.heap.size w)
 have H := h
 clear h
 unfold stowagelaw14_PartsBack.f at H
 obtain ⟨⟨t306, t307⟩, A3, H⟩ := obE H
 try dsimp only at H
 have HC4 := am H
 clear H
 go_enter Tryd.func8, Tryd.ntmps8
 go_upto_if 19 with (first | ((with_reducible refine gate_callee (f := 25) rfl ?_); refine goesL_ (some 15) rfl rfl Tryd.func25 (by kernel_rfl) rfl #[.slice A0 l0.length c0] rfl gl ?_; (with_reducible refine (parts_Encode.calls k _ _ l0 t306 t307 _ ?side1 ?side2 A3.out).mono ?_); (case side1 => exact kC HR0.out); (case side2 => exact HC0.out); rintro e w5 ⟨rfl, hb⟩; refine ⟨_, rfl, ?_⟩; replace HB := am (below_step (bw HB.out) hb); (try clear hb)))
 (try simp only [Act.put, List.setIfInBounds_toArray, List.set_cons_zero, List.set_cons_succ])
 go_cut [] (fun wc => ∃ (kq : Nat), Aside0 (stowagelaw14_PartsBack.j0 kq a1 = some r) ∧ Aside0 (kq ≤ k) ∧ Aside0 (Below w.heap.size w wc))
 case first =>
  have H := HC4.out
  clear HC4
  by_cases c6 : t307 = 0
  ·
   rw [if_pos c6] at H
   have c6b0 := beq_iff_eq.mpr c6
   have c6b1 := bne_eq_false_iff_eq.mpr c6
   clear c6
   (first | rw [c6b0] | (simp only [i64_w, i32_w]; rw [c6b0]) | skip)
   obtain ⟨⟨t308, t309⟩, A7, H⟩ := obE H
   try dsimp only at H
   by_cases c8 : t309 = 0
   ·
    rw [if_pos c8] at H
    have c8b0 := beq_iff_eq.mpr c8
    have c8b1 := bne_eq_false_iff_eq.mpr c8
    clear c8
    obtain ⟨t312, A9, H⟩ := obE H
    obtain ⟨t315, A10, H⟩ := obE H
    obtain ⟨t318, A11, H⟩ := obE H
    by_cases c12 : t318 = true
    ·
     subst c12
     rw [if_pos rfl] at H
     have H' := am H
     clear H
     go_wp2_with (first | ((with_reducible refine gate_callee (f := 27) rfl ?_); refine goesL_ (some 22) rfl rfl Tryd.func27 (by kernel_rfl) rfl #[.string t306] rfl gl ?_; (with_reducible refine (parts_Decode.calls k t306 t308 t309 _ A7.out).mono ?_); rintro e w13 ⟨v310, rfl, ho0, hb⟩; refine ⟨_, rfl, ?_⟩; have HO311 := am (Kd.S_lower ho0 (below_size (bw HB.out))); replace HB := am (below_step (bw HB.out) hb); (try clear hb); (try clear ho0); obtain ⟨Ao14, co14, eo14⟩ := Kd.S_slice HO311.out; subst eo14) | (go_at_call 11; (with_reducible refine (stowagelaw14_Refs.calls k _ _ t308 t312 _ ?side1 ?side2 A9.out).mono ?_); (case side1 => repeat (first | exact (Kd.S_reads' HO311.out).2.2 | (with_reducible refine Kd.C_alloc ?_ _) | (with_reducible refine Kd.C_drewN ?_ _) | (with_reducible refine Kd.C_drew ?_))); (case side2 => exact (Kd.S_reads' HO311.out).2.1); rintro e w15 ⟨v313, rfl, ho0, hb⟩; replace HO311 := am (Kd.S_below (kS HO311.out) hb); have HO314 := am (Kd.S_lower ho0 (below_size (bw HB.out))); replace HB := am (below_step (bw HB.out) hb); (try clear hb); (try clear ho0); clear A9) | (go_at_call 11; (with_reducible refine (stowagelaw14_Refs.calls k _ _ l0 t315 _ ?side1 ?side2 A10.out).mono ?_); (case side1 => exact kC (Kd.C_below HR0.out HB.out)); (case side2 => exact HC0.out); rintro e w16 ⟨v316, rfl, ho0, hb⟩; have HO317 := am (Kd.S_lower (Kd.S_new' ho0 (Kd.S_lt (kS HO314.out))) (below_size (bw HB.out))); replace HO311 := am (Kd.S_below (kS HO311.out) hb); replace HO314 := am (Kd.S_elder' (kS HO314.out) (Kd.S_base ho0) hb); replace HB := am (below_step (bw HB.out) hb); (try clear hb); (try clear ho0); obtain ⟨Ao17, co17, eo17⟩ := Kd.S_slice HO314.out; subst eo17; obtain ⟨Ao18, co18, eo18⟩ := Kd.S_slice HO317.out; subst eo18; clear A10) | (go_at_call 17; (with_reducible refine (stowageref14_Same.calls k _ _ t312 _ _ t315 true _ ?side1 ?side2 ?side3 ?side4 A11.out).mono ?_); (case side1 => repeat (first | exact (Kd.S_reads' HO314.out).2.2 | (with_reducible refine Kd.C_alloc ?_ _) | (with_reducible refine Kd.C_drewN ?_ _) | (with_reducible refine Kd.C_drew ?_))); (case side2 => exact (Kd.S_reads' HO314.out).2.1); (case side3 => repeat (first | exact (Kd.S_reads' HO317.out).2.2 | (with_reducible refine Kd.C_alloc ?_ _) | (with_reducible refine Kd.C_drewN ?_ _) | (with_reducible refine Kd.C_drew ?_))); (case side4 => exact (Kd.S_reads' HO317.out).2.1); rintro e w19 ⟨rfl, hb⟩; replace HO311 := am (Kd.S_below (kS HO311.out) hb); replace HO314 := am (Kd.S_below (kS HO314.out) hb); replace HO317 := am (Kd.S_below (kS HO317.out) hb); replace HB := am (below_step (bw HB.out) hb); (try clear hb)))
     go_meet
     case rel => exact ⟨_, H', ⟨om⟩, ⟨bw HB.out⟩⟩
    ·
     replace c12 := Bool.eq_false_iff.mpr c12
     subst c12
     rw [if_neg (show ¬ (false = true) by decide)] at H
     obtain rfl := Option.some.inj H
     go_wp2_with (first | ((with_reducible refine gate_callee (f := 27) rfl ?_); refine goesL_ (some 22) rfl rfl Tryd.func27 (by kernel_rfl) rfl #[.string t306] rfl gl ?_; (with_reducible refine (parts_Decode.calls k t306 t308 t309 _ A7.out).mono ?_); rintro e w20 ⟨v310, rfl, ho0, hb⟩; refine ⟨_, rfl, ?_⟩; have HO311 := am (Kd.S_lower ho0 (below_size (bw HB.out))); replace HB := am (below_step (bw HB.out) hb); (try clear hb); (try clear ho0); obtain ⟨Ao21, co21, eo21⟩ := Kd.S_slice HO311.out; subst eo21) | (go_at_call 11; (with_reducible refine (stowagelaw14_Refs.calls k _ _ t308 t312 _ ?side1 ?side2 A9.out).mono ?_); (case side1 => repeat (first | exact (Kd.S_reads' HO311.out).2.2 | (with_reducible refine Kd.C_alloc ?_ _) | (with_reducible refine Kd.C_drewN ?_ _) | (with_reducible refine Kd.C_drew ?_))); (case side2 => exact (Kd.S_reads' HO311.out).2.1); rintro e w22 ⟨v313, rfl, ho0, hb⟩; replace HO311 := am (Kd.S_below (kS HO311.out) hb); have HO314 := am (Kd.S_lower ho0 (below_size (bw HB.out))); replace HB := am (below_step (bw HB.out) hb); (try clear hb); (try clear ho0); clear A9) | (go_at_call 11; (with_reducible refine (stowagelaw14_Refs.calls k _ _ l0 t315 _ ?side1 ?side2 A10.out).mono ?_); (case side1 => exact kC (Kd.C_below HR0.out HB.out)); (case side2 => exact HC0.out); rintro e w23 ⟨v316, rfl, ho0, hb⟩; have HO317 := am (Kd.S_lower (Kd.S_new' ho0 (Kd.S_lt (kS HO314.out))) (below_size (bw HB.out))); replace HO311 := am (Kd.S_below (kS HO311.out) hb); replace HO314 := am (Kd.S_elder' (kS HO314.out) (Kd.S_base ho0) hb); replace HB := am (below_step (bw HB.out) hb); (try clear hb); (try clear ho0); obtain ⟨Ao24, co24, eo24⟩ := Kd.S_slice HO314.out; subst eo24; obtain ⟨Ao25, co25, eo25⟩ := Kd.S_slice HO317.out; subst eo25; clear A10) | (go_at_call 17; (with_reducible refine (stowageref14_Same.calls k _ _ t312 _ _ t315 false _ ?side1 ?side2 ?side3 ?side4 A11.out).mono ?_); (case side1 => repeat (first | exact (Kd.S_reads' HO314.out).2.2 | (with_reducible refine Kd.C_alloc ?_ _) | (with_reducible refine Kd.C_drewN ?_ _) | (with_reducible refine Kd.C_drew ?_))); (case side2 => exact (Kd.S_reads' HO314.out).2.1); (case side3 => repeat (first | exact (Kd.S_reads' HO317.out).2.2 | (with_reducible refine Kd.C_alloc ?_ _) | (with_reducible refine Kd.C_drewN ?_ _) | (with_reducible refine Kd.C_drew ?_))); (case side4 => exact (Kd.S_reads' HO317.out).2.1); rintro e w26 ⟨rfl, hb⟩; replace HO311 := am (Kd.S_below (kS HO311.out) hb); replace HO314 := am (Kd.S_below (kS HO314.out) hb); replace HO317 := am (Kd.S_below (kS HO317.out) hb); replace HB := am (below_step (bw HB.out) hb); (try clear hb)))
     go_ret
     exact ⟨rf, bw HB.out⟩
   ·
    rw [if_neg c8] at H
    have c8b0 := beq_eq_false_iff_ne.mpr c8
    have c8b1 := bne_iff_ne.mpr c8
    obtain rfl := Option.some.inj H
    go_wp2_with (first | ((with_reducible refine gate_callee (f := 27) rfl ?_); refine goesL_ (some 22) rfl rfl Tryd.func27 (by kernel_rfl) rfl #[.string t306] rfl gl ?_; (with_reducible refine (parts_Decode.calls k t306 t308 t309 _ A7.out).mono ?_); rintro e w27 ⟨v310, rfl, ho0, hb⟩; refine ⟨_, rfl, ?_⟩; have HO311 := am (Kd.S_lower ho0 (below_size (bw HB.out))); replace HB := am (below_step (bw HB.out) hb); (try clear hb); (try clear ho0)))
    go_ret
    exact ⟨rf, bw HB.out⟩
  ·
   rw [if_neg c6] at H
   have c6b0 := beq_eq_false_iff_ne.mpr c6
   have c6b1 := bne_iff_ne.mpr c6
   (first | rw [c6b0] | (simp only [i64_w, i32_w]; rw [c6b0]) | skip)
   have H' := am H
   clear H
   go_wp2
   go_meet
   case rel => exact ⟨_, H', ⟨om⟩, ⟨bw HB.out⟩⟩
 case rest =>
  clear HC4
  try clear c1
  try clear c2
  try clear p2
  try clear c6
  try clear c6b0
  try clear c6b1
  try clear c8
  try clear c8b0
  try clear c8b1
  try clear c12
  try clear c25
  try clear c27
  obtain ⟨kq, HA, HJ3, HB⟩ := hcut
  cases kq with
  | zero => exact absurd HA.out (by simp [stowagelaw14_PartsBack.j0])
  | succ kj3 =>
   have H := HA.out
   clear HA
   simp only [stowagelaw14_PartsBack.j0] at H
   obtain ⟨⟨t319, t320⟩, A28, H⟩ := obE H
   try dsimp only at H
   by_cases c29 : t320 = 0
   ·
    rw [if_pos c29] at H
    have c29b0 := beq_iff_eq.mpr c29
    have c29b1 := bne_eq_false_iff_eq.mpr c29
    clear c29
    obtain ⟨⟨t323, t324⟩, A30, H⟩ := obE H
    try dsimp only at H
    obtain ⟨t325, A31, H⟩ := obE H
    by_cases c32 : t325 = true
    ·
     subst c32
     rw [if_pos rfl] at H
     by_cases c33 : t324 = 0
     ·
      rw [if_pos c33] at H
      have c33b0 := beq_iff_eq.mpr c33
      have c33b1 := bne_eq_false_iff_eq.mpr c33
      clear c33
      obtain rfl := Option.some.inj H
      go_wp2_with (first | ((with_reducible refine gate_callee (f := 27) rfl ?_); refine goesL_ (some 37) rfl rfl Tryd.func27 (by kernel_rfl) rfl #[.string a1] rfl gl ?_; (with_reducible refine (parts_Decode.calls kj3 a1 t319 t320 _ A28.out).mono ?_); rintro e w34 ⟨v321, rfl, ho0, hb⟩; refine ⟨_, rfl, ?_⟩; have HO322 := am (Kd.S_lower ho0 (below_size (bw HB.out))); replace HB := am (below_step (bw HB.out) hb); (try clear hb); (try clear ho0); obtain ⟨Ao35, co35, eo35⟩ := Kd.S_slice HO322.out; subst eo35) | ((with_reducible refine gate_callee (f := 25) rfl ?_); refine goesL_ (some 50) rfl rfl Tryd.func25 (by kernel_rfl) rfl #[.slice Ao35 t319.length co35] rfl gl ?_; (with_reducible refine (parts_Encode.calls kj3 _ _ t319 t323 t324 _ ?side1 ?side2 A30.out).mono ?_); (case side1 => repeat (first | exact (Kd.S_reads' HO322.out).2.2 | (with_reducible refine Kd.C_alloc ?_ _) | (with_reducible refine Kd.C_drewN ?_ _) | (with_reducible refine Kd.C_drew ?_))); (case side2 => exact (Kd.S_reads' HO322.out).2.1); rintro e w36 ⟨rfl, hb⟩; refine ⟨_, rfl, ?_⟩; replace HO322 := am (Kd.S_below (kS HO322.out) hb); replace HB := am (below_step (bw HB.out) hb); (try clear hb)) | ((with_reducible refine gate_callee (f := 13) rfl ?_); refine goesL_ (some 53) rfl rfl Tryd.func13 (by kernel_rfl) rfl #[] rfl gl ?_; (with_reducible refine (stowagelaw14_awake.calls kj3  true _ A31.out ?sideG).mono ?_); (case sideG => first | exact HG.out | exact gg_below HG.out (bw HB.out)); rintro e w37 ⟨rfl, hb⟩; refine ⟨_, rfl, ?_⟩; replace HO322 := am (Kd.S_below (kS HO322.out) hb); replace HB := am (below_step (bw HB.out) hb); (try clear hb)))
      go_ret
      exact ⟨rf, bw HB.out⟩
     ·
      rw [if_neg c33] at H
      have c33b0 := beq_eq_false_iff_ne.mpr c33
      have c33b1 := bne_iff_ne.mpr c33
      obtain rfl := Option.some.inj H
      go_wp2_with (first | ((with_reducible refine gate_callee (f := 27) rfl ?_); refine goesL_ (some 37) rfl rfl Tryd.func27 (by kernel_rfl) rfl #[.string a1] rfl gl ?_; (with_reducible refine (parts_Decode.calls kj3 a1 t319 t320 _ A28.out).mono ?_); rintro e w38 ⟨v321, rfl, ho0, hb⟩; refine ⟨_, rfl, ?_⟩; have HO322 := am (Kd.S_lower ho0 (below_size (bw HB.out))); replace HB := am (below_step (bw HB.out) hb); (try clear hb); (try clear ho0); obtain ⟨Ao39, co39, eo39⟩ := Kd.S_slice HO322.out; subst eo39) | ((with_reducible refine gate_callee (f := 25) rfl ?_); refine goesL_ (some 50) rfl rfl Tryd.func25 (by kernel_rfl) rfl #[.slice Ao39 t319.length co39] rfl gl ?_; (with_reducible refine (parts_Encode.calls kj3 _ _ t319 t323 t324 _ ?side1 ?side2 A30.out).mono ?_); (case side1 => repeat (first | exact (Kd.S_reads' HO322.out).2.2 | (with_reducible refine Kd.C_alloc ?_ _) | (with_reducible refine Kd.C_drewN ?_ _) | (with_reducible refine Kd.C_drew ?_))); (case side2 => exact (Kd.S_reads' HO322.out).2.1); rintro e w40 ⟨rfl, hb⟩; refine ⟨_, rfl, ?_⟩; replace HO322 := am (Kd.S_below (kS HO322.out) hb); replace HB := am (below_step (bw HB.out) hb); (try clear hb)) | ((with_reducible refine gate_callee (f := 13) rfl ?_); refine goesL_ (some 53) rfl rfl Tryd.func13 (by kernel_rfl) rfl #[] rfl gl ?_; (with_reducible refine (stowagelaw14_awake.calls kj3  true _ A31.out ?sideG).mono ?_); (case sideG => first | exact HG.out | exact gg_below HG.out (bw HB.out)); rintro e w41 ⟨rfl, hb⟩; refine ⟨_, rfl, ?_⟩; replace HO322 := am (Kd.S_below (kS HO322.out) hb); replace HB := am (below_step (bw HB.out) hb); (try clear hb)))
      go_ret
      exact ⟨rf, bw HB.out⟩
    ·
     replace c32 := Bool.eq_false_iff.mpr c32
     subst c32
     rw [if_neg (show ¬ (false = true) by decide)] at H
     obtain rfl := Option.some.inj H
     go_wp2_with (first | ((with_reducible refine gate_callee (f := 27) rfl ?_); refine goesL_ (some 37) rfl rfl Tryd.func27 (by kernel_rfl) rfl #[.string a1] rfl gl ?_; (with_reducible refine (parts_Decode.calls kj3 a1 t319 t320 _ A28.out).mono ?_); rintro e w42 ⟨v321, rfl, ho0, hb⟩; refine ⟨_, rfl, ?_⟩; have HO322 := am (Kd.S_lower ho0 (below_size (bw HB.out))); replace HB := am (below_step (bw HB.out) hb); (try clear hb); (try clear ho0); obtain ⟨Ao43, co43, eo43⟩ := Kd.S_slice HO322.out; subst eo43) | ((with_reducible refine gate_callee (f := 25) rfl ?_); refine goesL_ (some 50) rfl rfl Tryd.func25 (by kernel_rfl) rfl #[.slice Ao43 t319.length co43] rfl gl ?_; (with_reducible refine (parts_Encode.calls kj3 _ _ t319 t323 t324 _ ?side1 ?side2 A30.out).mono ?_); (case side1 => repeat (first | exact (Kd.S_reads' HO322.out).2.2 | (with_reducible refine Kd.C_alloc ?_ _) | (with_reducible refine Kd.C_drewN ?_ _) | (with_reducible refine Kd.C_drew ?_))); (case side2 => exact (Kd.S_reads' HO322.out).2.1); rintro e w44 ⟨rfl, hb⟩; refine ⟨_, rfl, ?_⟩; replace HO322 := am (Kd.S_below (kS HO322.out) hb); replace HB := am (below_step (bw HB.out) hb); (try clear hb)) | ((with_reducible refine gate_callee (f := 13) rfl ?_); refine goesL_ (some 53) rfl rfl Tryd.func13 (by kernel_rfl) rfl #[] rfl gl ?_; (with_reducible refine (stowagelaw14_awake.calls kj3  false _ A31.out ?sideG).mono ?_); (case sideG => first | exact HG.out | exact gg_below HG.out (bw HB.out)); rintro e w45 ⟨rfl, hb⟩; refine ⟨_, rfl, ?_⟩; replace HO322 := am (Kd.S_below (kS HO322.out) hb); replace HB := am (below_step (bw HB.out) hb); (try clear hb)))
     go_ret
     exact ⟨rf, bw HB.out⟩
   ·
    rw [if_neg c29] at H
    have c29b0 := beq_eq_false_iff_ne.mpr c29
    have c29b1 := bne_iff_ne.mpr c29
    obtain ⟨t326, A46, H⟩ := obE H
    by_cases c47 : t326 = true
    ·
     subst c47
     rw [if_pos rfl] at H
     obtain rfl := Option.some.inj H
     go_wp2_with (first | ((with_reducible refine gate_callee (f := 27) rfl ?_); refine goesL_ (some 37) rfl rfl Tryd.func27 (by kernel_rfl) rfl #[.string a1] rfl gl ?_; (with_reducible refine (parts_Decode.calls kj3 a1 t319 t320 _ A28.out).mono ?_); rintro e w48 ⟨v321, rfl, ho0, hb⟩; refine ⟨_, rfl, ?_⟩; have HO322 := am (Kd.S_lower ho0 (below_size (bw HB.out))); replace HB := am (below_step (bw HB.out) hb); (try clear hb); (try clear ho0)) | ((with_reducible refine gate_callee (f := 13) rfl ?_); refine goesL_ (some 42) rfl rfl Tryd.func13 (by kernel_rfl) rfl #[] rfl gl ?_; (with_reducible refine (stowagelaw14_awake.calls kj3  true _ A46.out ?sideG).mono ?_); (case sideG => first | exact HG.out | exact gg_below HG.out (bw HB.out)); rintro e w49 ⟨rfl, hb⟩; refine ⟨_, rfl, ?_⟩; replace HO322 := am (Kd.S_below (kS HO322.out) hb); replace HB := am (below_step (bw HB.out) hb); (try clear hb); obtain ⟨Ao50, co50, eo50⟩ := Kd.S_slice HO322.out; subst eo50))
     go_ret
     exact ⟨rf, bw HB.out⟩
    ·
     replace c47 := Bool.eq_false_iff.mpr c47
     subst c47
     rw [if_neg (show ¬ (false = true) by decide)] at H
     obtain rfl := Option.some.inj H
     go_wp2_with (first | ((with_reducible refine gate_callee (f := 27) rfl ?_); refine goesL_ (some 37) rfl rfl Tryd.func27 (by kernel_rfl) rfl #[.string a1] rfl gl ?_; (with_reducible refine (parts_Decode.calls kj3 a1 t319 t320 _ A28.out).mono ?_); rintro e w51 ⟨v321, rfl, ho0, hb⟩; refine ⟨_, rfl, ?_⟩; have HO322 := am (Kd.S_lower ho0 (below_size (bw HB.out))); replace HB := am (below_step (bw HB.out) hb); (try clear hb); (try clear ho0)) | ((with_reducible refine gate_callee (f := 13) rfl ?_); refine goesL_ (some 42) rfl rfl Tryd.func13 (by kernel_rfl) rfl #[] rfl gl ?_; (with_reducible refine (stowagelaw14_awake.calls kj3  false _ A46.out ?sideG).mono ?_); (case sideG => first | exact HG.out | exact gg_below HG.out (bw HB.out)); rintro e w52 ⟨rfl, hb⟩; refine ⟨_, rfl, ?_⟩; replace HO322 := am (Kd.S_below (kS HO322.out) hb); replace HB := am (below_step (bw HB.out) hb); (try clear hb)))
     go_ret
     exact ⟨rf, bw HB.out⟩

end Go.Proofs.YtoiockmmlanimaaDoor.Ok
end
section
/- Layer 14, the plain side: own copies, what is put, parts as the document has them. No program in sight. -/
namespace Go.Proofs.YtoiockmmlanimaaDoor.Pure
open Go.RowKit Go.Proofs.YtoiockmmlanimaaDoor.Ok Go.Proofs.YtoiockmmlanimaaDoorW.PrintWords Go.Proofs.YtoiockmmlanimaaDoorW.PrintLast Go.Proofs.YtoiockmmlanimaaDoorW.PrintMore
set_option linter.unusedVariables false
set_option linter.unusedSimpArgs false
/-! ### Own copies -/
theorem own_go (l : List Part) (hl : l.length ≤ 1048576) (hp : ∀ p ∈ l, p.f3.length ≤ 1048576) : ∀ n i k (acc : List Part), i + n = l.length → n < k → acc.length ≤ i → parts_own.l0 k acc l (l.length : Int) (i : Int) = some (acc ++ l.drop i) := by
  intro n
  induction n with
  | zero =>
    intro i k acc hi hk ha
    obtain ⟨k, rfl⟩ : ∃ j, k = j + 1 := ⟨k - 1, by omega⟩
    rw [parts_own.l0, if_neg (by omega), List.drop_of_length_le (by omega), List.append_nil]
  | succ n ih =>
    intro i k acc hi hk ha
    obtain ⟨k, rfl⟩ : ∃ j, k = j + 1 := ⟨k - 1, by omega⟩
    have hc : api_Piece.f (rdP l i).f3 = some (rdP l i).f3 := by
      unfold api_Piece.f
      rw [if_pos (by have := hp _ (memP l i (by omega)); omega)]
    rw [parts_own.l0, if_pos (by omega), if_pos (by omega), if_pos (by omega)]
    show (api_Piece.f (rdP l i).f3).bind _ = _
    rw [hc, Option.bind_some, if_pos (by omega), w1 i (by omega), ih (i + 1) k _ (by omega) (by omega) (by rw [List.length_append, List.length_singleton]; omega), dropP l i (by omega), List.append_assoc]
    rfl
theorem own_eq (l : List Part) (hl : l.length ≤ 1048576) (hp : ∀ p ∈ l, p.f3.length ≤ 1048576) (k : Nat) (hk : 1048577 ≤ k) : parts_own.f k l = some l := by
  unfold parts_own.f
  exact (own_go l hl hp l.length 0 k [] (by omega) (by omega) (Nat.le_refl _)).trans rfl
/-! ### The search, with the place -/
theorem rd_get (l : List Part) (q : Nat) (hq : q < l.length) : rdP l q = l[q] := by
  show l.getD (q : Int).toNat _ = _
  rw [Int.toNat_natCast, List.getD_eq_getElem?_getD, List.getElem?_eq_getElem hq]
  rfl
theorem find_at (l : List Part) (h : Good l) (t : Int) (h1 : 1 ≤ t) (h2 : t ≤ 100) : ∃ R, R ≤ l.length ∧ (∀ m, m < R → (rdP l m).f0 < t) ∧ (∀ m, R ≤ m → m < l.length → t ≤ (rdP l m).f0) ∧ parts_find.f l t = some ((R : Int), decide (R < l.length ∧ (rdP l R).f0 = t)) := by
  have hll := h.small.len
  obtain ⟨b1, b2, b3⟩ := bs_spec l h t h1 h2 l.length 0 l.length (Nat.zero_le _) (Nat.le_refl _) (Nat.le_refl _) (fun q hq => absurd hq (Nat.not_lt_zero _)) (fun q hq hq2 => absurd hq (by omega))
  obtain ⟨R, hR⟩ : ∃ R, parts_find_bs l t l.length 0 l.length = R := ⟨_, rfl⟩
  rw [hR] at b1 b2 b3
  refine ⟨R, b1, b2, b3, ?_⟩
  unfold parts_find.f
  rw [if_pos (by omega), hR]
  congr 2
  by_cases hl : R < l.length
  · have hc := chk_parts (h.chk _ (memP l R hl))
    rw [decide_eq_true hl, Bool.true_and]
    show (wrap64 ((rdP l R).f0 - t) == 0) = _
    rw [IntWalk.wrap64_in _ (by omega)]
    by_cases he : (rdP l R).f0 = t
    · rw [he, Int.sub_self, decide_eq_true ⟨hl, rfl⟩]
      rfl
    · rw [decide_eq_false (fun hh => he hh.2)]
      simp
      omega
  · rw [decide_eq_false hl, Bool.false_and, decide_eq_false (fun hh => hl hh.1)]
/-! ### What is put -/
def ins (l : List Part) (p : Part) : List Part := l.filter (fun q => decide (q.f0 < p.f0)) ++ p :: l.filter (fun q => decide (p.f0 < q.f0))
theorem rB_of : ∀ (l : List Part) (o : Option Int), (∀ p ∈ l, chk p = true) → l.Pairwise (fun x y => x.f0 < y.f0) → (∀ n, o = some n → ∀ p ∈ l, n < p.f0) → rB o l = true
  | [], _, _, _, _ => rfl
  | p :: r, o, h1, h2, h3 => by
    rw [List.pairwise_cons] at h2
    rw [rB, h1 p List.mem_cons_self, rB_of r (some p.f0) (fun q hq => h1 q (List.mem_cons_of_mem _ hq)) h2.2 (fun n hn q hq => by cases hn; exact h2.1 q hq)]
    cases o with
    | none => rfl
    | some n => simp [okN, h3 n rfl p List.mem_cons_self]
theorem Good.right {l : List Part} (h : Good l) : rB none l = true := rB_of l none h.chk h.asc (fun n hn => by cases hn)
theorem filter_lo (l : List Part) (t : Int) (R : Nat) (hR : R ≤ l.length) (b2 : ∀ m, m < R → (rdP l m).f0 < t) (b3 : ∀ m, R ≤ m → m < l.length → t ≤ (rdP l m).f0) : l.filter (fun q => decide (q.f0 < t)) = l.take R := by
  have e1 : (l.take R).filter (fun q => decide (q.f0 < t)) = l.take R := List.filter_eq_self.2 fun x hx => by
    obtain ⟨m, hm, e⟩ := List.getElem_of_mem hx
    rw [List.length_take] at hm
    rw [List.getElem_take, ← rd_get l m (by omega)] at e
    have := b2 m (by omega)
    rw [e] at this
    exact decide_eq_true this
  have e2 : (l.drop R).filter (fun q => decide (q.f0 < t)) = [] := List.filter_eq_nil_iff.2 fun x hx => by
    obtain ⟨m, hm, e⟩ := List.getElem_of_mem hx
    rw [List.length_drop] at hm
    rw [List.getElem_drop, ← rd_get l (R + m) (by omega)] at e
    have := b3 (R + m) (by omega) (by omega)
    rw [e] at this
    simp
    exact this
  conv => lhs; rw [← List.take_append_drop R l]
  rw [List.filter_append, e1, e2, List.append_nil]
theorem filter_hi (l : List Part) (t : Int) (R : Nat) (hR : R ≤ l.length) (b2 : ∀ m, m < R → (rdP l m).f0 ≤ t) (b3 : ∀ m, R ≤ m → m < l.length → t < (rdP l m).f0) : l.filter (fun q => decide (t < q.f0)) = l.drop R := by
  have e1 : (l.take R).filter (fun q => decide (t < q.f0)) = [] := List.filter_eq_nil_iff.2 fun x hx => by
    obtain ⟨m, hm, e⟩ := List.getElem_of_mem hx
    rw [List.length_take] at hm
    rw [List.getElem_take, ← rd_get l m (by omega)] at e
    have := b2 m (by omega)
    rw [e] at this
    simp
    exact this
  have e2 : (l.drop R).filter (fun q => decide (t < q.f0)) = l.drop R := List.filter_eq_self.2 fun x hx => by
    obtain ⟨m, hm, e⟩ := List.getElem_of_mem hx
    rw [List.length_drop] at hm
    rw [List.getElem_drop, ← rd_get l (R + m) (by omega)] at e
    have := b3 (R + m) (by omega) (by omega)
    rw [e] at this
    exact decide_eq_true this
  conv => lhs; rw [← List.take_append_drop R l]
  rw [List.filter_append, e1, e2, List.nil_append]
theorem put_eq (l : List Part) (h : Good l) (hl : l.length ≤ 100000) (p : Part) (hp : SmallPart p) (hc : chk p = true) (k : Nat) (hk : 2300000 ≤ k) : parts_Put.f k l p.f0 p.f1 p.f2 p.f3 = some (ins l p, 0) := by
  have hcp := chk_parts hc
  obtain ⟨R, b1, b2, b3, hf⟩ := find_at l h p.f0 hcp.1 hcp.2.1
  unfold parts_Put.f
  rw [right_eq l h.small k (by omega), h.right, Option.bind_some, if_pos rfl, check_eq p hp k (by omega), hc, if_pos rfl, Option.bind_some, if_pos rfl,
    own_eq l h.small.len (fun q hq => (h.small.each q hq).len) k (by omega), Option.bind_some, own_eq [(⟨p.f0, p.f1, p.f2, p.f3⟩ : Part)] (by show (1 : Nat) ≤ 1048576; decide) (fun q hq => by
      rw [List.mem_singleton] at hq
      subst hq
      exact hp.len) k (by omega), Option.bind_some, if_pos (show 0 < [(⟨p.f0, p.f1, p.f2, p.f3⟩ : Part)].length from Nat.zero_lt_one), hf, Option.bind_some]
  show parts_Put_put l p (R : Int) (decide (R < l.length ∧ (rdP l R).f0 = p.f0)) = _
  unfold parts_Put_put ins
  by_cases hr : R < l.length ∧ (rdP l R).f0 = p.f0
  · obtain ⟨h1, h2⟩ := hr
    rw [decide_eq_true ⟨h1, h2⟩, if_pos rfl, if_pos (by omega), Int.toNat_natCast, filter_lo l p.f0 R b1 b2 b3, filter_hi l p.f0 (R + 1) (by omega) (fun m hm => by
      rcases Nat.lt_or_ge m R with h3 | h3
      · have := b2 m h3; omega
      · obtain rfl : m = R := by omega
        omega) (fun m hm hm2 => by have := h.lt R m (by omega) hm2; omega), List.set_eq_take_append_cons_drop, if_pos h1]
  · have h3 : ∀ m, R ≤ m → m < l.length → p.f0 < (rdP l m).f0 := fun m hm hm2 => by
      have h4 := b3 m hm hm2
      by_cases he : (rdP l m).f0 = p.f0
      · rcases Nat.eq_or_lt_of_le hm with rfl | hlt
        · exact absurd ⟨hm2, he⟩ hr
        · have := h.lt R m hlt hm2
          have := b3 R (Nat.le_refl _) (by omega)
          omega
      · omega
    rw [decide_eq_false hr, if_neg (by decide), if_pos (by omega), Int.toNat_natCast, filter_lo l p.f0 R b1 b2 b3, filter_hi l p.f0 R b1 (fun m hm => by have := b2 m hm; omega) h3]
theorem put_no (l : List Part) (h : Good l) (p : Part) (hp : SmallPart p) (hc : chk p = false) (k : Nat) (hk : 2300000 ≤ k) : parts_Put.f k l p.f0 p.f1 p.f2 p.f3 = some ([], 1) := by
  unfold parts_Put.f
  rw [right_eq l h.small k (by omega), h.right, Option.bind_some, if_pos rfl, check_eq p hp k (by omega), hc, if_neg (by decide), Option.bind_some, if_neg (by decide)]
theorem mem_ins (l : List Part) (p x : Part) : x ∈ ins l p ↔ x = p ∨ (x ∈ l ∧ x.f0 ≠ p.f0) := by
  unfold ins
  rw [List.mem_append, List.mem_cons, List.mem_filter, List.mem_filter, decide_eq_true_eq, decide_eq_true_eq]
  constructor
  · rintro (⟨h1, h2⟩ | rfl | ⟨h1, h2⟩)
    · exact .inr ⟨h1, by omega⟩
    · exact .inl rfl
    · exact .inr ⟨h1, by omega⟩
  · rintro (rfl | ⟨h1, h2⟩)
    · exact .inr (.inl rfl)
    · rcases Int.lt_or_gt_of_ne h2 with h3 | h3
      · exact .inl ⟨h1, h3⟩
      · exact .inr (.inr ⟨h1, h3⟩)
theorem two_filters (t : Int) : ∀ l : List Part, (l.filter (fun q => decide (q.f0 < t))).length + (l.filter (fun q => decide (t < q.f0))).length ≤ l.length
  | [] => Nat.le_refl _
  | p :: l => by
    have := two_filters t l
    rw [List.filter_cons, List.filter_cons, List.length_cons]
    by_cases h1 : p.f0 < t
    · rw [if_pos (decide_eq_true h1), if_neg (by simp; omega), List.length_cons]; omega
    · rw [if_neg (by simpa using h1)]
      split
      · rw [List.length_cons]; omega
      · omega
theorem len_ins (l : List Part) (p : Part) : (ins l p).length ≤ l.length + 1 := by
  have := two_filters p.f0 l
  unfold ins
  rw [List.length_append, List.length_cons]
  omega
theorem good_ins (l : List Part) (h : Good l) (hl : l.length ≤ 100000) (p : Part) (hp : SmallPart p) (hc : chk p = true) : Good (ins l p) := by
  have hlen := len_ins l p
  refine ⟨⟨by omega, fun x hx => ?_⟩, fun x hx => ?_, ?_⟩
  · rcases (mem_ins l p x).1 hx with rfl | h1
    · exact hp
    · exact h.small.each x h1.1
  · rcases (mem_ins l p x).1 hx with rfl | h1
    · exact hc
    · exact h.chk x h1.1
  · unfold ins
    rw [List.pairwise_append, List.pairwise_cons]
    refine ⟨h.asc.filter _, ⟨fun x hx => ?_, h.asc.filter _⟩, fun x hx y hy => ?_⟩
    · simpa using (List.mem_filter.1 hx).2
    · have h1 : x.f0 < p.f0 := by simpa using (List.mem_filter.1 hx).2
      rcases List.mem_cons.1 hy with rfl | hy
      · exact h1
      · have h2 : p.f0 < y.f0 := by simpa using (List.mem_filter.1 hy).2
        omega
theorem good_nil : Good ([] : List Part) := ⟨⟨by decide, fun x hx => (by cases hx)⟩, fun x hx => (by cases hx), List.Pairwise.nil⟩
/-! ### Parts as the document has them -/
abbrev RPiece := S85
abbrev RPart := S52
def refC (c : Piece) : RPiece := ⟨c.f0, c.f1⟩
def refP (p : Part) : RPart := ⟨p.f0, p.f1, p.f2, p.f3.map refC⟩
theorem piece_go (l : List Piece) (hl : l.length ≤ 1048576) : ∀ n i k (acc : List RPiece), i + n = l.length → n < k → acc.length ≤ i → stowagelaw13_Piece.l0 k l acc (i : Int) = some (acc ++ (l.drop i).map refC) := by
  intro n
  induction n with
  | zero =>
    intro i k acc hi hk ha
    obtain ⟨k, rfl⟩ : ∃ j, k = j + 1 := ⟨k - 1, by omega⟩
    rw [stowagelaw13_Piece.l0, if_neg (by omega), List.drop_of_length_le (by omega), List.map_nil, List.append_nil]
  | succ n ih =>
    intro i k acc hi hk ha
    obtain ⟨k, rfl⟩ : ∃ j, k = j + 1 := ⟨k - 1, by omega⟩
    rw [stowagelaw13_Piece.l0, if_pos (by omega), if_pos (by omega), if_pos (by omega), w1 i (by omega), ih (i + 1) k _ (by omega) (by omega) (by rw [List.length_append, List.length_singleton]; omega), dropC l i (by omega), List.map_cons, List.append_assoc]
    rfl
theorem piece_eq (l : List Piece) (hl : l.length ≤ 1048576) (k : Nat) (hk : 1048577 ≤ k) : stowagelaw13_Piece.f k l = some (l.map refC) := by
  unfold stowagelaw13_Piece.f
  exact (piece_go l hl l.length 0 k [] (by omega) (by omega) (Nat.le_refl _)).trans rfl
theorem refs_go (l : List Part) (hl : l.length ≤ 1048576) (hp : ∀ p ∈ l, p.f3.length ≤ 1048576) : ∀ n i k (acc : List RPart), i + n = l.length → n + 1048577 < k → acc.length ≤ i → stowagelaw14_Refs.l0 k l acc (i : Int) = some (acc ++ (l.drop i).map refP) := by
  intro n
  induction n with
  | zero =>
    intro i k acc hi hk ha
    obtain ⟨k, rfl⟩ : ∃ j, k = j + 1 := ⟨k - 1, by omega⟩
    rw [stowagelaw14_Refs.l0, if_neg (by omega), List.drop_of_length_le (by omega), List.map_nil, List.append_nil]
  | succ n ih =>
    intro i k acc hi hk ha
    obtain ⟨k, rfl⟩ : ∃ j, k = j + 1 := ⟨k - 1, by omega⟩
    rw [stowagelaw14_Refs.l0, if_pos (by omega), if_pos (by omega)]
    show (stowagelaw13_Piece.f k (rdP l i).f3).bind _ = _
    rw [piece_eq _ (hp _ (memP l i (by omega))) k (by omega), Option.bind_some, if_pos (by omega), w1 i (by omega), ih (i + 1) k _ (by omega) (by omega) (by rw [List.length_append, List.length_singleton]; omega), dropP l i (by omega), List.map_cons, List.append_assoc]
    rfl
theorem refs_eq (l : List Part) (hl : l.length ≤ 1048576) (hp : ∀ p ∈ l, p.f3.length ≤ 1048576) (k : Nat) (hk : 2200000 ≤ k) : stowagelaw14_Refs.f k l = some (l.map refP) := by
  unfold stowagelaw14_Refs.f
  exact (refs_go l hl hp l.length 0 k [] (by omega) (by omega) (Nat.le_refl _)).trans rfl
/-! ### The same is the same -/
theorem same13_go (a : Int) (b : Bool) (c : Int) (s : ByteArray) (l : List RPiece) (hl : l.length ≤ 1048576) : ∀ n i k, i + n = l.length → n < k → stowageref13_Same.l0 k (i : Int) a b c s l a b c s l = some true := by
  intro n
  induction n with
  | zero =>
    intro i k hi hk
    obtain ⟨k, rfl⟩ : ∃ j, k = j + 1 := ⟨k - 1, by omega⟩
    rw [stowageref13_Same.l0, if_neg (by omega)]
  | succ n ih =>
    intro i k hi hk
    obtain ⟨k, rfl⟩ : ∃ j, k = j + 1 := ⟨k - 1, by omega⟩
    rw [stowageref13_Same.l0, if_pos (by omega), if_pos (by omega), if_pos (by omega), if_neg (by simp), w1 i (by omega)]
    exact ih (i + 1) k (by omega) (by omega)
theorem same13_eq (a : Int) (b : Bool) (c : Int) (s : ByteArray) (l : List RPiece) (hl : l.length ≤ 1048576) (k : Nat) (hk : 1048578 ≤ k) : stowageref13_Same.f k a b c s l a b c s l = some true := by
  obtain ⟨k, rfl⟩ : ∃ j, k = j + 1 := ⟨k - 1, by omega⟩
  rw [stowageref13_Same.f, if_pos rfl, if_neg (by simp), if_pos rfl, if_pos rfl, stowageref13_Same.j0, if_neg (by simp)]
  exact same13_go a b c s l hl l.length 0 k (by omega) (by omega)
end Go.Proofs.YtoiockmmlanimaaDoor.Pure
end
section
/- Layer 14, the plain side: the same parts, as the document has it. No program in sight. -/
namespace Go.Proofs.YtoiockmmlanimaaDoor.Pure
open Go.RowKit Go.Proofs.YtoiockmmlanimaaDoor.Ok Go.Proofs.YtoiockmmlanimaaDoorW.PrintWords Go.Proofs.YtoiockmmlanimaaDoorW.PrintLast Go.Proofs.YtoiockmmlanimaaDoorW.PrintMore
set_option linter.unusedVariables false
set_option linter.unusedSimpArgs false
theorem same_go (l : List RPart) (hl : l.length ≤ 1048576) (hp : ∀ p ∈ l, p.f3.length ≤ 1048576) : ∀ n i k, i + n = l.length → n + 1048578 < k → stowageref14_Same.l0 k l l (i : Int) = some true := by
  intro n
  induction n with
  | zero =>
    intro i k hi hk
    obtain ⟨k, rfl⟩ : ∃ j, k = j + 1 := ⟨k - 1, by omega⟩
    rw [stowageref14_Same.l0, if_neg (by omega)]
  | succ n ih =>
    intro i k hi hk
    obtain ⟨k, rfl⟩ : ∃ j, k = j + 1 := ⟨k - 1, by omega⟩
    have hm : rd_T52 l (i : Int) ∈ l := by
      have e : rd_T52 l (i : Int) = l[i]'(by omega) := by
        show l.getD (i : Int).toNat _ = _
        rw [Int.toNat_natCast, List.getD_eq_getElem?_getD, List.getElem?_eq_getElem (by omega)]
        rfl
      rw [e]
      exact List.getElem_mem _
    rw [stowageref14_Same.l0, if_pos (by omega), if_pos (by omega), if_pos (by omega), same13_eq _ _ _ _ _ (hp _ hm) k (by omega), Option.bind_some, if_pos rfl, w1 i (by omega)]
    exact ih (i + 1) k (by omega) (by omega)
theorem same_eq (l : List RPart) (hl : l.length ≤ 1048576) (hp : ∀ p ∈ l, p.f3.length ≤ 1048576) (k : Nat) (hk : 2200000 ≤ k) : stowageref14_Same.f k l l = some true := by
  rw [stowageref14_Same.f, if_pos rfl]
  exact same_go l hl hp l.length 0 k (by omega) (by omega)
end Go.Proofs.YtoiockmmlanimaaDoor.Pure
end
section
/- Layer 1, the plain side (turned from the token package's text): numbers, texts and readers, in the program and in the reference. No program in sight. -/
namespace Go.Proofs.YtoiockmmlanimaaDoor.Pure
open Go.RowKit Go.Proofs.YtoiockmmlanimaaDoor.Ok Go.Proofs.YtoiockmmlanimaaDoorW.PrintWords Go.Proofs.YtoiockmmlanimaaDoorW.PrintLast Go.Proofs.YtoiockmmlanimaaDoorW.PrintMore
set_option linter.unusedVariables false
set_option linter.unusedSimpArgs false
/-! ### Numbers, written -/
theorem bt_rng (s : ByteArray) (i : Int) : 0 ≤ bt s i ∧ bt s i ≤ 255 := by
  unfold bt
  split
  · rename_i h
    have := (s.get i.toNat h).toNat_lt
    constructor
    · omega
    · show ((s.get i.toNat h).toNat : Int) ≤ 255
      omega
  · omega
theorem or128 (m : Int) (h0 : 0 ≤ m) (h1 : m < 256) : Go.bits .or .u8 m 128 = m % 128 + 128 := by
  obtain ⟨n, rfl⟩ : ∃ n : Nat, m = (n : Int) := ⟨m.toNat, by omega⟩
  have h : ∀ n, n < 256 → Go.bits .or .u8 ((n : Nat) : Int) 128 = ((n : Nat) : Int) % 128 + 128 := by decide +kernel
  exact h n (by omega)
/-- A number's digits, the lowest first. -/
def nl : Nat → Int → List Int
  | 0, n => [n]
  | d + 1, n => if n < 128 then [n] else (n % 128 + 128) :: nl d (n / 128)
theorem nl_len : ∀ d n, (nl d n).length ≤ d + 1
  | 0, _ => by simp [nl]
  | d + 1, n => by
    rw [nl]
    split
    · simp
    · have := nl_len d (n / 128)
      simp only [List.length_cons]; omega
theorem sn_append (a b : List Int) : strOfNums (a ++ b) = strOfNums a ++ strOfNums b := by
  apply ByteArray.ext
  rw [ByteArray.data_append]
  simp [strOfNums]
theorem oct_num : ∀ (d k : Nat) (n : Int) (x3 : List Int), 0 ≤ n → n < 128 ^ (d + 1) → d < k → x3.length + d ≤ 100 → octet_Number.l0 k n x3 = some (strOfNums (x3 ++ nl d n)) := by
  intro d
  induction d with
  | zero =>
    intro k n x3 h0 h1 hk h3
    obtain ⟨k, rfl⟩ : ∃ j, k = j + 1 := ⟨k - 1, by omega⟩
    have h1' : n < 128 := by simpa using h1
    rw [octet_Number.l0, if_neg (by omega), if_pos (by omega), nl, Int.emod_eq_of_lt h0 (by omega)]
  | succ d ih =>
    intro k n x3 h0 h1 hk h3
    obtain ⟨k, rfl⟩ : ∃ j, k = j + 1 := ⟨k - 1, by omega⟩
    rw [octet_Number.l0, nl]
    by_cases h : n < 128
    · rw [if_neg (by omega), if_pos (by omega), if_pos h, Int.emod_eq_of_lt h0 (by omega)]
    · rw [if_pos (by omega), if_pos (by omega), if_neg h, or128 _ (by omega) (by omega), show n % 256 % 128 = n % 128 by omega, ih k (n / 128) _ (by omega) (Int.ediv_lt_of_lt_mul (by omega) (by rw [← Int.pow_succ]; exact h1)) (by omega) (by simp; omega), List.append_assoc]
      rfl
def num (n : Int) : ByteArray := strOfNums (nl 9 n)
theorem num_size (n : Int) : (num n).size ≤ 10 := by
  unfold num
  rw [strOfNums_size]
  exact nl_len 9 n
theorem oct_Number (n : Int) (h0 : 0 ≤ n) (h1 : n ≤ 18446744073709551615) (k : Nat) (hk : 10 ≤ k) : octet_Number.f k n = some (num n) := by
  unfold octet_Number.f
  rw [oct_num 9 k n [] h0 (by omega) (by omega) (by simp)]
  rfl
def txt (a : ByteArray) : ByteArray := num (a.size : Int) ++ a
theorem oct_Text (a : ByteArray) (ha : a.size ≤ 1073741824) (k : Nat) (hk : 10 ≤ k) : octet_Text.f k a = some (txt a) := by
  unfold octet_Text.f
  have := num_size (a.size : Int)
  rw [IntWalk.u64_in _ (by omega), oct_Number _ (by omega) (by omega) k hk, Option.bind_some, if_pos (by omega)]
  rfl
/-! ### Numbers, read -/
theorem and127 (m : Int) (h0 : 0 ≤ m) (h1 : m < 256) : Go.bits .and .u8 m 127 = m % 128 := by
  obtain ⟨n, rfl⟩ : ∃ n : Nat, m = (n : Int) := ⟨m.toNat, by omega⟩
  have h : ∀ n, n < 256 → Go.bits .and .u8 ((n : Nat) : Int) 127 = ((n : Nat) : Int) % 128 := by decide +kernel
  exact h n (by omega)
/-- What is read: i digits were taken, x is what they say; n more may come. -/
def rn (s : ByteArray) (a : Nat) : Nat → Nat → Int → Int × Int × Int
  | 0, _, _ => (0, 0, 3)
  | n + 1, i, x => if s.size ≤ a + i then (0, 0, 5) else if (i = 9 ∧ bt s ((a + i : Nat) : Int) > 1) ∨ (0 < i ∧ bt s ((a + i : Nat) : Int) = 0) then (0, 0, 3)
    else if bt s ((a + i : Nat) : Int) < 128 then (x + bt s ((a + i : Nat) : Int) % 128 * 128 ^ i, ((a + i + 1 : Nat) : Int), 0) else rn s a n (i + 1) (x + bt s ((a + i : Nat) : Int) % 128 * 128 ^ i)
theorem or_add (x d : Nat) (i : Nat) (hx : x < 128 ^ i) : x ||| (d * 128 ^ i) = x + d * 128 ^ i := by
  have h : (128 : Nat) ^ i = 2 ^ (7 * i) := by rw [Nat.pow_mul]
  rw [h] at hx ⊢
  rw [Nat.or_comm, Nat.mul_comm d, ← Nat.two_pow_add_eq_or_of_lt hx d, Nat.add_comm]
theorem step_bits (x b : Int) (i : Nat) (h0 : 0 ≤ x) (hx : x < 128 ^ i) (hb0 : 0 ≤ b) (hb : b < 256) (hi : i < 9 ∨ (i = 9 ∧ b ≤ 1)) :
    Go.bits .or .u64 x (shl .u64 (IntKind.u64.wrap (Go.bits .and .u8 b 127)) (7 * (i : Int))) = x + b % 128 * 128 ^ i ∧ 0 ≤ x + b % 128 * 128 ^ i ∧ x + b % 128 * 128 ^ i < 128 ^ (i + 1) ∧ x + b % 128 * 128 ^ i ≤ 18446744073709551615 := by
  obtain ⟨n, rfl⟩ : ∃ n : Nat, x = (n : Int) := ⟨x.toNat, by omega⟩
  obtain ⟨d, hd⟩ : ∃ d : Nat, b % 128 = (d : Int) := ⟨(b % 128).toNat, by omega⟩
  have hd1 : d < 128 := by omega
  have hn : n < 128 ^ i := by exact_mod_cast hx
  have hpow : (128 : Nat) ^ i = 2 ^ (7 * i) := by rw [Nat.pow_mul]
  have hlt : n + d * 128 ^ i < 128 ^ (i + 1) := by
    have h1 : d * 128 ^ i ≤ 127 * 128 ^ i := Nat.mul_le_mul_right _ (by omega)
    rw [Nat.pow_succ]; omega
  have hmax : n + d * 128 ^ i < 18446744073709551616 := by
    rcases hi with hi | ⟨rfl, hb1⟩
    · have h2 : (128 : Nat) ^ (i + 1) ≤ 128 ^ 9 := Nat.pow_le_pow_right (by decide) (by omega)
      have h3 : (128 : Nat) ^ 9 = 9223372036854775808 := by decide
      omega
    · have h3 : (128 : Nat) ^ 9 = 9223372036854775808 := by decide
      have h4 : d ≤ 1 := by omega
      rw [h3] at hn ⊢
      rcases (show d = 0 ∨ d = 1 by omega) with rfl | rfl <;> omega
  have hpi : (0 : Nat) < 128 ^ i := Nat.pow_pos (by decide)
  have hdm : d * 128 ^ i < 18446744073709551616 := by omega
  have hi9 : i ≤ 9 := by omega
  have hshl : shl .u64 (IntKind.u64.wrap (Go.bits .and .u8 b 127)) (7 * (i : Int)) = ((d * 128 ^ i : Nat) : Int) := by
    rw [and127 b hb0 hb, hd, IntWalk.u64_in _ (by omega)]
    unfold shl
    have hbits : IntKind.u64.bits = 64 := rfl
    rw [hbits, show (7 * (i : Int)).toNat = 7 * i by omega, Nat.min_eq_left (by omega), hpow]
    rw [hpow] at hdm
    have hc : ((d : Int) * 2 ^ (7 * i)) = ((d * 2 ^ (7 * i) : Nat) : Int) := by rw [Int.natCast_mul, Int.natCast_pow]; rfl
    rw [hc, IntWalk.u64_in _ (by omega)]
  have hc2 : (n : Int) + b % 128 * 128 ^ i = ((n + d * 128 ^ i : Nat) : Int) := by rw [hd, Int.natCast_add, Int.natCast_mul, Int.natCast_pow]; rfl
  rw [hshl, bits_or_u64_nat n _ (by omega) hdm, or_add n d i hn, hc2]
  refine ⟨rfl, by omega, ?_, by omega⟩
  have : ((128 : Int) ^ (i + 1)) = ((128 ^ (i + 1) : Nat) : Int) := by rw [Int.natCast_pow]; rfl
  rw [this]
  omega
theorem oct_rn (s : ByteArray) (a : Nat) (hs : s.size ≤ 1073741824) (ha : a ≤ s.size) : ∀ (n i k : Nat) (x : Int), i + n = 10 → 2 * n < k → 0 ≤ x → x < 128 ^ i → octet_ReadNumber.l0 k s (a : Int) x (i : Int) = some (rn s a n i x) := by
  intro n
  induction n with
  | zero =>
    intro i k x hi hk h0 hx
    obtain ⟨k, rfl⟩ : ∃ j, k = j + 1 := ⟨k - 1, by omega⟩
    rw [octet_ReadNumber.l0, if_neg (by omega)]
    rfl
  | succ n ih =>
    intro i k x hi hk h0 hx
    obtain ⟨k, rfl⟩ : ∃ j, k = j + 1 + 1 := ⟨k - 2, by omega⟩
    have hbr := bt_rng s ((a + i : Nat) : Int)
    rw [octet_ReadNumber.l0, if_pos (by omega), IntWalk.wrap64_in ((a : Int) + (i : Int)) (by omega), show ((a : Int) + (i : Int)) = ((a + i : Nat) : Int) by omega, rn]
    obtain ⟨b, hb⟩ : ∃ b, bt s ((a + i : Nat) : Int) = b := ⟨_, rfl⟩
    rw [hb] at hbr ⊢
    by_cases he : s.size ≤ a + i
    · rw [if_pos (by omega), if_pos he]
    · rw [if_neg (by omega), if_neg he, if_pos (by omega), if_pos (by omega)]
      have tail : ∀ c : Bool, (c = true ↔ ((i = 9 ∧ b > 1) ∨ (0 < i ∧ b = 0))) → octet_ReadNumber.j2 (k + 1) s (a : Int) x (i : Int) b (i : Int) c = some (if (i = 9 ∧ b > 1) ∨ (0 < i ∧ b = 0) then (0, 0, 3) else if b < 128 then (x + b % 128 * 128 ^ i, ((a + i + 1 : Nat) : Int), 0) else rn s a n (i + 1) (x + b % 128 * 128 ^ i)) := by
        intro c hc
        rw [octet_ReadNumber.j2]
        by_cases hq : (i = 9 ∧ b > 1) ∨ (0 < i ∧ b = 0)
        · rw [if_pos (hc.2 hq), if_pos hq]
        · rw [if_neg (fun h => hq (hc.1 h)), if_neg hq, IntWalk.wrap64_in (7 * (i : Int)) (by omega), if_pos (by omega)]
          obtain ⟨e1, e2, e3, e4⟩ := step_bits x b i h0 hx hbr.1 (by omega) (by omega)
          rw [e1]
          by_cases hlt : b < 128
          · rw [if_pos hlt, if_pos hlt, IntWalk.wrap64_in ((a : Int) + (i : Int)) (by omega), IntWalk.wrap64_in _ (by omega)]
            rfl
          · rw [if_neg hlt, if_neg hlt, IntWalk.wrap64_in ((i : Int) + 1) (by omega), show ((i : Int) + 1) = ((i + 1 : Nat) : Int) by omega]
            exact ih (i + 1) k _ (by omega) (by omega) e2 e3
      by_cases h9 : i = 9
      · rw [if_pos (by omega)]
        by_cases hb1 : b > 1
        · rw [if_pos hb1]; exact tail true (by simp; omega)
        · rw [if_neg hb1, if_pos (by omega)]; exact tail _ (by simp; omega)
      · rw [if_neg (by omega)]
        by_cases hi0 : i = 0
        · rw [if_neg (by omega)]; exact tail false (by simp; omega)
        · rw [if_pos (by omega)]; exact tail _ (by simp; omega)
theorem rn_spec (s : ByteArray) (a : Nat) : ∀ (n i : Nat) (x : Int), i + n = 10 → 0 ≤ x → x < 128 ^ i → (rn s a n i x).2.2 = 0 → 0 ≤ (rn s a n i x).1 ∧ (rn s a n i x).1 ≤ 18446744073709551615 ∧ ∃ m : Nat, (rn s a n i x).2.1 = (m : Int) ∧ a ≤ m ∧ m ≤ s.size
  | 0, _, _, _, _, _, h => by simp [rn] at h
  | n + 1, i, x, hi, h0, hx, h => by
    have hbr := bt_rng s ((a + i : Nat) : Int)
    rw [rn] at h ⊢
    split at h
    · simp at h
    · rename_i he
      split at h
      · simp at h
      · rename_i hq
        obtain ⟨e1, e2, e3, e4⟩ := step_bits x _ i h0 hx hbr.1 (by omega) (by omega)
        rw [if_neg he, if_neg hq]
        split at h
        · rename_i hlt
          rw [if_pos hlt]
          exact ⟨e2, e4, a + i + 1, rfl, by omega, by omega⟩
        · rename_i hlt
          rw [if_neg hlt]
          exact rn_spec s a n (i + 1) _ (by omega) e2 e3 h
def rd0 (s : ByteArray) (a : Nat) : Int × Int × Int := rn s a 10 0 0
theorem oct_ReadNumber (s : ByteArray) (a : Nat) (hs : s.size ≤ 1073741824) (ha : a ≤ s.size) (k : Nat) (hk : 25 ≤ k) : octet_ReadNumber.f k s (a : Int) = some (rd0 s a) := by
  unfold octet_ReadNumber.f
  obtain ⟨k, rfl⟩ : ∃ j, k = j + 1 := ⟨k - 1, by omega⟩
  rw [if_neg (by omega), decide_eq_false (by omega), octet_ReadNumber.j0, if_neg (by simp)]
  exact oct_rn s a hs ha 10 0 k 0 (by omega) (by omega) (by omega) (by decide)
theorem rd0_spec (s : ByteArray) (a : Nat) (h : (rd0 s a).2.2 = 0) : 0 ≤ (rd0 s a).1 ∧ (rd0 s a).1 ≤ 18446744073709551615 ∧ ∃ m : Nat, (rd0 s a).2.1 = (m : Int) ∧ a ≤ m ∧ m ≤ s.size :=
  rn_spec s a 10 0 0 (by omega) (by omega) (by decide) h
end Go.Proofs.YtoiockmmlanimaaDoor.Pure
end
section
/- Layer 1, the plain side (turned from the token package's text): readers, and what is read again. No program in sight. -/
namespace Go.Proofs.YtoiockmmlanimaaDoor.Pure
open Go.RowKit Go.Proofs.YtoiockmmlanimaaDoor.Ok Go.Proofs.YtoiockmmlanimaaDoorW.PrintWords Go.Proofs.YtoiockmmlanimaaDoorW.PrintLast Go.Proofs.YtoiockmmlanimaaDoorW.PrintMore
set_option linter.unusedVariables false
set_option linter.unusedSimpArgs false
theorem txt_size (a : ByteArray) : (txt a).size ≤ a.size + 10 := by
  unfold txt
  have := num_size (a.size : Int)
  rw [ByteArray.size_append]; omega
theorem ba_assoc (a b c : ByteArray) : a ++ b ++ c = a ++ (b ++ c) := by
  apply ByteArray.ext
  simp only [ByteArray.data_append, Array.append_assoc]
def xn (s : ByteArray) (a : Nat) (e : Int) (most : Int) : Int × Int × Int :=
  if e = 0 then (if (rd0 s a).2.2 = 0 then (if (rd0 s a).1 > most then (0, (a : Int), 2) else ((rd0 s a).1, (rd0 s a).2.1, 0)) else (0, (a : Int), (rd0 s a).2.2)) else (0, (a : Int), e)
theorem oct_RNumber (s : ByteArray) (a : Nat) (hs : s.size ≤ 1073741824) (ha : a ≤ s.size) (e most : Int) (k : Nat) (hk : 30 ≤ k) :
    octet_Reader_Number.f k s (a : Int) e most = some ((xn s a e most).1, s, (xn s a e most).2.1, (xn s a e most).2.2) := by
  unfold octet_Reader_Number.f octet_Reader_Err.f xn
  obtain ⟨k, rfl⟩ : ∃ j, k = j + 1 := ⟨k - 1, by omega⟩
  rw [Option.bind_some]
  by_cases he : e = 0
  · rw [if_pos he, if_pos he, oct_ReadNumber s a hs ha (k + 1) (by omega), Option.bind_some]
    by_cases h0 : (rd0 s a).2.2 = 0
    · rw [if_pos h0, if_pos h0, octet_Reader_Number.j0]
      by_cases hm : (rd0 s a).1 > most
      · rw [if_pos (decide_eq_true hm), if_neg (by omega), if_pos hm]
      · rw [if_neg (by simpa using hm), if_pos h0, if_neg hm, he]
    · rw [if_neg h0, if_neg h0, octet_Reader_Number.j0, if_neg (by simp), if_neg h0]
  · rw [if_neg he, if_neg he]
theorem xn_at (s : ByteArray) (a : Nat) (ha : a ≤ s.size) (e most : Int) (hm : 0 ≤ most) : 0 ≤ (xn s a e most).1 ∧ (xn s a e most).1 ≤ most ∧ ∃ m : Nat, (xn s a e most).2.1 = (m : Int) ∧ a ≤ m ∧ m ≤ s.size := by
  unfold xn
  by_cases he : e = 0
  · rw [if_pos he]
    by_cases h0 : (rd0 s a).2.2 = 0
    · rw [if_pos h0]
      obtain ⟨g1, g2, m, g3, g4, g5⟩ := rd0_spec s a h0
      by_cases hmm : (rd0 s a).1 > most
      · rw [if_pos hmm]; exact ⟨Int.le_refl _, hm, a, rfl, Nat.le_refl _, ha⟩
      · rw [if_neg hmm]; exact ⟨g1, by omega, m, g3, g4, g5⟩
    · rw [if_neg h0]; exact ⟨Int.le_refl _, hm, a, rfl, Nat.le_refl _, ha⟩
  · rw [if_neg he]; exact ⟨Int.le_refl _, hm, a, rfl, Nat.le_refl _, ha⟩
theorem oct_RInt (s : ByteArray) (a : Nat) (hs : s.size ≤ 1073741824) (ha : a ≤ s.size) (e most : Int) (hm : 0 ≤ most) (hm2 : most ≤ 9223372036854775807) (k : Nat) (hk : 30 ≤ k) :
    octet_Reader_Int.f k s (a : Int) e most = some ((xn s a e most).1, s, (xn s a e most).2.1, (xn s a e most).2.2) := by
  unfold octet_Reader_Int.f
  obtain ⟨h1, h2, _⟩ := xn_at s a ha e most hm
  rw [if_neg (by omega), IntWalk.u64_in most (by omega), oct_RNumber s a hs ha e most k hk, Option.bind_some]
  show some (wrap64 ((xn s a e most).1), s, (xn s a e most).2.1, (xn s a e most).2.2) = _
  rw [IntWalk.wrap64_in _ (by omega)]
def rt (s : ByteArray) (a : Nat) : ByteArray × Int × Int :=
  if (rd0 s a).2.2 = 0 then (if (rd0 s a).1 > (s.size : Int) - (rd0 s a).2.1 then ((⟨#[]⟩ : ByteArray), 0, 5) else (s.extract (rd0 s a).2.1.toNat ((rd0 s a).2.1 + (rd0 s a).1).toNat, (rd0 s a).2.1 + (rd0 s a).1, 0)) else ((⟨#[]⟩ : ByteArray), 0, (rd0 s a).2.2)
theorem oct_ReadText (s : ByteArray) (a : Nat) (hs : s.size ≤ 1073741824) (ha : a ≤ s.size) (k : Nat) (hk : 25 ≤ k) : octet_ReadText.f k s (a : Int) = some (rt s a) := by
  unfold octet_ReadText.f rt
  rw [oct_ReadNumber s a hs ha k hk, Option.bind_some]
  by_cases h0 : (rd0 s a).2.2 = 0
  · obtain ⟨g1, g2, m, g3, g4, g5⟩ := rd0_spec s a h0
    rw [if_pos h0, if_pos h0, g3, IntWalk.wrap64_in ((s.size : Int) - (m : Int)) (by omega), IntWalk.u64_in _ (by omega)]
    by_cases hm : (rd0 s a).1 > (s.size : Int) - (m : Int)
    · rw [if_pos hm, if_pos hm]
    · rw [if_neg hm, if_neg hm, IntWalk.wrap64_in (rd0 s a).1 (by omega), IntWalk.wrap64_in _ (by omega), if_pos (by omega), if_pos (by omega), if_pos (by omega)]
  · rw [if_neg h0, if_neg h0]
theorem rt_spec (s : ByteArray) (a : Nat) (h : (rt s a).2.2 = 0) : ∃ m : Nat, (rt s a).2.1 = (m : Int) ∧ a ≤ m ∧ m ≤ s.size := by
  unfold rt at h ⊢
  by_cases h0 : (rd0 s a).2.2 = 0
  · obtain ⟨g1, g2, m, g3, g4, g5⟩ := rd0_spec s a h0
    rw [if_pos h0] at h ⊢
    by_cases hm : (rd0 s a).1 > (s.size : Int) - (rd0 s a).2.1
    · rw [if_pos hm] at h; simp at h
    · rw [if_neg hm]
      exact ⟨m + (rd0 s a).1.toNat, by show (rd0 s a).2.1 + (rd0 s a).1 = _; omega, by omega, by omega⟩
  · rw [if_neg h0] at h
    exact absurd h h0
def xt (s : ByteArray) (a : Nat) (e : Int) (most : Int) : ByteArray × Int × Int :=
  if e = 0 then (if (rt s a).2.2 = 0 then (if ((rt s a).1.size : Int) > most then ((⟨#[]⟩ : ByteArray), (a : Int), 2) else ((rt s a).1, (rt s a).2.1, 0)) else ((⟨#[]⟩ : ByteArray), (a : Int), (rt s a).2.2)) else ((⟨#[]⟩ : ByteArray), (a : Int), e)
theorem oct_RText (s : ByteArray) (a : Nat) (hs : s.size ≤ 1073741824) (ha : a ≤ s.size) (e most : Int) (k : Nat) (hk : 30 ≤ k) :
    octet_Reader_Text.f k s (a : Int) e most = some ((xt s a e most).1, s, (xt s a e most).2.1, (xt s a e most).2.2) := by
  unfold octet_Reader_Text.f octet_Reader_Err.f xt
  obtain ⟨k, rfl⟩ : ∃ j, k = j + 1 := ⟨k - 1, by omega⟩
  rw [Option.bind_some]
  by_cases he : e = 0
  · rw [if_pos he, if_pos he, oct_ReadText s a hs ha (k + 1) (by omega), Option.bind_some]
    by_cases h0 : (rt s a).2.2 = 0
    · rw [if_pos h0, if_pos h0, octet_Reader_Text.j0]
      by_cases hm : ((rt s a).1.size : Int) > most
      · rw [if_pos (decide_eq_true hm), if_neg (by omega), if_pos hm]
      · rw [if_neg (by simpa using hm), if_pos h0, if_neg hm, he]
    · rw [if_neg h0, if_neg h0, octet_Reader_Text.j0, if_neg (by simp), if_neg h0]
  · rw [if_neg he, if_neg he]
theorem xt_at (s : ByteArray) (a : Nat) (ha : a ≤ s.size) (e most : Int) (hm : 0 ≤ most) : ((xt s a e most).1.size : Int) ≤ most ∧ ∃ m : Nat, (xt s a e most).2.1 = (m : Int) ∧ a ≤ m ∧ m ≤ s.size := by
  have hz : (((⟨#[]⟩ : ByteArray).size : Nat) : Int) = 0 := rfl
  unfold xt
  by_cases he : e = 0
  · rw [if_pos he]
    by_cases h0 : (rt s a).2.2 = 0
    · rw [if_pos h0]
      by_cases hmm : ((rt s a).1.size : Int) > most
      · rw [if_pos hmm]; exact ⟨by show (((⟨#[]⟩ : ByteArray).size : Nat) : Int) ≤ most; omega, a, rfl, Nat.le_refl _, ha⟩
      · rw [if_neg hmm]; exact ⟨by show ((rt s a).1.size : Int) ≤ most; omega, rt_spec s a h0⟩
    · rw [if_neg h0]; exact ⟨by show (((⟨#[]⟩ : ByteArray).size : Nat) : Int) ≤ most; omega, a, rfl, Nat.le_refl _, ha⟩
  · rw [if_neg he]; exact ⟨by show (((⟨#[]⟩ : ByteArray).size : Nat) : Int) ≤ most; omega, a, rfl, Nat.le_refl _, ha⟩
def by_ (l : List Int) : List UInt8 := l.map fun n => UInt8.ofNat n.toNat
theorem num_by (n : Int) : (num n).data.toList = by_ (nl 9 n) := rfl
theorem bt_head (s : ByteArray) (p : Nat) (b : Int) (h0 : 0 ≤ b) (h1 : b < 256) (rest : List UInt8) (h : s.data.toList.drop p = UInt8.ofNat b.toNat :: rest) : p < s.size ∧ bt s (p : Int) = b ∧ s.data.toList.drop (p + 1) = rest := by
  have hp : p < s.size := by
    rcases Nat.lt_or_ge p s.size with h2 | h2
    · exact h2
    · rw [List.drop_of_length_le (by rw [len_eq]; exact h2)] at h; cases h
  obtain ⟨c, hc, hb⟩ := bt_get s p hp
  rw [hc] at h
  injection h with e1 e2
  refine ⟨hp, ?_, e2⟩
  rw [hb, e1, UInt8.toNat_ofNat']
  omega
theorem rn_back (s : ByteArray) (a : Nat) : ∀ (d i : Nat) (x n : Int) (rest : List UInt8), i + d = 9 → 0 ≤ n → n < 128 ^ (d + 1) → (i = 9 → n ≤ 1) → (0 < i → n ≠ 0) → (8 < i → n < 128) → n * 128 ^ i ≤ 18446744073709551615 → s.data.toList.drop (a + i) = by_ (nl d n) ++ rest →
    rn s a (d + 1) i x = (x + n * 128 ^ i, ((a + i + (nl d n).length : Nat) : Int), 0) := by
  intro d
  induction d with
  | zero =>
    intro i x n rest hi h0 h1 h9 hz h8 hm h
    have h1' : n < 128 := by simpa using h1
    rw [nl] at h ⊢
    obtain ⟨hp, hb, _⟩ := bt_head s (a + i) n h0 (by omega) rest h
    rw [rn, hb, if_neg (by omega), if_neg (by omega), if_pos h1', Int.emod_eq_of_lt h0 h1']
    rfl
  | succ d ih =>
    intro i x n rest hi h0 h1 h9 hz h8 hm h
    by_cases h128 : n < 128
    · have e1 : nl (d + 1) n = [n] := by rw [nl, if_pos h128]
      rw [e1] at h ⊢
      obtain ⟨hp, hb, _⟩ := bt_head s (a + i) n h0 (by omega) rest h
      rw [rn, hb, if_neg (by omega), if_neg (by omega), if_pos h128, Int.emod_eq_of_lt h0 h128]
      rfl
    · have e1 : nl (d + 1) n = (n % 128 + 128) :: nl d (n / 128) := by rw [nl, if_neg h128]
      rw [e1] at h ⊢
      obtain ⟨hp, hb, ht⟩ := bt_head s (a + i) (n % 128 + 128) (by omega) (by omega) (by_ (nl d (n / 128)) ++ rest) h
      have hpow : (128 : Int) ^ (i + 1) = 128 ^ i * 128 := Int.pow_succ _ _
      have hpi : (0 : Int) < 128 ^ i := Int.pow_pos (by omega)
      have hsum : n % 128 * 128 ^ i + n / 128 * 128 ^ (i + 1) = n * 128 ^ i := by
        rw [hpow, Int.mul_comm (128 ^ i) 128, ← Int.mul_assoc, ← Int.add_mul]
        congr 1
        omega
      have hle : n / 128 * 128 ^ (i + 1) ≤ 18446744073709551615 := by
        have : 0 ≤ n % 128 * 128 ^ i := Int.mul_nonneg (by omega) (by omega)
        omega
      rw [rn, hb, if_neg (by omega), if_neg (by omega), if_neg (by omega), show (n % 128 + 128) % 128 = n % 128 by omega]
      rw [ih (i + 1) _ (n / 128) rest (by omega) (by omega) (Int.ediv_lt_of_lt_mul (by omega) (by rw [← Int.pow_succ]; exact h1)) ?_ (by omega) ?_ hle (by rw [← Nat.add_assoc]; exact ht)]
      · rw [Int.add_assoc, hsum]
        congr 2
        simp only [List.length_cons]; omega
      · intro hi9
        obtain rfl : i = 8 := by omega
        have h3 : (128 : Int) ^ (8 + 1) = 9223372036854775808 := by decide
        rw [h3] at hle
        omega
      · intro h8'
        have hi8 : i = 8 := by omega
        subst hi8
        have h3 : (128 : Int) ^ (8 + 1) = 9223372036854775808 := by decide
        rw [h3] at hle
        omega
theorem rd0_back (s : ByteArray) (a : Nat) (n : Int) (rest : List UInt8) (h0 : 0 ≤ n) (h1 : n ≤ 18446744073709551615) (h : s.data.toList.drop a = (num n).data.toList ++ rest) : rd0 s a = (n, ((a + (num n).size : Nat) : Int), 0) := by
  unfold rd0
  rw [rn_back s a 9 0 0 n rest rfl h0 (by omega) (by omega) (by omega) (by omega) (by omega) (by rw [Nat.add_zero]; exact h)]
  have : (num n).size = (nl 9 n).length := strOfNums_size _
  rw [this]
  simp
theorem rn_only (s : ByteArray) (a : Nat) : ∀ (d i : Nat) (x : Int), (rn s a (d + 1) i x).2.2 = 0 → ∃ (n : Int) (m : Nat), 0 ≤ n ∧ (0 < i → n ≠ 0) ∧ (rn s a (d + 1) i x).1 = x + n * 128 ^ i ∧ (rn s a (d + 1) i x).2.1 = (m : Int) ∧ m ≤ s.size ∧ m = a + i + (nl d n).length ∧ s.data.toList.drop (a + i) = by_ (nl d n) ++ s.data.toList.drop m := by
  intro d
  induction d with
  | zero =>
    intro i x h
    rw [rn] at h ⊢
    split at h
    · simp at h
    · rename_i he
      obtain ⟨c, hc, hb⟩ := bt_get s (a + i) (by omega)
      have hc8 := UInt8.toNat_lt c
      split at h
      · simp at h
      · rename_i hq
        split at h
        · rename_i hlt
          rw [if_neg he, if_neg hq, if_pos hlt]
          rw [hb] at hq hlt ⊢
          refine ⟨(c.toNat : Int), a + i + 1, by omega, by omega, by rw [Int.emod_eq_of_lt (by omega) hlt], rfl, by omega, rfl, ?_⟩
          rw [hc]
          show _ = UInt8.ofNat (c.toNat : Int).toNat :: _
          rw [Int.toNat_natCast, UInt8.ofNat_toNat]
          rfl
        · rw [rn] at h; simp at h
  | succ d ih =>
    intro i x h
    rw [rn] at h ⊢
    split at h
    · simp at h
    · rename_i he
      obtain ⟨c, hc, hb⟩ := bt_get s (a + i) (by omega)
      have hc8 := UInt8.toNat_lt c
      split at h
      · simp at h
      · rename_i hq
        split at h
        · rename_i hlt
          rw [if_neg he, if_neg hq, if_pos hlt]
          rw [hb] at hq hlt ⊢
          refine ⟨(c.toNat : Int), a + i + 1, by omega, by omega, by rw [Int.emod_eq_of_lt (by omega) hlt], rfl, by omega, by rw [nl, if_pos hlt]; rfl, ?_⟩
          rw [hc, nl, if_pos hlt]
          show _ = UInt8.ofNat (c.toNat : Int).toNat :: _
          rw [Int.toNat_natCast, UInt8.ofNat_toNat]
          rfl
        · rename_i hlt
          rw [if_neg he, if_neg hq, if_neg hlt]
          obtain ⟨n, m, g0, g1, g2, g3, g4, g5, g6⟩ := ih (i + 1) _ h
          rw [g2, g3]
          rw [hb] at hq hlt ⊢
          have hn1 : n ≠ 0 := g1 (by omega)
          have hge : ¬ (((c.toNat : Int) % 128 + 128 * n) < 128) := by omega
          have hnl : nl (d + 1) ((c.toNat : Int) % 128 + 128 * n) = (c.toNat : Int) :: nl d n := by
            rw [nl, if_neg hge, show ((c.toNat : Int) % 128 + 128 * n) % 128 + 128 = (c.toNat : Int) by omega, show ((c.toNat : Int) % 128 + 128 * n) / 128 = n by omega]
          refine ⟨(c.toNat : Int) % 128 + 128 * n, m, by omega, by omega, ?_, rfl, g4, by rw [hnl, List.length_cons]; omega, ?_⟩
          · have hpow : (128 : Int) ^ (i + 1) = 128 ^ i * 128 := Int.pow_succ _ _
            rw [hpow, Int.mul_comm (128 ^ i) 128, ← Int.mul_assoc, Int.mul_comm n 128, Int.add_assoc, ← Int.add_mul]
          · rw [hc, hnl]
            show _ = UInt8.ofNat (c.toNat : Int).toNat :: _
            rw [Int.toNat_natCast, UInt8.ofNat_toNat]
            show c :: _ = c :: (by_ (nl d n) ++ _)
            rw [← g6, Nat.add_assoc]
theorem rd0_only (s : ByteArray) (a : Nat) (h : (rd0 s a).2.2 = 0) : ∃ m : Nat, (rd0 s a).2.1 = (m : Int) ∧ m ≤ s.size ∧ m = a + (num (rd0 s a).1).size ∧ s.data.toList.drop a = (num (rd0 s a).1).data.toList ++ s.data.toList.drop m := by
  obtain ⟨n, m, g0, g1, g2, g3, g4, g5, g6⟩ := rn_only s a 9 0 0 h
  have e1 : (rd0 s a).1 = n := by
    show (rn s a 10 0 0).1 = n
    rw [g2]; simp
  have hsz : (num n).size = (nl 9 n).length := strOfNums_size _
  rw [e1]
  refine ⟨m, g3, g4, by rw [hsz]; omega, ?_⟩
  rw [num_by]
  simpa using g6
theorem extract_list (s : ByteArray) (i j : Nat) : (s.extract i j).data.toList = (s.data.toList.drop i).take (j - i) := by
  rw [ByteArray.data_extract, Array.toList_extract, List.extract_eq_take_drop]
theorem txt_list (t : ByteArray) : (txt t).data.toList = (num (t.size : Int)).data.toList ++ t.data.toList := by
  unfold txt
  rw [ByteArray.data_append, Array.toList_append]
theorem drop_add (s : ByteArray) (a : Nat) (p q : List UInt8) (h : s.data.toList.drop a = p ++ q) : s.data.toList.drop (a + p.length) = q := by
  rw [← List.drop_drop, h, List.drop_left]
set_option maxRecDepth 100000 in
theorem rt_back (s t : ByteArray) (a : Nat) (rest : List UInt8) (ht : t.size ≤ 1073741824) (h : s.data.toList.drop a = (txt t).data.toList ++ rest) : rt s a = (t, ((a + (txt t).size : Nat) : Int), 0) := by
  rw [txt_list, List.append_assoc] at h
  have h1 := rd0_back s a (t.size : Int) _ (by omega) (by omega) h
  have h2 := drop_add s a _ _ h
  rw [len_eq] at h2
  have h3 : a + (num (t.size : Int)).size + t.size ≤ s.size := by
    have := congrArg List.length h2
    rw [List.length_drop, List.length_append, len_eq, len_eq] at this
    by_cases h0 : t.size = 0
    · have h4 := congrArg List.length h
      rw [List.length_drop, List.length_append, len_eq, len_eq] at h4
      have h5 : 0 < (num (t.size : Int)).size := by
        have : (num (t.size : Int)).size = (nl 9 (t.size : Int)).length := strOfNums_size _
        rw [this, nl]
        split <;> simp
      omega
    · omega
  have hts : (txt t).size = (num (t.size : Int)).size + t.size := ByteArray.size_append ..
  unfold rt
  rw [h1]
  rw [if_pos rfl, if_neg (by show ¬ ((t.size : Int) > (s.size : Int) - ((a + (num (t.size : Int)).size : Nat) : Int)); omega)]
  show (s.extract ((a + (num (t.size : Int)).size : Nat) : Int).toNat (((a + (num (t.size : Int)).size : Nat) : Int) + (t.size : Int)).toNat, ((a + (num (t.size : Int)).size : Nat) : Int) + (t.size : Int), (0 : Int)) = _
  have e2 : s.extract ((a + (num (t.size : Int)).size : Nat) : Int).toNat (((a + (num (t.size : Int)).size : Nat) : Int) + (t.size : Int)).toNat = t := by
    apply ByteArray.ext
    apply Array.ext'
    rw [extract_list, Int.toNat_natCast, h2, show (((a + (num (t.size : Int)).size : Nat) : Int) + (t.size : Int)).toNat - (a + (num (t.size : Int)).size) = t.data.toList.length by rw [len_eq]; omega, List.take_left]
  rw [e2, hts]
  congr 2
  omega
theorem rt_only (s : ByteArray) (a : Nat) (h : (rt s a).2.2 = 0) : ∃ m : Nat, (rt s a).2.1 = (m : Int) ∧ m ≤ s.size ∧ s.data.toList.drop a = (txt (rt s a).1).data.toList ++ s.data.toList.drop m := by
  unfold rt at h ⊢
  by_cases h0 : (rd0 s a).2.2 = 0
  · rw [if_pos h0] at h ⊢
    obtain ⟨m, g1, g2, g3, g4⟩ := rd0_only s a h0
    have hsp := rd0_spec s a h0
    rw [g1] at h ⊢
    by_cases hm : (rd0 s a).1 > (s.size : Int) - (m : Int)
    · rw [if_pos hm] at h; simp at h
    · rw [if_neg hm] at h ⊢
      have hz : (s.extract (m : Int).toNat ((m : Int) + (rd0 s a).1).toNat).data.toList = (s.data.toList.drop m).take (rd0 s a).1.toNat := by
        rw [extract_list, Int.toNat_natCast]
        congr 1
        omega
      have hsz : (((s.extract (m : Int).toNat ((m : Int) + (rd0 s a).1).toNat).size : Nat) : Int) = (rd0 s a).1 := by
        have := congrArg List.length hz
        rw [len_eq, List.length_take, List.length_drop, len_eq] at this
        omega
      refine ⟨m + (rd0 s a).1.toNat, by show (m : Int) + (rd0 s a).1 = _; omega, by omega, ?_⟩
      show _ = (txt (s.extract (m : Int).toNat ((m : Int) + (rd0 s a).1).toNat)).data.toList ++ _
      rw [txt_list, hsz, hz, g4, List.append_assoc]
      congr 1
      rw [← List.drop_drop, List.take_append_drop]
  · rw [if_neg h0] at h
    exact absurd h h0
theorem xt_back (s t : ByteArray) (a : Nat) (most : Int) (rest : List UInt8) (ht : t.size ≤ 1073741824) (hm : (t.size : Int) ≤ most) (h : s.data.toList.drop a = (txt t).data.toList ++ rest) : xt s a 0 most = (t, ((a + (txt t).size : Nat) : Int), 0) := by
  unfold xt
  rw [rt_back s t a rest ht h, if_pos rfl, if_pos rfl, if_neg (by show ¬ ((t.size : Int) > most); omega)]
theorem xn_back (s : ByteArray) (a : Nat) (n most : Int) (rest : List UInt8) (h0 : 0 ≤ n) (h1 : n ≤ 18446744073709551615) (hm : n ≤ most) (h : s.data.toList.drop a = (num n).data.toList ++ rest) : xn s a 0 most = (n, ((a + (num n).size : Nat) : Int), 0) := by
  unfold xn
  rw [rd0_back s a n rest h0 h1 h, if_pos rfl, if_pos rfl, if_neg (by show ¬ (n > most); omega)]
theorem size_le (s : ByteArray) (a : Nat) (p q : List UInt8) (hp : 0 < p.length) (h : s.data.toList.drop a = p ++ q) : a + p.length ≤ s.size := by
  have := congrArg List.length h
  rw [List.length_drop, List.length_append, len_eq] at this
  omega
theorem num_pos (n : Int) : 0 < (num n).data.toList.length := by
  rw [len_eq, show (num n).size = (nl 9 n).length from strOfNums_size _, nl]
  split <;> simp
theorem txt_pos (t : ByteArray) : 0 < (txt t).data.toList.length := by
  rw [txt_list, List.length_append]
  have := num_pos (t.size : Int)
  omega
theorem xn_e (s : ByteArray) (a : Nat) (e most : Int) (h : (xn s a e most).2.2 = 0) : e = 0 ∧ ∃ m : Nat, (xn s a e most).2.1 = (m : Int) ∧ m ≤ s.size ∧ s.data.toList.drop a = (num (xn s a e most).1).data.toList ++ s.data.toList.drop m := by
  unfold xn at h ⊢
  by_cases he : e = 0
  · rw [if_pos he] at h ⊢
    by_cases h0 : (rd0 s a).2.2 = 0
    · rw [if_pos h0] at h ⊢
      by_cases hm : (rd0 s a).1 > most
      · rw [if_pos hm] at h; simp at h
      · rw [if_neg hm]
        obtain ⟨m, g1, g2, g3, g4⟩ := rd0_only s a h0
        exact ⟨he, m, g1, g2, g4⟩
    · rw [if_neg h0] at h; exact absurd h h0
  · rw [if_neg he] at h; exact absurd h he
theorem xt_e (s : ByteArray) (a : Nat) (e most : Int) (h : (xt s a e most).2.2 = 0) : e = 0 ∧ ∃ m : Nat, (xt s a e most).2.1 = (m : Int) ∧ m ≤ s.size ∧ s.data.toList.drop a = (txt (xt s a e most).1).data.toList ++ s.data.toList.drop m := by
  unfold xt at h ⊢
  by_cases he : e = 0
  · rw [if_pos he] at h ⊢
    by_cases h0 : (rt s a).2.2 = 0
    · rw [if_pos h0] at h ⊢
      by_cases hm : ((rt s a).1.size : Int) > most
      · rw [if_pos hm] at h; simp at h
      · rw [if_neg hm]
        obtain ⟨m, g1, g2, g4⟩ := rt_only s a h0
        exact ⟨he, m, g1, g2, g4⟩
    · rw [if_neg h0] at h; exact absurd h h0
  · rw [if_neg he] at h; exact absurd h he
end Go.Proofs.YtoiockmmlanimaaDoor.Pure
end
section
/- Layer 14, the plain side: parts' text, in the program and as the document has it. No program in sight. -/
namespace Go.Proofs.YtoiockmmlanimaaDoor.Pure
open Go.RowKit Go.Proofs.YtoiockmmlanimaaDoor.Ok Go.Proofs.YtoiockmmlanimaaDoorW.PrintWords Go.Proofs.YtoiockmmlanimaaDoorW.PrintLast Go.Proofs.YtoiockmmlanimaaDoorW.PrintMore
set_option linter.unusedVariables false
set_option linter.unusedSimpArgs false
/-! ### What good parts are -/
theorem D_size {a : ByteArray} (h : D a = true) : a.size = 64 := by
  unfold D at h
  rw [Bool.and_eq_true, decide_eq_true_eq] at h
  exact h.2
theorem pcs_all : ∀ (l : List Piece) (s : Int), (pcs l s).2 = 0 → ∀ y ∈ l, y.f0.size = 64 ∧ 1 ≤ y.f1 ∧ y.f1 ≤ 4096
  | [], _, _ => fun y hy => by cases hy
  | z :: l, s, h => by
    rw [pcs] at h
    by_cases hc : D z.f0 = true ∧ 1 ≤ z.f1 ∧ z.f1 ≤ 4096
    · rw [if_pos hc] at h
      intro y hy
      rcases List.mem_cons.1 hy with rfl | hy
      · exact ⟨D_size hc.1, hc.2⟩
      · exact pcs_all l _ h y hy
    · rw [if_neg hc] at h
      exact absurd h (by decide)
structure Fine (p : Part) : Prop where
  n1 : 1 ≤ p.f0
  n2 : p.f0 ≤ 100
  len : p.f3.length ≤ 512
  pcs : ∀ y ∈ p.f3, y.f0.size = 64 ∧ 1 ≤ y.f1 ∧ y.f1 ≤ 4096
  sum : p.f2.size = 64
  size : (Pc p.f3).1 = p.f1
theorem fine_of {p : Part} (h : chk p = true) : Fine p := by
  obtain ⟨h1, h2, h3, h4, h5⟩ := chk_parts h
  have h6 : p.f3.length ≤ 512 := by
    unfold Pc at h3
    split at h3
    · exact absurd h3 (by decide)
    · omega
  refine ⟨h1, h2, h6, ?_, D_size h5, h4⟩
  unfold Pc at h3
  rw [if_neg (by omega)] at h3
  exact pcs_all _ _ h3
theorem good_len {l : List Part} (h : Good l) : l.length ≤ 100 := by
  have H : ∀ i, i < l.length → (i : Int) + 1 ≤ (rdP l i).f0 := by
    intro i
    induction i with
    | zero =>
      intro hi
      have := (chk_parts (h.chk _ (memP l 0 hi))).1
      omega
    | succ i ih =>
      intro hi
      have h1 := ih (by omega)
      have h2 := h.lt i (i + 1) (by omega) hi
      omega
  rcases Nat.lt_or_ge 100 l.length with hl | hl
  · have h1 := H 100 hl
    have h2 := (chk_parts (h.chk _ (memP l 100 hl))).2.1
    omega
  · exact hl
/-! ### Parts' text -/
def pcB : List Piece → ByteArray
  | [] => ⟨#[]⟩
  | y :: r => (txt y.f0 ++ num y.f1) ++ pcB r
def entB (p : Part) : ByteArray := (num p.f0 ++ (num (p.f3.length : Int) ++ pcB p.f3)) ++ txt p.f2
def allB : List Part → ByteArray
  | [] => ⟨#[]⟩
  | p :: r => entB p ++ allB r
def encS (l : List Part) : ByteArray := num (l.length : Int) ++ allB l
theorem ba_nil (x : ByteArray) : x ++ (⟨#[]⟩ : ByteArray) = x := by
  apply ByteArray.ext
  rw [ByteArray.data_append]
  simp
theorem pcB_size : ∀ (r : List Piece), (∀ y ∈ r, y.f0.size = 64 ∧ 1 ≤ y.f1 ∧ y.f1 ≤ 4096) → (pcB r).size ≤ 84 * r.length
  | [], _ => Nat.le_refl _
  | y :: r, h => by
    have h1 := pcB_size r (fun z hz => h z (List.mem_cons_of_mem _ hz))
    have h2 := txt_size y.f0
    have h3 := num_size y.f1
    have h4 := (h y List.mem_cons_self).1
    rw [pcB, ByteArray.size_append, ByteArray.size_append, List.length_cons]
    omega
theorem entB_size {p : Part} (h : Fine p) : (entB p).size ≤ 60000 := by
  have h1 := pcB_size p.f3 h.pcs
  have h2 := txt_size p.f2
  have h3 := num_size p.f0
  have h4 := num_size (p.f3.length : Int)
  have h5 := h.len
  have h6 := h.sum
  unfold entB
  rw [ByteArray.size_append, ByteArray.size_append, ByteArray.size_append]
  omega
theorem penc_pc (l : List Part) (i : Nat) (p : Part) (hF : Fine p) (k : Nat) (hk : 20 ≤ k) (hi : i ≤ 1048576) : ∀ n j x, j + n = p.f3.length → x.size ≤ 30 + 60000 * i + 84 * j →
    parts_Encode.l1 (n + 1 + k) x l (l.length : Int) (i : Int) p.f3 (p.f3.length : Int) (j : Int) p.f0 p.f1 p.f2 p.f3 = parts_Encode.l0 k ((x ++ pcB (p.f3.drop j)) ++ txt p.f2) l (l.length : Int) ((i + 1 : Nat) : Int) := by
  have hlen := hF.len
  have hsum := hF.sum
  intro n
  induction n with
  | zero =>
    intro j x hj hx
    have ht := txt_size p.f2
    rw [show 0 + 1 + k = k + 1 by omega, parts_Encode.l1, if_neg (by omega), oct_Text p.f2 (by omega) k (by omega), Option.bind_some, if_pos (by omega), w1 i (by omega), List.drop_of_length_le (by omega), pcB, ba_nil]
  | succ n ih =>
    intro j x hj hx
    have hy := hF.pcs _ (memC p.f3 j (by omega))
    have ht := txt_size (rdC p.f3 j).f0
    have hn := num_size (rdC p.f3 j).f1
    rw [show n + 1 + 1 + k = (n + 1 + k) + 1 by omega, parts_Encode.l1, if_pos (by omega), if_pos (by omega), if_pos (by omega)]
    have t0 : octet_Text.f (n + 1 + k) (rdC p.f3 j).f0 = some (txt (rdC p.f3 j).f0) := oct_Text _ (by omega) _ (by omega)
    have t1 : octet_Number.f (n + 1 + k) (IntKind.u64.wrap (rdC p.f3 j).f1) = some (num (rdC p.f3 j).f1) := by
      rw [IntWalk.u64_in _ (by omega)]
      exact oct_Number _ (by omega) (by omega) _ (by omega)
    show (octet_Text.f (n + 1 + k) (rdC p.f3 j).f0).bind (fun t232 => (octet_Number.f (n + 1 + k) (IntKind.u64.wrap (rdC p.f3 j).f1)).bind fun t233 => _) = _
    rw [t0, Option.bind_some, t1, Option.bind_some, if_pos (by omega), if_pos (by rw [ByteArray.size_append]; omega), w1 j (by omega), ih (j + 1) _ (by omega) (by rw [ByteArray.size_append, ByteArray.size_append]; omega), dropC p.f3 j (by omega), pcB]
    simp only [ba_assoc]
theorem penc_go (l : List Part) (hl : l.length ≤ 1048576) (hF : ∀ p ∈ l, Fine p) : ∀ n i k x, i + n = l.length → 600 * n + 100 ≤ k → x.size ≤ 10 + 60000 * i → parts_Encode.l0 k x l (l.length : Int) (i : Int) = some (x ++ allB (l.drop i), 0) := by
  intro n
  induction n with
  | zero =>
    intro i k x hi hk hx
    obtain ⟨k, rfl⟩ : ∃ j, k = j + 1 := ⟨k - 1, by omega⟩
    rw [parts_Encode.l0, if_neg (by omega), List.drop_of_length_le (by omega), allB, ba_nil]
  | succ n ih =>
    intro i k x hi hk hx
    obtain ⟨k, rfl⟩ : ∃ j, k = j + 1 := ⟨k - 1, by omega⟩
    have hf := hF _ (memP l i (by omega))
    have hfl := hf.len
    have hf1 := hf.n1
    have hf2 := hf.n2
    have s0 := num_size (rdP l i).f0
    have s1 := num_size ((rdP l i).f3.length : Int)
    have t0 : octet_Number.f k (IntKind.u64.wrap (rdP l i).f0) = some (num (rdP l i).f0) := by
      rw [IntWalk.u64_in _ (by omega)]
      exact oct_Number _ (by omega) (by omega) _ (by omega)
    have t1 : octet_Number.f k (IntKind.u64.wrap ((rdP l i).f3.length : Int)) = some (num ((rdP l i).f3.length : Int)) := by
      rw [IntWalk.u64_in _ (by omega)]
      exact oct_Number _ (by omega) (by omega) _ (by omega)
    rw [parts_Encode.l0, if_pos (by omega), if_pos (by omega), if_pos (by omega)]
    show (octet_Number.f k (IntKind.u64.wrap (rdP l i).f0)).bind (fun t228 => (octet_Number.f k (IntKind.u64.wrap ((rdP l i).f3.length : Int))).bind fun t229 => if t228.size + t229.size ≤ 9223372036854775807 then if x.size + (t228 ++ t229).size ≤ 9223372036854775807 then parts_Encode.l1 k (x ++ (t228 ++ t229)) l (l.length : Int) (i : Int) (rdP l i).f3 ((rdP l i).f3.length : Int) 0 (rdP l i).f0 (rdP l i).f1 (rdP l i).f2 (rdP l i).f3 else none else none) = _
    obtain ⟨k', hk'⟩ : ∃ k', k = (rdP l i).f3.length + 1 + k' := ⟨k - (rdP l i).f3.length - 1, by omega⟩
    have hpc := penc_pc l i (rdP l i) hf k' (by omega) (by omega) (rdP l i).f3.length 0 (x ++ (num (rdP l i).f0 ++ num ((rdP l i).f3.length : Int))) (by omega) (by rw [ByteArray.size_append, ByteArray.size_append]; omega)
    rw [t0, Option.bind_some, t1, Option.bind_some, if_pos (by omega), if_pos (by rw [ByteArray.size_append]; omega)]
    subst hk'
    rw [show ((0 : Nat) : Int) = 0 from rfl, List.drop_zero] at hpc
    rw [hpc]
    have e : (x ++ (num (rdP l i).f0 ++ num ((rdP l i).f3.length : Int)) ++ pcB (rdP l i).f3) ++ txt (rdP l i).f2 = x ++ entB (rdP l i) := by
      unfold entB
      simp only [ba_assoc]
    have hz := entB_size hf
    rw [e, ih (i + 1) k' _ (by omega) (by omega) (by rw [ByteArray.size_append]; omega), dropP l i (by omega), allB, ba_assoc]
theorem penc_eq (l : List Part) (hl : Small l) (k : Nat) (hk : 700000000 ≤ k) : parts_Encode.f k l = some (if rB none l = true then (encS l, 0) else ((⟨#[]⟩ : ByteArray), 1)) := by
  have hll := hl.len
  unfold parts_Encode.f
  rw [right_eq l hl k (by omega), Option.bind_some]
  by_cases h : rB none l = true
  · have hn := num_size (l.length : Int)
    rw [if_pos h, if_pos h, IntWalk.u64_in _ (by omega), oct_Number _ (by omega) (by omega) k (by omega), Option.bind_some, show parts_Encode.l0 k (num (l.length : Int)) l (l.length : Int) 0 = _ from penc_go l hll (fun p hp => fine_of ((rB_lt l none h).1 p hp)) l.length 0 k _ (by omega) (by omega) (by omega), List.drop_zero]
    rfl
  · rw [if_neg h, if_neg h]
/-! ### As the document has it -/
end Go.Proofs.YtoiockmmlanimaaDoor.Pure
end
section
/- Layer 14, the plain side: which parts a text says, in the program and as the document has it. No program in sight. -/
namespace Go.Proofs.YtoiockmmlanimaaDoor.Pure
open Go.RowKit Go.Proofs.YtoiockmmlanimaaDoor.Ok Go.Proofs.YtoiockmmlanimaaDoorW.PrintWords Go.Proofs.YtoiockmmlanimaaDoorW.PrintLast Go.Proofs.YtoiockmmlanimaaDoorW.PrintMore
set_option linter.unusedVariables false
set_option linter.unusedSimpArgs false
abbrev RB := 1073741824
/-! ### What is read -/
def rdPc (s : ByteArray) : Nat → Nat → Int → List Piece → List Piece × Nat × Int
  | 0, a, e, acc => (acc, a, e)
  | n + 1, a, e, acc => rdPc s n (xn s (xt s a e 64).2.1.toNat (xt s a e 64).2.2 4096).2.1.toNat (xn s (xt s a e 64).2.1.toNat (xt s a e 64).2.2 4096).2.2 (acc ++ [⟨(xt s a e 64).1, (xn s (xt s a e 64).2.1.toNat (xt s a e 64).2.2 4096).1⟩])
def pt1 (s : ByteArray) (a : Nat) (e : Int) : Int × Int × Int := xn s a e 100
def pt2 (s : ByteArray) (a : Nat) (e : Int) : Int × Int × Int := xn s (pt1 s a e).2.1.toNat (pt1 s a e).2.2 512
def pt3 (s : ByteArray) (a : Nat) (e : Int) : List Piece × Nat × Int := rdPc s (pt2 s a e).1.toNat (pt2 s a e).2.1.toNat (pt2 s a e).2.2 []
def pt4 (s : ByteArray) (a : Nat) (e : Int) : ByteArray × Int × Int := xt s (pt3 s a e).2.1 (pt3 s a e).2.2 64
def ptP (s : ByteArray) (a : Nat) (e : Int) : Part := ⟨(pt1 s a e).1, (Pc (pt3 s a e).1).1, (pt4 s a e).1, (pt3 s a e).1⟩
def rdPts (s : ByteArray) : Nat → Nat → Int → List Part → List Part × Nat × Int
  | 0, a, e, acc => (acc, a, e)
  | n + 1, a, e, acc => rdPts s n (pt4 s a e).2.1.toNat (pt4 s a e).2.2 (acc ++ [ptP s a e])
def rdAll (s : ByteArray) : List Part × Nat × Int := rdPts s (xn s 0 0 100).1.toNat (xn s 0 0 100).2.1.toNat (xn s 0 0 100).2.2 []
def decS (s : ByteArray) : List Part × Int := if (rdAll s).2.2 = 0 ∧ ¬ (rdAll s).2.1 < s.size ∧ rB none (rdAll s).1 = true then ((rdAll s).1, 0) else ([], 3)
theorem xn_nat (s : ByteArray) (a : Nat) (ha : a ≤ s.size) (e most : Int) (hm : 0 ≤ most) : (xn s a e most).2.1 = (((xn s a e most).2.1.toNat : Nat) : Int) ∧ (xn s a e most).2.1.toNat ≤ s.size ∧ (xn s a e most).1 = (((xn s a e most).1.toNat : Nat) : Int) ∧ ((xn s a e most).1.toNat : Int) ≤ most := by
  obtain ⟨h1, h2, m, h3, h4, h5⟩ := xn_at s a ha e most hm
  refine ⟨by omega, by omega, by omega, by omega⟩
theorem xt_nat (s : ByteArray) (a : Nat) (ha : a ≤ s.size) (e most : Int) (hm : 0 ≤ most) : (xt s a e most).2.1 = (((xt s a e most).2.1.toNat : Nat) : Int) ∧ (xt s a e most).2.1.toNat ≤ s.size ∧ ((xt s a e most).1.size : Int) ≤ most := by
  obtain ⟨h2, m, h3, h4, h5⟩ := xt_at s a ha e most hm
  refine ⟨by omega, by omega, h2⟩
theorem rdPc_spec (s : ByteArray) : ∀ (n a : Nat) (e : Int) (acc : List Piece), a ≤ s.size → (∀ y ∈ acc, y.f0.size ≤ 64) → (rdPc s n a e acc).2.1 ≤ s.size ∧ (rdPc s n a e acc).1.length = acc.length + n ∧ ∀ y ∈ (rdPc s n a e acc).1, y.f0.size ≤ 64
  | 0, a, e, acc, ha, h => ⟨ha, rfl, h⟩
  | n + 1, a, e, acc, ha, h => by
    obtain ⟨g1, g2, g3⟩ := xt_nat s a ha e 64 (by decide)
    obtain ⟨g4, g5, g6, g7⟩ := xn_nat s (xt s a e 64).2.1.toNat g2 (xt s a e 64).2.2 4096 (by decide)
    rw [rdPc]
    obtain ⟨i1, i2, i3⟩ := rdPc_spec s n _ (xn s (xt s a e 64).2.1.toNat (xt s a e 64).2.2 4096).2.2 (acc ++ [⟨(xt s a e 64).1, (xn s (xt s a e 64).2.1.toNat (xt s a e 64).2.2 4096).1⟩]) g5 (fun y hy => by
      rcases List.mem_append.1 hy with hy | hy
      · exact h y hy
      · rw [List.mem_singleton] at hy
        subst hy
        show (xt s a e 64).1.size ≤ 64
        omega)
    refine ⟨i1, ?_, i3⟩
    rw [i2, List.length_append, List.length_singleton]
    omega
structure PtOk (s : ByteArray) (a : Nat) (e : Int) : Prop where
  a1 : (pt1 s a e).2.1 = (((pt1 s a e).2.1.toNat : Nat) : Int)
  l1 : (pt1 s a e).2.1.toNat ≤ s.size
  a2 : (pt2 s a e).2.1 = (((pt2 s a e).2.1.toNat : Nat) : Int)
  l2 : (pt2 s a e).2.1.toNat ≤ s.size
  n2 : (pt2 s a e).1 = (((pt2 s a e).1.toNat : Nat) : Int)
  m2 : (pt2 s a e).1.toNat ≤ 512
  l3 : (pt3 s a e).2.1 ≤ s.size
  n3 : (pt3 s a e).1.length = (pt2 s a e).1.toNat
  y3 : ∀ y ∈ (pt3 s a e).1, y.f0.size ≤ 64
  a4 : (pt4 s a e).2.1 = (((pt4 s a e).2.1.toNat : Nat) : Int)
  l4 : (pt4 s a e).2.1.toNat ≤ s.size
  z4 : (pt4 s a e).1.size ≤ 64
theorem pt_ok (s : ByteArray) (a : Nat) (e : Int) (ha : a ≤ s.size) : PtOk s a e := by
  obtain ⟨b1, b2, _, _⟩ := xn_nat s a ha e 100 (by decide)
  obtain ⟨c1, c2, c3, c4⟩ := xn_nat s (pt1 s a e).2.1.toNat b2 (pt1 s a e).2.2 512 (by decide)
  obtain ⟨d1, d2, d3⟩ := rdPc_spec s (pt2 s a e).1.toNat (pt2 s a e).2.1.toNat (pt2 s a e).2.2 [] c2 (fun y hy => by cases hy)
  obtain ⟨e1, e2, e3⟩ := xt_nat s (pt3 s a e).2.1 d1 (pt3 s a e).2.2 64 (by decide)
  refine ⟨b1, b2, c1, c2, c3, by have : ((pt2 s a e).1.toNat : Int) ≤ 512 := c4; omega, d1, by rw [show (pt3 s a e).1.length = _ from d2]; simp, d3, e1, e2, by have : ((pt4 s a e).1.size : Int) ≤ 64 := e3; omega⟩
theorem ptP_small (s : ByteArray) (a : Nat) (e : Int) (ha : a ≤ s.size) : SmallPart (ptP s a e) := by
  have h := pt_ok s a e ha
  have h1 := h.z4
  have h2 := h.n3
  have h3 := h.m2
  refine ⟨by show (pt4 s a e).1.size ≤ _; omega, fun y hy => by have := h.y3 y hy; omega, by show (pt3 s a e).1.length ≤ _; omega⟩
theorem rdPts_spec (s : ByteArray) : ∀ (n a : Nat) (e : Int) (acc : List Part), a ≤ s.size → (∀ y ∈ acc, SmallPart y) → (rdPts s n a e acc).2.1 ≤ s.size ∧ (rdPts s n a e acc).1.length = acc.length + n ∧ ∀ y ∈ (rdPts s n a e acc).1, SmallPart y
  | 0, a, e, acc, ha, h => ⟨ha, rfl, h⟩
  | n + 1, a, e, acc, ha, h => by
    rw [rdPts]
    obtain ⟨i1, i2, i3⟩ := rdPts_spec s n _ (pt4 s a e).2.2 (acc ++ [ptP s a e]) (pt_ok s a e ha).l4 (fun y hy => by
      rcases List.mem_append.1 hy with hy | hy
      · exact h y hy
      · rw [List.mem_singleton] at hy
        subst hy
        exact ptP_small s a e ha)
    refine ⟨i1, ?_, i3⟩
    rw [i2, List.length_append, List.length_singleton]
    omega
/-! ### In the program -/
theorem pdec_pc (s : ByteArray) (hs : s.size ≤ 1073741824) (X : List Part) (hX : X.length ≤ 1048576) (cnt N : Int) (i : Nat) (hi : i ≤ 1048576) (k : Nat) (hk : 1049100 ≤ k) : ∀ n j (a : Nat) (e : Int) (acc : List Piece), j + n ≤ 512 → a ≤ s.size → acc.length ≤ j → (∀ y ∈ acc, y.f0.size ≤ 64) →
    parts_Decode.l1 (n + 1 + k) X cnt (i : Int) ((j + n : Nat) : Int) (j : Int) s (a : Int) e N 0 (⟨#[]⟩ : ByteArray) acc =
      parts_Decode.l0 k (X ++ [⟨N, (Pc (rdPc s n a e acc).1).1, (xt s (rdPc s n a e acc).2.1 (rdPc s n a e acc).2.2 64).1, (rdPc s n a e acc).1⟩]) cnt ((i + 1 : Nat) : Int) s (xt s (rdPc s n a e acc).2.1 (rdPc s n a e acc).2.2 64).2.1 (xt s (rdPc s n a e acc).2.1 (rdPc s n a e acc).2.2 64).2.2 := by
  intro n
  induction n with
  | zero =>
    intro j a e acc hj ha hacc hy
    rw [show 0 + 1 + k = k + 1 by omega, parts_Decode.l1, if_neg (by omega), oct_RText s a hs ha e 64 k (by omega), Option.bind_some, pieces_eq acc (fun y hy' => by have := hy y hy'; omega) k (by omega), Option.bind_some, if_pos (by omega), w1 i (by omega), rdPc]
  | succ n ih =>
    intro j a e acc hj ha hacc hy
    obtain ⟨g1, g2, g3⟩ := xt_nat s a ha e 64 (by decide)
    obtain ⟨g4, g5, g6, g7⟩ := xn_nat s (xt s a e 64).2.1.toNat g2 (xt s a e 64).2.2 4096 (by decide)
    have q1 := oct_RInt s (xt s a e 64).2.1.toNat hs g2 (xt s a e 64).2.2 4096 (by decide) (by decide) (n + 1 + k) (by omega)
    rw [← g1] at q1
    rw [show n + 1 + 1 + k = (n + 1 + k) + 1 by omega, parts_Decode.l1, if_pos (by omega), oct_RText s a hs ha e 64 _ (by omega), Option.bind_some]
    show (octet_Reader_Int.f (n + 1 + k) s (xt s a e 64).2.1 (xt s a e 64).2.2 4096).bind _ = _
    rw [q1, Option.bind_some, if_pos (by omega), w1 j (by omega), rdPc, g4, show j + (n + 1) = (j + 1) + n by omega]
    exact ih (j + 1) _ _ _ (by omega) g5 (by rw [List.length_append, List.length_singleton]; omega) (fun y hy' => by
      rcases List.mem_append.1 hy' with hy' | hy'
      · exact hy y hy'
      · rw [List.mem_singleton] at hy'
        subst hy'
        show (xt s a e 64).1.size ≤ 64
        omega)
theorem small_of (X : List Part) (h : ∀ y ∈ X, SmallPart y) (hl : X.length ≤ 1048576) : Small X := ⟨hl, h⟩
theorem pdec_go (s : ByteArray) (hs : s.size ≤ 1073741824) : ∀ n i k (a : Nat) (e : Int) (X : List Part), i + n ≤ 100 → 600 * n + 3000000 ≤ k → a ≤ s.size → X.length = i → (∀ y ∈ X, SmallPart y) →
    parts_Decode.l0 k X ((i + n : Nat) : Int) (i : Int) s (a : Int) e = some (if (rdPts s n a e X).2.2 = 0 ∧ ¬ (rdPts s n a e X).2.1 < s.size ∧ rB none (rdPts s n a e X).1 = true then ((rdPts s n a e X).1, 0) else ([], 3)) := by
  intro n
  induction n with
  | zero =>
    intro i k a e X hi hk ha hX hy
    obtain ⟨k, rfl⟩ : ∃ j, k = j + 1 := ⟨k - 1, by omega⟩
    rw [parts_Decode.l0, if_neg (by omega), rdPts]
    unfold octet_Reader_End.f
    by_cases he : e = 0
    · rw [if_pos he]
      by_cases h2 : (a : Int) < (s.size : Int)
      · rw [if_pos h2, Option.bind_some, if_neg (show ¬ (2 : Int) = 0 by decide), if_neg (fun hh => hh.2.1 (show a < s.size by omega))]
      · rw [if_neg h2, Option.bind_some, if_pos rfl, right_eq X ⟨by omega, hy⟩ k (by omega), Option.bind_some]
        by_cases h3 : rB none X = true
        · rw [if_pos h3, if_pos ⟨he, (show ¬ a < s.size by omega), h3⟩]
        · rw [if_neg h3, if_neg (fun hh => h3 hh.2.2)]
    · rw [if_neg he, Option.bind_some, if_neg he, if_neg (fun hh => he hh.1)]
  | succ n ih =>
    intro i k a e X hi hk ha hX hy
    obtain ⟨k, rfl⟩ : ∃ j, k = j + 1 := ⟨k - 1, by omega⟩
    have H := pt_ok s a e ha
    have hm2 := H.m2
    have q0 := oct_RInt s a hs ha e 100 (by decide) (by decide) k (by omega)
    have q1 := oct_RInt s (pt1 s a e).2.1.toNat hs H.l1 (pt1 s a e).2.2 512 (by decide) (by decide) k (by omega)
    rw [← H.a1] at q1
    rw [parts_Decode.l0, if_pos (by omega), q0, Option.bind_some]
    show (octet_Reader_Int.f k s (pt1 s a e).2.1 (pt1 s a e).2.2 512).bind _ = _
    rw [q1, Option.bind_some]
    show parts_Decode.l1 k X ((i + (n + 1) : Nat) : Int) (i : Int) (pt2 s a e).1 0 s (pt2 s a e).2.1 (pt2 s a e).2.2 (pt1 s a e).1 0 (⟨#[]⟩ : ByteArray) [] = _
    obtain ⟨k', hk'⟩ : ∃ k', k = (pt2 s a e).1.toNat + 1 + k' := ⟨k - (pt2 s a e).1.toNat - 1, by omega⟩
    have hpc := pdec_pc s hs X (by omega) ((i + (n + 1) : Nat) : Int) (pt1 s a e).1 i (by omega) k' (by omega) (pt2 s a e).1.toNat 0 (pt2 s a e).2.1.toNat (pt2 s a e).2.2 [] (by omega) H.l2 (Nat.le_refl _) (fun y hy => by cases hy)
    rw [Nat.zero_add, ← H.n2, ← H.a2, ← hk', show ((0 : Nat) : Int) = 0 from rfl] at hpc
    rw [hpc]
    show parts_Decode.l0 k' (X ++ [ptP s a e]) ((i + (n + 1) : Nat) : Int) ((i + 1 : Nat) : Int) s (pt4 s a e).2.1 (pt4 s a e).2.2 = _
    rw [H.a4, show i + (n + 1) = (i + 1) + n by omega]
    exact ih (i + 1) k' _ _ _ (by omega) (by omega) H.l4 (by rw [List.length_append, List.length_singleton]; omega) (fun y hy' => by
      rcases List.mem_append.1 hy' with hy' | hy'
      · exact hy y hy'
      · rw [List.mem_singleton] at hy'
        subst hy'
        exact ptP_small s a e ha)
theorem pdec_eq (s : ByteArray) (hs : s.size ≤ 1073741824) (k : Nat) (hk : 4000000 ≤ k) : parts_Decode.f k s = some (decS s) := by
  unfold parts_Decode.f octet_NewReader.f
  obtain ⟨g4, g5, g6, g7⟩ := xn_nat s 0 (Nat.zero_le _) 0 100 (by decide)
  have q0 : octet_Reader_Int.f k s 0 0 100 = _ := oct_RInt s 0 hs (Nat.zero_le _) 0 100 (by decide) (by decide) k (by omega)
  rw [Option.bind_some, q0, Option.bind_some]
  have h := pdec_go s hs (xn s 0 0 100).1.toNat 0 k (xn s 0 0 100).2.1.toNat (xn s 0 0 100).2.2 [] (by omega) (by omega) g5 rfl (fun y hy => by cases hy)
  rw [Nat.zero_add, ← g6, ← g4] at h
  exact h
/-! ### As the document has it -/
theorem decS_small (s : ByteArray) (hs : s.size ≤ 1073741824) : Small (decS s).1 ∧ (decS s).1.length ≤ 100 := by
  obtain ⟨g4, g5, g6, g7⟩ := xn_nat s 0 (Nat.zero_le _) 0 100 (by decide)
  obtain ⟨h1, h2, h3⟩ := rdPts_spec s (xn s 0 0 100).1.toNat (xn s 0 0 100).2.1.toNat (xn s 0 0 100).2.2 [] g5 (fun y hy => by cases hy)
  have h4 : (rdAll s).1.length ≤ 100 := by
    show (rdPts s _ _ _ []).1.length ≤ 100
    rw [h2, List.length_nil]
    omega
  unfold decS
  split
  · exact ⟨⟨by show (rdAll s).1.length ≤ _; omega, h3⟩, h4⟩
  · exact ⟨⟨by decide, fun y hy => by cases hy⟩, by decide⟩
end Go.Proofs.YtoiockmmlanimaaDoor.Pure
end
section
/- Layer 14, the plain side: what is told is read again, and a text in one form alone. No program in sight. -/
namespace Go.Proofs.YtoiockmmlanimaaDoor.Pure
open Go.RowKit Go.Proofs.YtoiockmmlanimaaDoor.Ok Go.Proofs.YtoiockmmlanimaaDoorW.PrintWords Go.Proofs.YtoiockmmlanimaaDoorW.PrintLast Go.Proofs.YtoiockmmlanimaaDoorW.PrintMore
set_option linter.unusedVariables false
set_option linter.unusedSimpArgs false
theorem ba_list (a b : ByteArray) : (a ++ b).data.toList = a.data.toList ++ b.data.toList := by
  rw [ByteArray.data_append, Array.toList_append]
/-! ### There and back -/
theorem xt_b (s t : ByteArray) (a : Nat) (most : Int) (rest : List UInt8) (ht : t.size ≤ 1073741824) (hm : (t.size : Int) ≤ most) (h : s.data.toList.drop a = (txt t).data.toList ++ rest) :
    (xt s a 0 most).1 = t ∧ (xt s a 0 most).2.1.toNat = a + (txt t).size ∧ (xt s a 0 most).2.2 = 0 ∧ s.data.toList.drop (a + (txt t).size) = rest := by
  have h2 := drop_add s a _ _ h
  rw [len_eq] at h2
  rw [xt_back s t a most rest ht hm h]
  exact ⟨rfl, by show ((a + (txt t).size : Nat) : Int).toNat = _; omega, rfl, h2⟩
theorem xn_b (s : ByteArray) (a : Nat) (n most : Int) (rest : List UInt8) (h0 : 0 ≤ n) (h1 : n ≤ 18446744073709551615) (hm : n ≤ most) (h : s.data.toList.drop a = (num n).data.toList ++ rest) :
    (xn s a 0 most).1 = n ∧ (xn s a 0 most).2.1.toNat = a + (num n).size ∧ (xn s a 0 most).2.2 = 0 ∧ s.data.toList.drop (a + (num n).size) = rest := by
  have h2 := drop_add s a _ _ h
  rw [len_eq] at h2
  rw [xn_back s a n most rest h0 h1 hm h]
  exact ⟨rfl, by show ((a + (num n).size : Nat) : Int).toNat = _; omega, rfl, h2⟩
theorem rdPc_back (s : ByteArray) : ∀ (r : List Piece) (a : Nat) (acc : List Piece) (rest : List UInt8), (∀ y ∈ r, y.f0.size = 64 ∧ 1 ≤ y.f1 ∧ y.f1 ≤ 4096) → s.data.toList.drop a = (pcB r).data.toList ++ rest →
    rdPc s r.length a 0 acc = (acc ++ r, a + (pcB r).size, 0) ∧ s.data.toList.drop (a + (pcB r).size) = rest
  | [], a, acc, rest, _, h => by
    rw [List.append_nil]
    exact ⟨rfl, h⟩
  | y :: r, a, acc, rest, hy, h => by
    obtain ⟨h1, h2, h3⟩ := hy y List.mem_cons_self
    rw [pcB, ba_list, ba_list, List.append_assoc, List.append_assoc] at h
    obtain ⟨a1, a2, a3, a4⟩ := xt_b s y.f0 a 64 _ (by omega) (by omega) h
    obtain ⟨b1, b2, b3, b4⟩ := xn_b s _ y.f1 4096 _ (by omega) (by omega) h3 a4
    obtain ⟨c1, c2⟩ := rdPc_back s r _ (acc ++ [y]) rest (fun z hz => hy z (List.mem_cons_of_mem _ hz)) b4
    have e : (pcB (y :: r)).size = (txt y.f0).size + (num y.f1).size + (pcB r).size := by rw [pcB, ByteArray.size_append, ByteArray.size_append]
    rw [List.length_cons, rdPc, a1, a2, a3, b1, b2, b3, e]
    have e2 : a + ((txt y.f0).size + (num y.f1).size + (pcB r).size) = a + (txt y.f0).size + (num y.f1).size + (pcB r).size := by omega
    rw [e2]
    exact ⟨by rw [c1, List.append_assoc]; rfl, c2⟩
theorem rdPts_back (s : ByteArray) : ∀ (r : List Part) (a : Nat) (acc : List Part) (rest : List UInt8), (∀ p ∈ r, Fine p) → s.data.toList.drop a = (allB r).data.toList ++ rest →
    rdPts s r.length a 0 acc = (acc ++ r, a + (allB r).size, 0) ∧ s.data.toList.drop (a + (allB r).size) = rest
  | [], a, acc, rest, _, h => by
    rw [List.append_nil]
    exact ⟨rfl, h⟩
  | p :: r, a, acc, rest, hp, h => by
    have hF := hp p List.mem_cons_self
    have f1 := hF.n1
    have f2 := hF.n2
    have f3 := hF.len
    have f4 := hF.sum
    have e : (allB (p :: r)).size = (num p.f0).size + ((num (p.f3.length : Int)).size + (pcB p.f3).size) + (txt p.f2).size + (allB r).size := by
      rw [allB, ByteArray.size_append]
      unfold entB
      rw [ByteArray.size_append, ByteArray.size_append, ByteArray.size_append]
    rw [allB] at h
    unfold entB at h
    rw [ba_list, ba_list, ba_list, ba_list, List.append_assoc, List.append_assoc, List.append_assoc, List.append_assoc] at h
    obtain ⟨a1, a2, a3, a4⟩ := xn_b s a p.f0 100 _ (by omega) (by omega) f2 h
    obtain ⟨b1, b2, b3, b4⟩ := xn_b s _ (p.f3.length : Int) 512 _ (by omega) (by omega) (by omega) a4
    obtain ⟨c1, c2⟩ := rdPc_back s p.f3 _ [] _ hF.pcs b4
    obtain ⟨d1, d2, d3, d4⟩ := xt_b s p.f2 _ 64 _ (by omega) (by omega) c2
    have P2 : pt2 s a 0 = xn s (a + (num p.f0).size) 0 512 := by unfold pt2 pt1; rw [a2, a3]
    have P3 : pt3 s a 0 = (p.f3, a + (num p.f0).size + (num (p.f3.length : Int)).size + (pcB p.f3).size, 0) := by
      unfold pt3
      rw [P2, b1, b2, b3, Int.toNat_natCast, c1]
      rfl
    have P4 : pt4 s a 0 = xt s (a + (num p.f0).size + (num (p.f3.length : Int)).size + (pcB p.f3).size) 0 64 := by unfold pt4; rw [P3]
    have PP : ptP s a 0 = p := by
      unfold ptP
      rw [P4, P3, d1]
      show (⟨(pt1 s a 0).1, (Pc p.f3).1, p.f2, p.f3⟩ : Part) = p
      rw [show (pt1 s a 0).1 = p.f0 from a1, hF.size]
    obtain ⟨g1, g2⟩ := rdPts_back s r _ (acc ++ [p]) rest (fun z hz => hp z (List.mem_cons_of_mem _ hz)) d4
    rw [List.length_cons, rdPts, PP, P4, d2, d3, e]
    have e2 : a + ((num p.f0).size + ((num (p.f3.length : Int)).size + (pcB p.f3).size) + (txt p.f2).size + (allB r).size) = a + (num p.f0).size + (num (p.f3.length : Int)).size + (pcB p.f3).size + (txt p.f2).size + (allB r).size := by omega
    rw [e2]
    exact ⟨by rw [g1, List.append_assoc]; rfl, g2⟩
theorem decS_back (l : List Part) (h : Good l) : decS (encS l) = (l, 0) := by
  have hl := good_len h
  have hh : (encS l).data.toList.drop 0 = (num (l.length : Int)).data.toList ++ (allB l).data.toList := by
    unfold encS
    rw [List.drop_zero, ba_list]
  obtain ⟨a1, a2, a3, a4⟩ := xn_b (encS l) 0 (l.length : Int) 100 _ (by omega) (by omega) (by omega) hh
  obtain ⟨b1, b2⟩ := rdPts_back (encS l) l _ [] [] (fun p hp => fine_of (h.chk p hp)) (by rw [List.append_nil]; exact a4)
  have hA : rdAll (encS l) = (l, 0 + (num (l.length : Int)).size + (allB l).size, 0) := by
    unfold rdAll
    rw [a1, a2, a3, Int.toNat_natCast, b1]
    rfl
  have hsz : (encS l).size = (num (l.length : Int)).size + (allB l).size := ByteArray.size_append ..
  unfold decS
  rw [hA, if_pos ⟨rfl, by show ¬ (0 + (num (l.length : Int)).size + (allB l).size < _); omega, h.right⟩]
theorem allB_size : ∀ r : List Part, (∀ p ∈ r, Fine p) → (allB r).size ≤ 60000 * r.length
  | [], _ => Nat.le_refl _
  | p :: r, h => by
    have h1 := allB_size r (fun z hz => h z (List.mem_cons_of_mem _ hz))
    have h2 := entB_size (h p List.mem_cons_self)
    rw [allB, ByteArray.size_append, List.length_cons]
    omega
theorem encS_size (l : List Part) (h : Good l) : (encS l).size ≤ 1073741824 := by
  have h1 := good_len h
  have h2 := allB_size l (fun p hp => fine_of (h.chk p hp))
  have h3 := num_size (l.length : Int)
  unfold encS
  rw [ByteArray.size_append]
  omega
/-! ### In one form alone -/
theorem rdPc_e (s : ByteArray) : ∀ (n a : Nat) (e : Int) (acc : List Piece), (rdPc s n a e acc).2.2 = 0 → e = 0 ∧ ∃ r, (rdPc s n a e acc).1 = acc ++ r ∧ r.length = n ∧ s.data.toList.drop a = (pcB r).data.toList ++ s.data.toList.drop (rdPc s n a e acc).2.1
  | 0, a, e, acc, h => ⟨h, [], by rw [List.append_nil]; rfl, rfl, rfl⟩
  | n + 1, a, e, acc, h => by
    rw [rdPc] at h ⊢
    obtain ⟨h1, r, h2, h3, h4⟩ := rdPc_e s n _ _ _ h
    obtain ⟨g1, m, g2, g3, g4⟩ := xn_e s _ _ 4096 h1
    obtain ⟨f1, m', f2, f3, f4⟩ := xt_e s a e 64 g1
    have e1 : (xt s a e 64).2.1.toNat = m' := by omega
    have e2 : (xn s (xt s a e 64).2.1.toNat (xt s a e 64).2.2 4096).2.1.toNat = m := by omega
    refine ⟨f1, ⟨(xt s a e 64).1, (xn s (xt s a e 64).2.1.toNat (xt s a e 64).2.2 4096).1⟩ :: r, ?_, by rw [List.length_cons, h3], ?_⟩
    · rw [h2, List.append_assoc]
      rfl
    · rw [e2] at h4
      rw [← e1] at f4
      rw [pcB, ba_list, ba_list, List.append_assoc, List.append_assoc]
      show _ = (txt (xt s a e 64).1).data.toList ++ ((num (xn s (xt s a e 64).2.1.toNat (xt s a e 64).2.2 4096).1).data.toList ++ _)
      rw [f4, g4, h4, e2]
theorem rdPts_e (s : ByteArray) : ∀ (n a : Nat) (e : Int) (acc : List Part), a ≤ s.size → (rdPts s n a e acc).2.2 = 0 → e = 0 ∧ ∃ r, (rdPts s n a e acc).1 = acc ++ r ∧ r.length = n ∧ s.data.toList.drop a = (allB r).data.toList ++ s.data.toList.drop (rdPts s n a e acc).2.1
  | 0, a, e, acc, ha, h => ⟨h, [], by rw [List.append_nil]; rfl, rfl, rfl⟩
  | n + 1, a, e, acc, ha, h => by
    have H := pt_ok s a e ha
    rw [rdPts] at h ⊢
    obtain ⟨h1, r, h2, h3, h4⟩ := rdPts_e s n _ _ _ H.l4 h
    obtain ⟨d1, m4, d2, d3, d4⟩ := xt_e s (pt3 s a e).2.1 (pt3 s a e).2.2 64 h1
    obtain ⟨c1, q, c2, c3, c4⟩ := rdPc_e s (pt2 s a e).1.toNat (pt2 s a e).2.1.toNat (pt2 s a e).2.2 [] d1
    obtain ⟨b1, m2, b2, b3, b4⟩ := xn_e s (pt1 s a e).2.1.toNat (pt1 s a e).2.2 512 c1
    obtain ⟨a1, m1, a2, a3, a4⟩ := xn_e s a e 100 b1
    refine ⟨a1, ptP s a e :: r, ?_, by rw [List.length_cons, h3], ?_⟩
    · rw [h2, List.append_assoc]
      rfl
    · have hq : (pt3 s a e).1 = q := c2
      have e1 : (pt1 s a e).2.1.toNat = m1 := by have : (pt1 s a e).2.1 = (m1 : Int) := a2; omega
      have e2 : (pt2 s a e).2.1.toNat = m2 := by have : (pt2 s a e).2.1 = (m2 : Int) := b2; omega
      have e4 : (pt4 s a e).2.1.toNat = m4 := by have : (pt4 s a e).2.1 = (m4 : Int) := d2; omega
      have hn : ((pt3 s a e).1.length : Int) = (pt2 s a e).1 := by have h5 := H.n2; have h6 := H.n3; omega
      rw [allB]
      unfold entB
      rw [ba_list, ba_list, ba_list, ba_list, List.append_assoc, List.append_assoc, List.append_assoc, List.append_assoc]
      show _ = (num (pt1 s a e).1).data.toList ++ ((num ((pt3 s a e).1.length : Int)).data.toList ++ ((pcB (pt3 s a e).1).data.toList ++ ((txt (pt4 s a e).1).data.toList ++ _)))
      rw [hn, hq]
      have a5 : s.data.toList.drop a = (num (pt1 s a e).1).data.toList ++ s.data.toList.drop m1 := a4
      have b5 : s.data.toList.drop (pt1 s a e).2.1.toNat = (num (pt2 s a e).1).data.toList ++ s.data.toList.drop m2 := b4
      have c5 : s.data.toList.drop (pt2 s a e).2.1.toNat = (pcB q).data.toList ++ s.data.toList.drop (pt3 s a e).2.1 := c4
      have d5 : s.data.toList.drop (pt3 s a e).2.1 = (txt (pt4 s a e).1).data.toList ++ s.data.toList.drop m4 := d4
      rw [e1] at b5
      rw [e2] at c5
      rw [e4] at h4
      rw [a5, b5, c5, d5, h4, e4]
theorem decS_only (s : ByteArray) (h : (decS s).2 = 0) : rB none (decS s).1 = true ∧ s.data.toList = (encS (decS s).1).data.toList := by
  unfold decS at h ⊢
  by_cases hc : (rdAll s).2.2 = 0 ∧ ¬ (rdAll s).2.1 < s.size ∧ rB none (rdAll s).1 = true
  · rw [if_pos hc] at h ⊢
    obtain ⟨h1, h2, h3⟩ := hc
    refine ⟨h3, ?_⟩
    obtain ⟨g4, g5, g6, g7⟩ := xn_nat s 0 (Nat.zero_le _) 0 100 (by decide)
    obtain ⟨e1, r, e2, e3, e4⟩ := rdPts_e s _ _ _ [] g5 h1
    obtain ⟨f1, m, f2, f3, f4⟩ := xn_e s 0 0 100 e1
    have hr : (rdAll s).1 = r := e2
    have hm : (xn s 0 0 100).2.1.toNat = m := by omega
    have e5 : s.data.toList.drop (xn s 0 0 100).2.1.toNat = (allB r).data.toList ++ s.data.toList.drop (rdAll s).2.1 := e4
    rw [List.drop_of_length_le (show s.data.toList.length ≤ (rdAll s).2.1 by rw [len_eq]; omega), List.append_nil, hm] at e5
    rw [List.drop_zero, e5] at f4
    show _ = (encS (rdAll s).1).data.toList
    unfold encS
    rw [hr, ba_list, f4, e3, ← g6]
  · rw [if_neg hc] at h
    exact absurd h (by decide)
end Go.Proofs.YtoiockmmlanimaaDoor.Pure
end
section
/- PartsBack, the plain side. No program in sight. -/
namespace Go.Proofs.YtoiockmmlanimaaDoor.Pure
open Go.RowKit Go.Proofs.YtoiockmmlanimaaDoor.Ok Go.Proofs.YtoiockmmlanimaaDoorW.PrintWords Go.Proofs.YtoiockmmlanimaaDoorW.PrintLast Go.Proofs.YtoiockmmlanimaaDoorW.PrintMore
set_option linter.unusedVariables false
set_option linter.unusedSimpArgs false
theorem ba_toList (a : ByteArray) : a.toList = a.data.toList := ByteArray.toList_eq a
theorem back_end (s : ByteArray) (hs : s.size ≤ 1048576) (k : Nat) (hk : 700000000 ≤ k) : stowagelaw14_PartsBack.j0 (k + 1) s = some true := by
  obtain ⟨d1, d2⟩ := decS_small s (by omega)
  rw [stowagelaw14_PartsBack.j0, pdec_eq s (by omega) k (by omega), Option.bind_some]
  by_cases h : (decS s).2 = 0
  · obtain ⟨h1, h2⟩ := decS_only s h
    rw [if_pos h, penc_eq (decS s).1 d1 k (by omega), Option.bind_some, awake_true k (by omega), Option.bind_some, if_pos rfl, if_pos h1, if_pos rfl]
    show some ((encS (decS s).1).toList == s.toList) = _
    rw [ba_toList, ba_toList, h2]
    simp
  · rw [if_neg h, awake_true k (by omega), Option.bind_some, if_pos rfl]
    have : (decS s).1 = [] := by
      unfold decS at h ⊢
      split
      · rename_i hc
        rw [if_pos hc] at h
        exact absurd rfl h
      · rfl
    rw [this]
    rfl
theorem PartsBack_true (l : List Part) (s : ByteArray) (hl : Small l) (hs : s.size ≤ 1048576) : ∃ k, stowagelaw14_PartsBack.f k l s = some true := by
  refine ⟨800000000, ?_⟩
  generalize hk : (800000000 : Nat) = k
  obtain ⟨k, rfl⟩ : ∃ j, k = j + 1 := ⟨k - 1, by omega⟩
  have hll := hl.len
  unfold stowagelaw14_PartsBack.f
  rw [penc_eq l hl (k + 1) (by omega), Option.bind_some]
  by_cases h : rB none l = true
  · have hg := Good.of hl h
    rw [if_pos h]
    show (if (0 : Int) = 0 then (parts_Decode.f (k + 1) (encS l)).bind _ else _) = _
    rw [if_pos rfl, pdec_eq (encS l) (encS_size l hg) (k + 1) (by omega), decS_back l hg, Option.bind_some]
    show (if (0 : Int) = 0 then (stowagelaw14_Refs.f (k + 1) l).bind _ else _) = _
    rw [if_pos rfl, refs_eq l hll (fun p hp => (hl.each p hp).len) (k + 1) (by omega), Option.bind_some, Option.bind_some, same_eq _ (by rw [List.length_map]; exact hll) (fun p hp => by
      obtain ⟨q, hq, rfl⟩ := List.mem_map.1 hp
      show (q.f3.map refC).length ≤ _
      rw [List.length_map]
      exact (hl.each q hq).len) (k + 1) (by omega), Option.bind_some, if_pos rfl]
    exact back_end s hs k (by omega)
  · rw [if_neg h]
    show (if (1 : Int) = 0 then _ else _) = _
    rw [if_neg (by decide)]
    exact back_end s hs k (by omega)
end Go.Proofs.YtoiockmmlanimaaDoor.Pure
end
