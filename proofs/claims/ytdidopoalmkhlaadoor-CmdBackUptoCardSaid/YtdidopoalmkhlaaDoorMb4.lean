/- Merged of several texts of this session's by merge.py. -/
import Derived.Test.YtdidopoalmkhlaaDoorMb3
import Derived.Test.YtdidopoalmkhlaaDoorMb2
section
namespace Go.Proofs.YtdidopoalmkhlaaDoor.Ob
open Go.RowKit Go.Proofs.YtdidopoalmkhlaaDoorW.PrintWords Go.Proofs.YtdidopoalmkhlaaDoorW.PrintLast Go.Proofs.YtdidopoalmkhlaaDoorW.PrintMore
attribute [local go_sem] max2_int min2_int max_two min_two max_three min_three max_four min_four
set_option linter.unusedVariables false
set_option linter.unusedSimpArgs false
mutual
def names_Bucket.j0 : Nat → ByteArray → Bool → Option (Bool)
 | 0, _, _ => none
 | k + 1, x0, x30 => if x30 = true then (some false) else (names_Bucket.l0 k x0 (x0.size : Int) 0)
def names_Bucket.l0 : Nat → ByteArray → Int → Int → Option (Bool)
 | 0, _, _, _ => none
 | k + 1, x0, x32, x33 => if x33 < x32 then (if 0 ≤ x33 then (if x33 < (x0.size : Int) then ((names_plain.f (bt x0 x33)).bind fun t115 => (if t115 = true then (names_Bucket.l0 k x0 x32 (wrap64 (x33 + 1))) else (if (bt x0 x33) = 46 then (names_Bucket.l0 k x0 x32 (wrap64 (x33 + 1))) else (if (bt x0 x33) = 45 then (names_Bucket.l0 k x0 x32 (wrap64 (x33 + 1))) else (some false))))) else (none)) else (none)) else (some true)
end
def names_Bucket.f (k : Nat) (a0 : ByteArray) : Option (Bool) := if (a0.size : Int) < 3 then (names_Bucket.j0 k a0 true) else (if (a0.size : Int) > 63 then (names_Bucket.j0 k a0 true) else (if 0 < (a0.size : Int) then ((names_plain.f (bt a0 0)).bind fun t112 => (if t112 = true then (if 0 ≤ (wrap64 ((a0.size : Int) - 1)) then (if (wrap64 ((a0.size : Int) - 1)) < (a0.size : Int) then ((names_plain.f (bt a0 (wrap64 ((a0.size : Int) - 1)))).bind fun t113 => (if t113 = true then ((strings_Contains.f a0 (⟨#[46, 46]⟩ : ByteArray)).bind fun t114 => (names_Bucket.j0 k a0 t114)) else (names_Bucket.j0 k a0 true))) else (none)) else (none)) else (names_Bucket.j0 k a0 true))) else (none)))
theorem names_Bucket.mono_l : ∀ k, (∀ y0 y1, LeO (names_Bucket.j0 k y0 y1) (names_Bucket.j0 (k + 1) y0 y1)) ∧ (∀ y0 y1 y2, LeO (names_Bucket.l0 k y0 y1 y2) (names_Bucket.l0 (k + 1) y0 y1 y2))
 | 0 => ⟨fun _ _ r h => by simp [names_Bucket.j0] at h, fun _ _ _ r h => by simp [names_Bucket.l0] at h⟩
 | k + 1 => by
  obtain ⟨ih0, ih1⟩ := names_Bucket.mono_l k
  refine ⟨?_, ?_⟩
  all_goals intros
  all_goals first | unfold names_Bucket.j0 | unfold names_Bucket.l0
  all_goals repeat' (with_reducible first | exact ih0 _ _ | exact ih1 _ _ _ | exact LeO.refl _ | exact LeO.none _ | refine LeO.ite ?_ ?_ | refine LeO.bind ?_ (fun _ => ?_))
theorem names_Bucket.mono : ∀ a0 k, LeO (names_Bucket.f k a0) (names_Bucket.f (k + 1) a0) := by
 intro a0 k
 obtain ⟨ih0, ih1⟩ := names_Bucket.mono_l k
 unfold names_Bucket.f
 repeat' (with_reducible first | exact ih0 _ _ | exact ih1 _ _ _ | exact LeO.refl _ | exact LeO.none _ | refine LeO.ite ?_ ?_ | refine LeO.bind ?_ (fun _ => ?_))
set_option maxHeartbeats 8000000 in
set_option maxRecDepth 100000 in
theorem names_Bucket.calls (k : Nat) (a0 : ByteArray) (r : Bool) (w : World) (h : names_Bucket.f k a0 = some r) (hG : GG w) :
  Calls Tryd.prog 35 #[.string a0] w fun e w' => e = .returned (.bool r) ∧ Drawn0 w w' := by
 have HG := am hG
 clear hG
 have H := h
 clear h
 unfold names_Bucket.f at H
 have HC2 := am H
 clear H
 go_enter Tryd.func35, Tryd.ntmps35
 go_upto_region 1 with (fail)
 go_cut [30] (fun v30 wc => ∃ (kq : Nat) (x30_1 : Bool), v30 = .bool x30_1 ∧ Aside0 (names_Bucket.j0 kq a0 x30_1 = some r) ∧ Aside0 (kq ≤ k) ∧ Drawn0 w wc)
 case first =>
  have H := HC2.out
  clear HC2
  by_cases c3 : (a0.size : Int) < 3
  ·
   rw [if_pos c3] at H
   have c3b0 := decide_eq_true c3
   have c3b1 : decide (a0.size < 3) = true := decide_eq_true (by omega)
   clear c3
   (first | rw [c3b0] | (simp only [i64_w, i32_w]; rw [c3b0]) | skip)
   have H' := am H
   clear H
   go_wp2
   go_meet
   case rel => exact ⟨_, (true), rs, H', ⟨om⟩, by repeat (first | exact Drawn0.refl _ | apply Drawn0.step)⟩
  ·
   rw [if_neg c3] at H
   have c3b0 := decide_eq_false c3
   have c3b1 : decide (a0.size < 3) = false := decide_eq_false (by omega)
   clear c3
   (first | rw [c3b0] | (simp only [i64_w, i32_w]; rw [c3b0]) | skip)
   by_cases c4 : (a0.size : Int) > 63
   ·
    rw [if_pos c4] at H
    have c4b0 := decide_eq_true c4
    have c4b1 : decide (63 < a0.size) = true := decide_eq_true (by omega)
    clear c4
    have H' := am H
    clear H
    go_wp2
    go_meet
    case rel => exact ⟨_, (true), rs, H', ⟨om⟩, by repeat (first | exact Drawn0.refl _ | apply Drawn0.step)⟩
   ·
    rw [if_neg c4] at H
    have c4b0 := decide_eq_false c4
    have c4b1 : decide (63 < a0.size) = false := decide_eq_false (by omega)
    clear c4
    by_cases c5 : 0 < (a0.size : Int)
    ·
     rw [if_pos c5] at H
     have c5b0 := decide_eq_true c5
     have c5b1 : decide (0 < a0.size) = true := decide_eq_true (by omega)
     clear c5
     replace H := obE H
     obtain ⟨t112, A7, H⟩ := H
     by_cases c8 : t112 = true
     ·
      subst c8
      rw [if_pos rfl] at H
      obtain ⟨ji9, hji9⟩ : ∃ j_ : Int, (wrap64 ((a0.size : Int) - 1)) = j_ := ⟨_, rfl⟩
      replace H : (if 0 ≤ (ji9) then (if (ji9) < (a0.size : Int) then ((names_plain.f (bt a0 (ji9))).bind fun t113 => (if t113 = true then ((strings_Contains.f a0 (⟨#[46, 46]⟩ : ByteArray)).bind fun t114 => (names_Bucket.j0 k a0 t114)) else (names_Bucket.j0 k a0 true))) else (none)) else (none)) = some r := by first | (rw [hji9] at H; exact H) | (simp only [hji9] at H ⊢; exact H)
      (try rw [hji9] at A7)
      have hji9w : (IntKind.i64.wrap ((a0.size : Int) - 1)) = ji9 := (i64_w _).trans hji9
      replace H := iteD H
      rcases H with ⟨c10b0, H⟩ | ⟨_, H⟩
      ·
       replace H := iteD H
       rcases H with ⟨c11b0, H⟩ | ⟨_, H⟩
       ·
        replace H := obE H
        obtain ⟨t113, A13, H⟩ := H
        by_cases c14 : t113 = true
        ·
         subst c14
         rw [if_pos rfl] at H
         replace H := obE H
         obtain ⟨t114, A15, H⟩ := H
         have H' := am H
         clear H
         have p6 : 0 ≤ (0 : Int) := (by omega)
         have q6 : 0 < a0.size := (by have : (0 : Int) < (a0.size : Int) := of_decide_eq_true asm; omega)
         have hx6 : ∀ h : 0 < a0.size, ((a0[0]'h).toNat : Int) = bt a0 0 := bt_at a0 0
         clear p6
         have qi6 : (0 < (a0.size : Int)) = True := eq_true (of_decide_eq_true asm)
         replace q6 := eq_true q6
         go_wp2_with (first | (go_at_call 73; (with_reducible refine (names_plain.calls (bt a0 0) true _ A7.out).mono ?_); rintro e w' ⟨rfl, ⟨nd, rfl⟩⟩; have p12 : 0 ≤ ((ji9) : Int) := of_decide_eq_true asm; have q12 : (ji9) < (a0.size : Int) := of_decide_eq_true asm; have hx12 := bt_at a0 (ji9); replace p12 := eq_true p12; replace q12 := eq_true q12; clear A7) | (go_at_call 73; (with_reducible refine (names_plain.calls (bt a0 (ji9)) true _ A13.out).mono ?_); rintro e w' ⟨rfl, ⟨nd, rfl⟩⟩; clear A13) | (go_at_call 74; (with_reducible refine (strings_Contains.calls a0 (⟨#[46, 46]⟩ : ByteArray) t114 _ A15.out ?sideG).mono ?_); (case sideG => first | exact HG.out | exact gg_below HG.out (bw HB.out)); rintro e w' ⟨rfl, ⟨nd, rfl⟩⟩))
         go_meet
         case rel => exact ⟨_, (t114), rs, H', ⟨om⟩, by repeat (first | exact Drawn0.refl _ | apply Drawn0.step)⟩
        ·
         replace c14 := Bool.eq_false_iff.mpr c14
         subst c14
         rw [if_neg (show ¬ (false = true) by decide)] at H
         have H' := am H
         clear H
         have p6 : 0 ≤ (0 : Int) := (by omega)
         have q6 : 0 < a0.size := (by have : (0 : Int) < (a0.size : Int) := of_decide_eq_true asm; omega)
         have hx6 : ∀ h : 0 < a0.size, ((a0[0]'h).toNat : Int) = bt a0 0 := bt_at a0 0
         clear p6
         have qi6 : (0 < (a0.size : Int)) = True := eq_true (of_decide_eq_true asm)
         replace q6 := eq_true q6
         go_wp2_with (first | (go_at_call 73; (with_reducible refine (names_plain.calls (bt a0 0) true _ A7.out).mono ?_); rintro e w' ⟨rfl, ⟨nd, rfl⟩⟩; have p12 : 0 ≤ ((ji9) : Int) := of_decide_eq_true asm; have q12 : (ji9) < (a0.size : Int) := of_decide_eq_true asm; have hx12 := bt_at a0 (ji9); replace p12 := eq_true p12; replace q12 := eq_true q12; clear A7) | (go_at_call 73; (with_reducible refine (names_plain.calls (bt a0 (ji9)) false _ A13.out).mono ?_); rintro e w' ⟨rfl, ⟨nd, rfl⟩⟩; clear A13))
         go_meet
         case rel => exact ⟨_, (true), rs, H', ⟨om⟩, by repeat (first | exact Drawn0.refl _ | apply Drawn0.step)⟩
       ·
        exact absurd H (by simp)
      ·
       exact absurd H (by simp)
     ·
      replace c8 := Bool.eq_false_iff.mpr c8
      subst c8
      rw [if_neg (show ¬ (false = true) by decide)] at H
      have H' := am H
      clear H
      have p6 : 0 ≤ (0 : Int) := (by omega)
      have q6 : 0 < a0.size := (by have : (0 : Int) < (a0.size : Int) := of_decide_eq_true asm; omega)
      have hx6 : ∀ h : 0 < a0.size, ((a0[0]'h).toNat : Int) = bt a0 0 := bt_at a0 0
      clear p6
      have qi6 : (0 < (a0.size : Int)) = True := eq_true (of_decide_eq_true asm)
      replace q6 := eq_true q6
      go_wp2_with (first | (go_at_call 73; (with_reducible refine (names_plain.calls (bt a0 0) false _ A7.out).mono ?_); rintro e w' ⟨rfl, ⟨nd, rfl⟩⟩))
      go_meet
      case rel => exact ⟨_, (true), rs, H', ⟨om⟩, by repeat (first | exact Drawn0.refl _ | apply Drawn0.step)⟩
    ·
     rw [if_neg c5] at H
     exact absurd H (by simp)
 case rest =>
  clear HC2
  try clear c1
  try clear p1
  try clear q1
  try clear hx1
  try clear p2
  try clear c3
  try clear c3b0
  try clear c3b1
  try clear c4
  try clear c4b0
  try clear c4b1
  try clear c5
  try clear c5b0
  try clear c5b1
  try clear p6
  try clear q6
  try clear hx6
  try clear qi6
  try clear c8
  try clear c10
  try clear c10b0
  try clear c11
  try clear c11b0
  try clear p12
  try clear q12
  try clear hx12
  try clear c14
  try clear p12
  try clear p6
  try clear q12
  try clear q6
  obtain ⟨kq, x30_1, rfl, HA, HJ1, ⟨mc1, rfl⟩⟩ := hcut
  cases kq with
  | zero => exact absurd HA.out (by simp [names_Bucket.j0])
  | succ kj1 =>
   have H := HA.out
   clear HA
   simp only [names_Bucket.j0] at H
   by_cases c16 : x30_1 = true
   ·
    subst c16
    rw [if_pos rfl] at H
    obtain rfl := Option.some.inj H
    go_wp2
    go_ret
    exact ⟨by first | rfl | (simp; done) | (simp [*]; done), by repeat (first | exact Drawn0.refl _ | apply Drawn0.step)⟩
   ·
    replace c16 := Bool.eq_false_iff.mpr c16
    subst c16
    rw [if_neg (show ¬ (false = true) by decide)] at H
    have H' := am H
    clear H
    go_wp2
    go_loopg [33] kj1 (fun kq v33 w' => ∃ (x33_2 : Int), v33 = .int .i64 x33_2 ∧ Aside0 (names_Bucket.l0 kq a0 (a0.size : Int) x33_2 = some r) ∧ Aside0 (kq ≤ kj1) ∧ Drawn0 w w')
    case atStart => exact ⟨(0), rs, H', ⟨Nat.le_refl _⟩, by repeat (first | exact Drawn0.refl _ | apply Drawn0.step)⟩
    case round =>
     clear H'
     try clear c1
     try clear p1
     try clear q1
     try clear hx1
     try clear p2
     try clear c3
     try clear c3b0
     try clear c3b1
     try clear c4
     try clear c4b0
     try clear c4b1
     try clear c5
     try clear c5b0
     try clear c5b1
     try clear p6
     try clear q6
     try clear hx6
     try clear qi6
     try clear c8
     try clear c10
     try clear c10b0
     try clear c11
     try clear c11b0
     try clear p12
     try clear q12
     try clear hx12
     try clear c14
     try clear c16
     try clear p1
     try clear p12
     try clear p2
     try clear p6
     try clear q1
     try clear q12
     try clear q6
     obtain ⟨x33_2, rfl, HA, HK2, ⟨m2, rfl⟩⟩ := hrel
     cases gk with
     | zero => exact absurd HA.out (by simp [names_Bucket.l0])
     | succ k2 =>
      have H := HA.out
      clear HA
      simp only [names_Bucket.l0] at H
      replace H := iteD H
      rcases H with ⟨c17b0, H⟩ | ⟨c17b0, H⟩
      ·
       replace H := iteD H
       rcases H with ⟨c18b0, H⟩ | ⟨_, H⟩
       ·
        replace H := iteD H
        rcases H with ⟨c19b0, H⟩ | ⟨_, H⟩
        ·
         replace H := obE H
         obtain ⟨t115, A21, H⟩ := H
         by_cases c22 : t115 = true
         ·
          subst c22
          rw [if_pos rfl] at H
          have H' := am H
          clear H
          have p20 := pz x33_2
          have q20 := pl x33_2 (a0.size : Int)
          have hx20 := bt_at a0 x33_2
          go_wp2_with (first | ((with_reducible refine gate_callee (f := 73) rfl ?_); refine goesL_ (some 39) rfl rfl Tryd.func73 (by kernel_rfl) rfl #[.int .u8 (bt a0 x33_2)] rfl gl ?_; (with_reducible refine (names_plain.calls (bt a0 x33_2) true _ A21.out).mono ?_); rintro e w' ⟨rfl, ⟨nd, rfl⟩⟩; refine ⟨_, rfl, ?_⟩))
          go_roundg k2
          case measure => have := HJ1.out; have := HK2.out; omega
          case rel => exact ⟨(wrap64 (x33_2 + 1)), rs, H', ⟨by have := HJ1.out; have := HK2.out; omega⟩, by repeat (first | exact Drawn0.refl _ | apply Drawn0.step)⟩
         ·
          replace c22 := Bool.eq_false_iff.mpr c22
          subst c22
          rw [if_neg (show ¬ (false = true) by decide)] at H
          by_cases c24 : (bt a0 x33_2) = 46
          ·
           rw [if_pos c24] at H
           have c24b0 := beq_iff_eq.mpr c24
           have c24b1 := bne_eq_false_iff_eq.mpr c24
           clear c24
           have H' := am H
           clear H
           have p20 := pz x33_2
           have q20 := pl x33_2 (a0.size : Int)
           have hx20 := bt_at a0 x33_2
           go_wp2_with (first | ((with_reducible refine gate_callee (f := 73) rfl ?_); refine goesL_ (some 39) rfl rfl Tryd.func73 (by kernel_rfl) rfl #[.int .u8 (bt a0 x33_2)] rfl gl ?_; (with_reducible refine (names_plain.calls (bt a0 x33_2) false _ A21.out).mono ?_); rintro e w' ⟨rfl, ⟨nd, rfl⟩⟩; refine ⟨_, rfl, ?_⟩; have p23 : 0 ≤ (x33_2 : Int) := of_decide_eq_true asm; have q23 : x33_2 < (a0.size : Int) := of_decide_eq_true asm; have hx23 := bt_at a0 x33_2; replace p23 := eq_true p23; replace q23 := eq_true q23))
           go_roundg k2
           case measure => have := HJ1.out; have := HK2.out; omega
           case rel => exact ⟨(wrap64 (x33_2 + 1)), rs, H', ⟨by have := HJ1.out; have := HK2.out; omega⟩, by repeat (first | exact Drawn0.refl _ | apply Drawn0.step)⟩
          ·
           rw [if_neg c24] at H
           have c24b0 := beq_eq_false_iff_ne.mpr c24
           have c24b1 := bne_iff_ne.mpr c24
           by_cases c26 : (bt a0 x33_2) = 45
           ·
            rw [if_pos c26] at H
            have c26b0 := beq_iff_eq.mpr c26
            have c26b1 := bne_eq_false_iff_eq.mpr c26
            clear c26
            have H' := am H
            clear H
            have p20 := pz x33_2
            have q20 := pl x33_2 (a0.size : Int)
            have hx20 := bt_at a0 x33_2
            go_wp2_with (first | ((with_reducible refine gate_callee (f := 73) rfl ?_); refine goesL_ (some 39) rfl rfl Tryd.func73 (by kernel_rfl) rfl #[.int .u8 (bt a0 x33_2)] rfl gl ?_; (with_reducible refine (names_plain.calls (bt a0 x33_2) false _ A21.out).mono ?_); rintro e w' ⟨rfl, ⟨nd, rfl⟩⟩; refine ⟨_, rfl, ?_⟩; have p23 : 0 ≤ (x33_2 : Int) := of_decide_eq_true asm; have q23 : x33_2 < (a0.size : Int) := of_decide_eq_true asm; have hx23 := bt_at a0 x33_2; replace p23 := eq_true p23; replace q23 := eq_true q23; have p25 : 0 ≤ (x33_2 : Int) := of_decide_eq_true asm; have q25 : x33_2 < (a0.size : Int) := of_decide_eq_true asm; have hx25 := bt_at a0 x33_2; replace p25 := eq_true p25; replace q25 := eq_true q25))
            go_roundg k2
            case measure => have := HJ1.out; have := HK2.out; omega
            case rel => exact ⟨(wrap64 (x33_2 + 1)), rs, H', ⟨by have := HJ1.out; have := HK2.out; omega⟩, by repeat (first | exact Drawn0.refl _ | apply Drawn0.step)⟩
           ·
            rw [if_neg c26] at H
            have c26b0 := beq_eq_false_iff_ne.mpr c26
            have c26b1 := bne_iff_ne.mpr c26
            obtain rfl := Option.some.inj H
            have p20 := pz x33_2
            have q20 := pl x33_2 (a0.size : Int)
            have hx20 := bt_at a0 x33_2
            go_wp2_with (first | ((with_reducible refine gate_callee (f := 73) rfl ?_); refine goesL_ (some 39) rfl rfl Tryd.func73 (by kernel_rfl) rfl #[.int .u8 (bt a0 x33_2)] rfl gl ?_; (with_reducible refine (names_plain.calls (bt a0 x33_2) false _ A21.out).mono ?_); rintro e w' ⟨rfl, ⟨nd, rfl⟩⟩; refine ⟨_, rfl, ?_⟩; have p23 : 0 ≤ (x33_2 : Int) := of_decide_eq_true asm; have q23 : x33_2 < (a0.size : Int) := of_decide_eq_true asm; have hx23 := bt_at a0 x33_2; replace p23 := eq_true p23; replace q23 := eq_true q23; have p25 : 0 ≤ (x33_2 : Int) := of_decide_eq_true asm; have q25 : x33_2 < (a0.size : Int) := of_decide_eq_true asm; have hx25 := bt_at a0 x33_2; replace p25 := eq_true p25; replace q25 := eq_true q25))
            go_ret
            exact ⟨by first | rfl | (simp; done) | (simp [*]; done), by repeat (first | exact Drawn0.refl _ | apply Drawn0.step)⟩
        ·
         exact absurd H (by simp)
       ·
        exact absurd H (by simp)
      ·
       obtain rfl := Option.some.inj H
       go_wp2
       go_ret
       exact ⟨by first | rfl | (simp; done) | (simp [*]; done), by repeat (first | exact Drawn0.refl _ | apply Drawn0.step)⟩
def names_Key.f (a0 : ByteArray) : Option (Bool) := if a0.toList = ([] : List UInt8) then (some false) else (if (a0.size : Int) ≤ 1024 then ((strings_Contains.f a0 (⟨#[0]⟩ : ByteArray)).bind fun t116 => (some (!t116))) else (some false))
set_option maxHeartbeats 8000000 in
set_option maxRecDepth 100000 in
theorem names_Key.calls (a0 : ByteArray) (r : Bool) (w : World) (h : names_Key.f a0 = some r) (hG : GG w) :
  Calls Tryd.prog 36 #[.string a0] w fun e w' => e = .returned (.bool r) ∧ Drawn0 w w' := by
 have HG := am hG
 clear hG
 have H := h
 clear h
 unfold names_Key.f at H
 by_cases c2 : a0.toList = ([] : List UInt8)
 ·
  rw [if_pos c2] at H
  have c2b0 := beq_iff_eq.mpr c2
  have c2b1 := bne_eq_false_iff_eq.mpr c2
  clear c2
  obtain rfl := Option.some.inj H
  go_enter Tryd.func36, Tryd.ntmps36
  go_wp2
  go_ret
  exact ⟨by first | rfl | (simp; done) | (simp [*]; done), by repeat (first | exact Drawn0.refl _ | apply Drawn0.step)⟩
 ·
  rw [if_neg c2] at H
  have c2b0 := beq_eq_false_iff_ne.mpr c2
  have c2b1 := bne_iff_ne.mpr c2
  by_cases c3 : (a0.size : Int) ≤ 1024
  ·
   rw [if_pos c3] at H
   have c3b0 := decide_eq_true c3
   have c3b1 : decide (a0.size ≤ 1024) = true := decide_eq_true (by omega)
   clear c3
   replace H := obE H
   obtain ⟨t116, A4, H⟩ := H
   obtain rfl := Option.some.inj H
   go_enter Tryd.func36, Tryd.ntmps36
   go_wp2_with (first | (go_at_call 74; (with_reducible refine (strings_Contains.calls a0 (⟨#[0]⟩ : ByteArray) t116 _ A4.out ?sideG).mono ?_); (case sideG => first | exact HG.out | exact gg_below HG.out (bw HB.out)); rintro e w' ⟨rfl, ⟨nd, rfl⟩⟩))
   go_ret
   exact ⟨by first | rfl | (simp; done) | (simp [*]; done), by repeat (first | exact Drawn0.refl _ | apply Drawn0.step)⟩
  ·
   rw [if_neg c3] at H
   have c3b0 := decide_eq_false c3
   have c3b1 : decide (a0.size ≤ 1024) = false := decide_eq_false (by omega)
   clear c3
   obtain rfl := Option.some.inj H
   go_enter Tryd.func36, Tryd.ntmps36
   go_wp2
   go_ret
   exact ⟨by first | rfl | (simp; done) | (simp [*]; done), by repeat (first | exact Drawn0.refl _ | apply Drawn0.step)⟩
end Go.Proofs.YtdidopoalmkhlaaDoor.Ob
end
section
namespace Go.Proofs.YtdidopoalmkhlaaDoor.Ob
open Go.RowKit Go.Proofs.YtdidopoalmkhlaaDoorW.PrintWords Go.Proofs.YtdidopoalmkhlaaDoorW.PrintLast Go.Proofs.YtdidopoalmkhlaaDoorW.PrintMore
attribute [local go_sem] max2_int min2_int max_two min_two max_three min_three max_four min_four
set_option linter.unusedVariables false
set_option linter.unusedSimpArgs false
def digest_Unhex.f (a0 : ByteArray) : Option (ByteArray × Int) := Sha.unhexF a0
theorem digest_Unhex.calls (a0 : ByteArray) (r1 : ByteArray) (r2 : Int) (w : World) (h : digest_Unhex.f a0 = some (r1, r2)) :
  Calls Tryd.prog 75 #[.string a0] w fun e w' => e = .returned (.tuple #[.string r1, .int .i64 r2]) ∧ Below w.heap.size w w' := by
 unfold digest_Unhex.f Sha.unhexF at h
 split at h
 ·
  rename_i hc
  have h1 := Option.some.inj h
  have e1 : (Sha.unhexR (Sha.unhexL a0.data.toList)).1 = r1 := congrArg Prod.fst h1
  have e2 : (Sha.unhexR (Sha.unhexL a0.data.toList)).2 = r2 := congrArg Prod.snd h1
  rw [← e1, ← e2]
  exact Sha.Unhex a0 hc w
 ·
  cases h
def cmd_digits.f (a0 : ByteArray) : Option (Bool) := (digest_Unhex.f a0).bind fun bt117 => (if bt117.2 = 0 then (some ((bt117.1.size : Int) == 32)) else (some false))
set_option maxHeartbeats 8000000 in
set_option maxRecDepth 100000 in
theorem cmd_digits.calls (a0 : ByteArray) (r : Bool) (w : World) (h : cmd_digits.f a0 = some r) :
  Calls Tryd.prog 37 #[.string a0] w fun e w' => e = .returned (.bool r) ∧ Below w.heap.size w w' := by
 have HB := am (Below.refl w.heap.size w)
 have H := h
 clear h
 unfold cmd_digits.f at H
 replace H := obE H
 obtain ⟨⟨t117, t118⟩, A2, H⟩ := H
 try dsimp only at H
 by_cases c3 : t118 = 0
 ·
  rw [if_pos c3] at H
  have c3b0 := beq_iff_eq.mpr c3
  have c3b1 := bne_eq_false_iff_eq.mpr c3
  clear c3
  obtain rfl := Option.some.inj H
  go_enter Tryd.func37, Tryd.ntmps37
  go_wp2_with (first | ((with_reducible refine gate_callee (f := 75) rfl ?_); refine goesL_ (some 7) rfl rfl Tryd.func75 (by kernel_rfl) rfl #[.string a0] rfl gl ?_; (with_reducible refine (digest_Unhex.calls a0 t117 t118 _ A2.out).mono ?_); rintro e w4 ⟨rfl, hb⟩; refine ⟨_, rfl, ?_⟩; replace HB := am (below_step (bw HB.out) hb); (try clear hb)))
  go_ret
  exact ⟨rf, bw HB.out⟩
 ·
  rw [if_neg c3] at H
  have c3b0 := beq_eq_false_iff_ne.mpr c3
  have c3b1 := bne_iff_ne.mpr c3
  obtain rfl := Option.some.inj H
  go_enter Tryd.func37, Tryd.ntmps37
  go_wp2_with (first | ((with_reducible refine gate_callee (f := 75) rfl ?_); refine goesL_ (some 7) rfl rfl Tryd.func75 (by kernel_rfl) rfl #[.string a0] rfl gl ?_; (with_reducible refine (digest_Unhex.calls a0 t117 t118 _ A2.out).mono ?_); rintro e w5 ⟨rfl, hb⟩; refine ⟨_, rfl, ?_⟩; replace HB := am (below_step (bw HB.out) hb); (try clear hb)))
  go_ret
  exact ⟨rf, bw HB.out⟩
end Go.Proofs.YtdidopoalmkhlaaDoor.Ob
end
