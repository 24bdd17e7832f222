/- Merged of several texts of this session's by merge.py. -/
import Derived.Test.YtoiockmmlanimaaDoorMo3
import Derived.Test.YtoiockmmlanimaaDoorMo6
import Derived.Test.YtoiockmmlanimaaDoorMo5
import Derived.Test.YtoiockmmlanimaaDoorCards
import Derived.Test.YtoiockmmlanimaaDoorTie
import Derived.WalkKit
import Derived.ProofKit
import Derived.OpenShut
import Derived.Below
import Derived.Carry
import Derived.Deep.DeepHandedRow
import Derived.Deep.DeepLaidRun
import Derived.Test.YtoiockmmlanimaaDoorMo2
import Derived.HandedShaped
section
-- Written for this claim by hyb.py, a driver of this session's over the kit's printer.
namespace Go.Proofs.YtoiockmmlanimaaDoor.Oo
open Go.RowKit Go.Proofs.YtoiockmmlanimaaDoorW.PrintWords Go.Proofs.YtoiockmmlanimaaDoorW.PrintLast Go.Proofs.YtoiockmmlanimaaDoorW.PrintMore
attribute [local go_sem] max2_int min2_int max_two min_two max_three min_three max_four min_four   -- for this text's walks alone
set_option linter.unusedVariables false
set_option linter.unusedSimpArgs false

set_option maxHeartbeats 8000000 in
set_option maxRecDepth 100000 in
theorem stowagelaw14_PartsOrder.calls (k : Nat) (P0_ : Nat → Prop) (A0 : Option Addr) (c0 : Nat) (l0 : List (S46)) (a1 : Int) (r : Bool) (w : World) (hs0 : Kd.V k46 46 w w.heap.size (fun k_ => P0_ k_) (.slice A0 l0.length c0) l0) (h : stowagelaw14_PartsOrder.f k l0 a1 = some r) (hG : GG w) :
  Calls Tryd.prog 4 #[.slice A0 l0.length c0, .int .i64 a1] w fun e w' => e = .returned (.bool r) ∧ Below w.heap.size w w' := by
 have HG := Aside0.mk hG
 clear hG
 have hu46 := Tryd.underlying46
 have HO0 := Aside0.mk (show Kd.V k46 46 w w.heap.size (fun k_ => (P0_ k_ ∨ w.heap.size ≤ k_)) (.slice A0 l0.length c0) l0 from Kd.V_mono hs0 (fun k_ hk => .inl hk))
 have HB := Aside0.mk (Below.refl w.heap.size w)
 have H : ((stowagelaw14_awake.f k).bind fun t217 => (if t217 = true then (stowagelaw14_PartsOrder.l0 k l0 a1 ([] : List (S46)) ([] : List (S46)) 0) else (some false))) = some r := h
 clear h
 replace H := Option.bind_eq_some_iff.mp H
 obtain ⟨t217, A30, H⟩ := H
 replace H : (if t217 = true then (stowagelaw14_PartsOrder.l0 k l0 a1 ([] : List (S46)) ([] : List (S46)) 0) else (some false)) = some r := H
 have A3 := Aside0.mk A30
 clear A30
 by_cases c4 : t217 = true
 ·
  subst c4
  have H1 : (stowagelaw14_PartsOrder.l0 k l0 a1 ([] : List (S46)) ([] : List (S46)) 0) = some r := by rw [if_pos rfl] at H; exact H
  clear H
  have H := H1
  clear H1
  have H' := Aside0.mk H
  clear H
  go_enter Tryd.func4, Tryd.ntmps4
  go_wp2_with (first | (go_at_call 13; (with_reducible refine (stowagelaw14_awake.calls k  true _ A3.out ?sideG).mono ?_); (case sideG => first | exact HG.out | exact gg_below HG.out (bw HB.out)); rintro e w5 ⟨rfl, hb⟩; replace HO0 := Aside0.mk (Kd.V_below (kV HO0.out) hb); replace HB := Aside0.mk (below_step (bw HB.out) hb); (try clear hb); (try clear hb2); (try clear hk); (try clear hi)))
  repeat (go_quiet (first | (go_at_call 13; (with_reducible refine (stowagelaw14_awake.calls k  true _ A3.out ?sideG).mono ?_); (case sideG => first | exact HG.out | exact gg_below HG.out (bw HB.out)); rintro e w5 ⟨rfl, hb⟩; replace HO0 := Aside0.mk (Kd.V_below (kV HO0.out) hb); replace HB := Aside0.mk (below_step (bw HB.out) hb); (try clear hb); (try clear hb2); (try clear hk); (try clear hi))); try go_wp2_with (first | (go_at_call 13; (with_reducible refine (stowagelaw14_awake.calls k  true _ A3.out ?sideG).mono ?_); (case sideG => first | exact HG.out | exact gg_below HG.out (bw HB.out)); rintro e w5 ⟨rfl, hb⟩; replace HO0 := Aside0.mk (Kd.V_below (kV HO0.out) hb); replace HB := Aside0.mk (below_step (bw HB.out) hb); (try clear hb); (try clear hb2); (try clear hk); (try clear hi))))
  go_loopg [5, 6, 7] k (fun kq v5 v6 v7 w' => ∃ (x5_1 : List (S46)) (x6_1 : List (S46)) (x7_1 : Int), v7 = .int .i64 x7_1 ∧ Aside0 (stowagelaw14_PartsOrder.l0 kq l0 a1 x5_1 x6_1 x7_1 = some r) ∧ Aside0 (kq ≤ k) ∧ Aside0 (Kd.V k46 46 w' w.heap.size (fun k_ => (P0_ k_ ∨ w.heap.size ≤ k_) ∧ some k_ ≠ (v6 : Value).ownBlock) (.slice A0 l0.length c0) l0) ∧ Aside0 (Kd.V k46 46 w' w.heap.size (fun k_ => (P0_ k_ ∨ w.heap.size ≤ k_) ∧ some k_ ≠ (v6 : Value).ownBlock) v5 x5_1) ∧ Aside0 (Kd.N k46 46 w' w.heap.size (fun k_ => (P0_ k_ ∨ w.heap.size ≤ k_)) v6 x6_1) ∧ Aside0 (Below w.heap.size w w'))
  case atStart => exact ⟨(([] : List (S46))), (([] : List (S46))), (0), (by first | rfl | (simp; done) | (simp [*]; done)), H', ⟨Nat.le_refl _⟩, ⟨by (with_reducible repeat (first | apply Kd.V_alloc | apply Kd.V_drewN | apply Kd.V_drew)); exact Kd.V_mono HO0.out (fun _ hk => ⟨hk, (by simp [Value.ownBlock])⟩)⟩, ⟨(by first | exact Kd.S_nil _ _ _ _ _ | exact Kd.N_nil _ _ _ _ _ | exact Kd.V_nil _ _ _ _ _ | exact Kd.Q_nil _ _ _ _ _ | exact Kd.R_nil _ _ _ _ _)⟩, ⟨by first | exact Kd.S_nil _ _ _ _ _ | exact Kd.N_nil _ _ _ _ _ | exact Kd.V_nil _ _ _ _ _ | exact Kd.Q_nil _ _ _ _ _ | exact Kd.R_nil _ _ _ _ _⟩, ⟨bw HB.out⟩⟩
  case round =>
   clear H'
   try clear p2
   try clear c4
   obtain ⟨x5_1, x6_1, x7_1, rfl, HA, HK1, HO_0, HO_5, HO_6, HB⟩ := hrel
   cases gk with
   | zero => exact absurd HA.out (by simp [stowagelaw14_PartsOrder.l0])
   | succ k1 =>
    have H := HA.out
    clear HA
    simp only [stowagelaw14_PartsOrder.l0] at H
    have HC6 := Aside0.mk H
    clear H
    go_upto_region 6 with (fail)
    repeat (go_quiet (fail); go_upto_region 6 with (fail))
    go_cut [26] (fun v26 wc => ∃ (kq : Nat) (x26_5 : Bool), v26 = .bool x26_5 ∧ Aside0 (stowagelaw14_PartsOrder.j1 kq l0 a1 x5_1 x6_1 x7_1 x26_5 = some r) ∧ Aside0 (kq ≤ k1) ∧ Aside0 (Kd.V k46 46 wc w.heap.size (fun k_ => (P0_ k_ ∨ w.heap.size ≤ k_) ∧ some k_ ≠ (u6 : Value).ownBlock) (.slice A0 l0.length c0) l0) ∧ Aside0 (Kd.V k46 46 wc w.heap.size (fun k_ => (P0_ k_ ∨ w.heap.size ≤ k_) ∧ some k_ ≠ (u6 : Value).ownBlock) u5 x5_1) ∧ Aside0 (Kd.N k46 46 wc w.heap.size (fun k_ => (P0_ k_ ∨ w.heap.size ≤ k_)) u6 x6_1) ∧ Aside0 (Below w.heap.size w wc))
    case first =>
     have H := HC6.out
     clear HC6
     by_cases c7 : x7_1 < (l0.length : Int)
     ·
      rw [if_pos c7] at H
      have c7b0 : decide (x7_1 < (l0.length : Int)) = true := decide_eq_true c7
      clear c7
      (first | rw [c7b0] | (simp only [i64_w, i32_w]; rw [c7b0]) | skip)
      have H' := Aside0.mk H
      clear H
      go_wp2
      repeat (go_quiet (fail); try go_wp2)
      go_meet
      case rel => exact ⟨_, (decide (x7_1 < 40)), (by first | rfl | (simp; done) | (simp [*]; done)), H', ⟨by have := HK1.out; first | omega | exact Nat.le_refl _⟩, ⟨kV HO_0.out⟩, ⟨kV HO_5.out⟩, ⟨kN HO_6.out⟩, ⟨bw HB.out⟩⟩
     ·
      rw [if_neg c7] at H
      have c7b0 : decide (x7_1 < (l0.length : Int)) = false := decide_eq_false c7
      clear c7
      (first | rw [c7b0] | (simp only [i64_w, i32_w]; rw [c7b0]) | skip)
      have H' := Aside0.mk H
      clear H
      go_wp2
      repeat (go_quiet (fail); try go_wp2)
      go_meet
      case rel => exact ⟨_, (false), (by first | rfl | (simp; done) | (simp [*]; done)), H', ⟨by have := HK1.out; first | omega | exact Nat.le_refl _⟩, ⟨kV HO_0.out⟩, ⟨kV HO_5.out⟩, ⟨kN HO_6.out⟩, ⟨bw HB.out⟩⟩
    case rest =>
     clear HC6
     try clear p2
     try clear c4
     try clear c7
     try clear c7b0
     try clear p2
     obtain ⟨kq, x26_5, rfl, HA, HJ5, HO_0, HO_5, HO_6, HB⟩ := hcut
     cases kq with
     | zero => exact absurd HA.out (by simp [stowagelaw14_PartsOrder.j1])
     | succ kj5 =>
      have H := HA.out
      clear HA
      simp only [stowagelaw14_PartsOrder.j1] at H
      by_cases c8 : x26_5 = true
      ·
       subst c8
       have H1 : (if 0 ≤ x7_1 then (if x7_1 < (l0.length : Int) then ((parts_Put.f kj5 x5_1 ((rd_T46 l0 x7_1).f0) ((rd_T46 l0 x7_1).f1) ((rd_T46 l0 x7_1).f2) ((rd_T46 l0 x7_1).f3)).bind fun bt219 => (if bt219.2 = 0 then (stowagelaw14_PartsOrder.l1 kj5 l0 a1 bt219.1 x6_1 x7_1 ([] : List (S46)) 0) else (stowagelaw14_PartsOrder.l0 kj5 l0 a1 x5_1 x6_1 (wrap64 (x7_1 + 1))))) else (none)) else (none)) = some r := by rw [if_pos rfl] at H; exact H
       clear H
       have H := H1
       clear H1
       by_cases c9 : 0 ≤ x7_1
       ·
        rw [if_pos c9] at H
        have c9b0 : decide (0 ≤ x7_1) = true := decide_eq_true c9
        clear c9
        by_cases c10 : x7_1 < (l0.length : Int)
        ·
         rw [if_pos c10] at H
         have c10b0 : decide (x7_1 < (l0.length : Int)) = true := decide_eq_true c10
         clear c10
         replace H := Option.bind_eq_some_iff.mp H
         obtain ⟨⟨t219, t222⟩, A110, H⟩ := H
         replace H : (if t222 = 0 then (stowagelaw14_PartsOrder.l1 kj5 l0 a1 t219 x6_1 x7_1 ([] : List (S46)) 0) else (stowagelaw14_PartsOrder.l0 kj5 l0 a1 x5_1 x6_1 (wrap64 (x7_1 + 1)))) = some r := H
         have A11 := Aside0.mk A110
         clear A110
         by_cases c12 : t222 = 0
         ·
          rw [if_pos c12] at H
          have c12b0 : (t222 == 0) = true := beq_iff_eq.mpr c12
          have c12b1 : (t222 != 0) = false := bne_eq_false_iff_eq.mpr c12
          clear c12
          have H' := Aside0.mk H
          clear H
          have p218 : 0 ≤ (x7_1 : Int) := of_decide_eq_true asm
          have q218 : x7_1 < (l0.length : Int) := of_decide_eq_true asm
          obtain ⟨ad218, A218_3, c218_3, e218, hx218_0, hx218_1, hx218_2, hx218_3, hl218_3, hi218_3⟩ := at_T46 (Kd.V_reads' HO_0.out).2.2 x7_1 p218 q218
          cases e218
          obtain ⟨ce218, hce218, hMe218, hcc218⟩ := Kd.V_get HO_0.out z46 x7_1 p218 (by first | exact q218 | exact of_decide_eq_true asm | (have e_ := (Kd.V_reads' HO_0.out).1; omega))
          obtain ⟨ua218_3, uc218_3, rfl, ul218_3, ge218_3⟩ := k46_openF hMe218
          have hv218_3 := hcc218 3 _ rfl
          rw [add_field _ _ 3 (by omega)] at hv218_3
          replace hv218_3 := Option.some.inj (hv218_3.symm.trans hx218_3)
          injection hv218_3 with hva_ hvn_ hvc_
          rw [hva_] at ge218_3
          rw [hvc_] at ul218_3
          have HL218_3 := Aside0.mk (show Kd.V k63 63 _ w.heap.size _ _ ((rd_T46 l0 x7_1).f3) from Kd.V_mk ul218_3 ge218_3)
          clear hva_ hvn_ hvc_ ge218_3 ul218_3
          clear hcc218 hce218
          have HR218_3 := Aside0.mk hi218_3
          have HC218_3 := Aside0.mk hl218_3
          clear hi218_3 hl218_3
          replace p218 := eq_true p218
          replace q218 := eq_true q218
          obtain ⟨Ao13, co13, eo13⟩ := Kd.V_slice HO_5.out
          subst eo13
          go_wp2_with (first | (go_at_call 16; (with_reducible refine (parts_Put.calls kj5 _ _ x5_1 ((rd_T46 l0 x7_1).f0) ((rd_T46 l0 x7_1).f1) ((rd_T46 l0 x7_1).f2) _ _ ((rd_T46 l0 x7_1).f3) t219 t222 _ ?side1 ?side2 ?side3 ?side4 A11.out).mono ?_); (case side1 => repeat (first | exact (Kd.V_reads' HO_5.out).2.2 | (with_reducible refine Kd.C_alloc ?_ _) | (with_reducible refine Kd.C_drewN ?_ _) | (with_reducible refine Kd.C_drew ?_))); (case side2 => exact (Kd.V_reads' HO_5.out).2.1); (case side3 => repeat (first | exact (by repeat (first | (with_reducible exact HR218_3.out) | (with_reducible refine Kd.C_alloc ?_ _) | (with_reducible refine Kd.C_drewN ?_ _) | (with_reducible refine Kd.C_drew ?_) | exact HR218_3.out)) | (with_reducible refine Kd.C_alloc ?_ _) | (with_reducible refine Kd.C_drewN ?_ _) | (with_reducible refine Kd.C_drew ?_))); (case side4 => exact HC218_3.out); rintro e w14 ⟨v220, rfl, ho0, hb⟩; have n0_ := Aside0.mk (Kd.V_below (kV HO_0.out) hb); have n1_ := Aside0.mk (Kd.V_below (kV HO_5.out) hb); have n2_ := Aside0.mk (Kd.N_below (kN HO_6.out) hb); have n3_ := Aside0.mk (Kd.V_below (kV HL218_3.out) hb); have n4_ := Aside0.mk (Kd.V_lower (Kd.V_mono (ok' := fun k_ => (P0_ k_ ∨ w.heap.size ≤ k_) ∧ some k_ ≠ (u6 : Value).ownBlock) ho0 (fun k_ hk_ => ⟨(.inr (Nat.le_trans (below_size (bw HB.out)) hk_)), (Kd.fresh' (Kd.N_lt (kN HO_6.out)) k_ hk_)⟩)) (below_size (bw HB.out))); have n5_ := Aside0.mk (Kd.C_below (by repeat (first | (with_reducible exact HR218_3.out) | (with_reducible refine Kd.C_alloc ?_ _) | (with_reducible refine Kd.C_drewN ?_ _) | (with_reducible refine Kd.C_drew ?_) | exact HR218_3.out)) hb); have n6_ := Aside0.mk (below_step (bw HB.out) hb); clear HO_0; clear HO_5; clear HO_6; clear HL218_3; clear HR218_3; clear HB; have HO_0 := n0_; have HO_5 := n1_; have HO_6 := n2_; have HL218_3 := n3_; have HO221 := n4_; have HR218_3 := n5_; have HB := n6_; clear n0_ n1_ n2_ n3_ n4_ n5_ n6_; (try clear hb); (try clear hb2); (try clear hk); (try clear hi); (try clear ho0)))
          repeat (go_quiet (first | (go_at_call 16; (with_reducible refine (parts_Put.calls kj5 _ _ x5_1 ((rd_T46 l0 x7_1).f0) ((rd_T46 l0 x7_1).f1) ((rd_T46 l0 x7_1).f2) _ _ ((rd_T46 l0 x7_1).f3) t219 t222 _ ?side1 ?side2 ?side3 ?side4 A11.out).mono ?_); (case side1 => repeat (first | exact (Kd.V_reads' HO_5.out).2.2 | (with_reducible refine Kd.C_alloc ?_ _) | (with_reducible refine Kd.C_drewN ?_ _) | (with_reducible refine Kd.C_drew ?_))); (case side2 => exact (Kd.V_reads' HO_5.out).2.1); (case side3 => repeat (first | exact (by repeat (first | (with_reducible exact HR218_3.out) | (with_reducible refine Kd.C_alloc ?_ _) | (with_reducible refine Kd.C_drewN ?_ _) | (with_reducible refine Kd.C_drew ?_) | exact HR218_3.out)) | (with_reducible refine Kd.C_alloc ?_ _) | (with_reducible refine Kd.C_drewN ?_ _) | (with_reducible refine Kd.C_drew ?_))); (case side4 => exact HC218_3.out); rintro e w14 ⟨v220, rfl, ho0, hb⟩; have n0_ := Aside0.mk (Kd.V_below (kV HO_0.out) hb); have n1_ := Aside0.mk (Kd.V_below (kV HO_5.out) hb); have n2_ := Aside0.mk (Kd.N_below (kN HO_6.out) hb); have n3_ := Aside0.mk (Kd.V_below (kV HL218_3.out) hb); have n4_ := Aside0.mk (Kd.V_lower (Kd.V_mono (ok' := fun k_ => (P0_ k_ ∨ w.heap.size ≤ k_) ∧ some k_ ≠ (u6 : Value).ownBlock) ho0 (fun k_ hk_ => ⟨(.inr (Nat.le_trans (below_size (bw HB.out)) hk_)), (Kd.fresh' (Kd.N_lt (kN HO_6.out)) k_ hk_)⟩)) (below_size (bw HB.out))); have n5_ := Aside0.mk (Kd.C_below (by repeat (first | (with_reducible exact HR218_3.out) | (with_reducible refine Kd.C_alloc ?_ _) | (with_reducible refine Kd.C_drewN ?_ _) | (with_reducible refine Kd.C_drew ?_) | exact HR218_3.out)) hb); have n6_ := Aside0.mk (below_step (bw HB.out) hb); clear HO_0; clear HO_5; clear HO_6; clear HL218_3; clear HR218_3; clear HB; have HO_0 := n0_; have HO_5 := n1_; have HO_6 := n2_; have HL218_3 := n3_; have HO221 := n4_; have HR218_3 := n5_; have HB := n6_; clear n0_ n1_ n2_ n3_ n4_ n5_ n6_; (try clear hb); (try clear hb2); (try clear hk); (try clear hi); (try clear ho0); clear A11)); try go_wp2_with (first | (go_at_call 16; (with_reducible refine (parts_Put.calls kj5 _ _ x5_1 ((rd_T46 l0 x7_1).f0) ((rd_T46 l0 x7_1).f1) ((rd_T46 l0 x7_1).f2) _ _ ((rd_T46 l0 x7_1).f3) t219 t222 _ ?side1 ?side2 ?side3 ?side4 A11.out).mono ?_); (case side1 => repeat (first | exact (Kd.V_reads' HO_5.out).2.2 | (with_reducible refine Kd.C_alloc ?_ _) | (with_reducible refine Kd.C_drewN ?_ _) | (with_reducible refine Kd.C_drew ?_))); (case side2 => exact (Kd.V_reads' HO_5.out).2.1); (case side3 => repeat (first | exact (by repeat (first | (with_reducible exact HR218_3.out) | (with_reducible refine Kd.C_alloc ?_ _) | (with_reducible refine Kd.C_drewN ?_ _) | (with_reducible refine Kd.C_drew ?_) | exact HR218_3.out)) | (with_reducible refine Kd.C_alloc ?_ _) | (with_reducible refine Kd.C_drewN ?_ _) | (with_reducible refine Kd.C_drew ?_))); (case side4 => exact HC218_3.out); rintro e w14 ⟨v220, rfl, ho0, hb⟩; have n0_ := Aside0.mk (Kd.V_below (kV HO_0.out) hb); have n1_ := Aside0.mk (Kd.V_below (kV HO_5.out) hb); have n2_ := Aside0.mk (Kd.N_below (kN HO_6.out) hb); have n3_ := Aside0.mk (Kd.V_below (kV HL218_3.out) hb); have n4_ := Aside0.mk (Kd.V_lower (Kd.V_mono (ok' := fun k_ => (P0_ k_ ∨ w.heap.size ≤ k_) ∧ some k_ ≠ (u6 : Value).ownBlock) ho0 (fun k_ hk_ => ⟨(.inr (Nat.le_trans (below_size (bw HB.out)) hk_)), (Kd.fresh' (Kd.N_lt (kN HO_6.out)) k_ hk_)⟩)) (below_size (bw HB.out))); have n5_ := Aside0.mk (Kd.C_below (by repeat (first | (with_reducible exact HR218_3.out) | (with_reducible refine Kd.C_alloc ?_ _) | (with_reducible refine Kd.C_drewN ?_ _) | (with_reducible refine Kd.C_drew ?_) | exact HR218_3.out)) hb); have n6_ := Aside0.mk (below_step (bw HB.out) hb); clear HO_0; clear HO_5; clear HO_6; clear HL218_3; clear HR218_3; clear HB; have HO_0 := n0_; have HO_5 := n1_; have HO_6 := n2_; have HL218_3 := n3_; have HO221 := n4_; have HR218_3 := n5_; have HB := n6_; clear n0_ n1_ n2_ n3_ n4_ n5_ n6_; (try clear hb); (try clear hb2); (try clear hk); (try clear hi); (try clear ho0); clear A11)))
          go_loopg [10, 11] kj5 (fun kq v10 v11 w' => ∃ (x10_3 : List (S46)) (x11_3 : Int), v11 = .int .i64 x11_3 ∧ Aside0 (stowagelaw14_PartsOrder.l1 kq l0 a1 t219 x6_1 x7_1 x10_3 x11_3 = some r) ∧ Aside0 (kq ≤ kj5) ∧ Aside0 (Kd.V k46 46 w' w.heap.size (fun k_ => (P0_ k_ ∨ w.heap.size ≤ k_) ∧ some k_ ≠ (u6 : Value).ownBlock ∧ some k_ ≠ (v10 : Value).ownBlock) (.slice (some ad218) l0.length c0) l0) ∧ Aside0 (Kd.V k46 46 w' w.heap.size (fun k_ => (P0_ k_ ∨ w.heap.size ≤ k_) ∧ some k_ ≠ (u6 : Value).ownBlock ∧ some k_ ≠ (v10 : Value).ownBlock) v220 t219) ∧ Aside0 (Kd.N k46 46 w' w.heap.size (fun k_ => (P0_ k_ ∨ w.heap.size ≤ k_) ∧ some k_ ≠ (v10 : Value).ownBlock) u6 x6_1) ∧ Aside0 (Kd.N k46 46 w' w.heap.size (fun k_ => (P0_ k_ ∨ w.heap.size ≤ k_) ∧ some k_ ≠ (u6 : Value).ownBlock) v10 x10_3) ∧ Aside0 (Below w.heap.size w w'))
          case atStart => exact ⟨(([] : List (S46))), (0), (by first | rfl | (simp; done) | (simp [*]; done)), H', ⟨Nat.le_refl _⟩, ⟨by (with_reducible repeat (first | apply Kd.V_alloc | apply Kd.V_drewN | apply Kd.V_drew)); exact Kd.V_mono HO_0.out (fun _ hk => ⟨hk.1, ⟨hk.2, (by simp [Value.ownBlock])⟩⟩)⟩, ⟨by (with_reducible repeat (first | apply Kd.V_alloc | apply Kd.V_drewN | apply Kd.V_drew)); exact Kd.V_mono HO221.out (fun _ hk => ⟨hk.1, ⟨hk.2, (by simp [Value.ownBlock])⟩⟩)⟩, ⟨by (with_reducible repeat (first | apply Kd.N_alloc | apply Kd.N_drewN | apply Kd.N_drew)); exact Kd.N_mono HO_6.out (fun _ hk => ⟨hk, (by simp [Value.ownBlock])⟩)⟩, ⟨by first | exact Kd.S_nil _ _ _ _ _ | exact Kd.N_nil _ _ _ _ _ | exact Kd.V_nil _ _ _ _ _ | exact Kd.Q_nil _ _ _ _ _ | exact Kd.R_nil _ _ _ _ _⟩, ⟨bw HB.out⟩⟩
          case round =>
           clear H'
           try clear c1
           try clear c2
           try clear p2
           try clear q2
           try clear hx2
           try clear c4
           try clear p6
           try clear c7
           try clear c7b0
           try clear c8
           try clear c9
           try clear c9b0
           try clear c10
           try clear c10b0
           try clear c12
           try clear c12b0
           try clear c12b1
           try clear hx218_0
           try clear hx218_1
           try clear hx218_2
           try clear hx218_3
           try clear p2
           try clear p218
           try clear q218
           obtain ⟨x10_3, x11_3, rfl, HA, HK3, HO_0, HO_5, HO_6, HO_10, HB⟩ := hrel
           cases gk with
           | zero => exact absurd HA.out (by simp [stowagelaw14_PartsOrder.l1])
           | succ k3 =>
            have H := HA.out
            clear HA
            simp only [stowagelaw14_PartsOrder.l1] at H
            by_cases c15 : x11_3 < (x6_1.length : Int)
            ·
             rw [if_pos c15] at H
             have c15b0 : decide (x11_3 < (x6_1.length : Int)) = true := decide_eq_true c15
             clear c15
             by_cases c16 : 0 ≤ x11_3
             ·
              rw [if_pos c16] at H
              have c16b0 : decide (0 ≤ x11_3) = true := decide_eq_true c16
              clear c16
              by_cases c17 : 0 ≤ x7_1
              ·
               rw [if_pos c17] at H
               have c17b0 : decide (0 ≤ x7_1) = true := decide_eq_true c17
               clear c17
               by_cases c18 : x7_1 < (l0.length : Int)
               ·
                rw [if_pos c18] at H
                have c18b0 : decide (x7_1 < (l0.length : Int)) = true := decide_eq_true c18
                clear c18
                by_cases c19 : ((rd_T46 x6_1 x11_3).f0) = ((rd_T46 l0 x7_1).f0)
                ·
                 rw [if_pos c19] at H
                 have c19b0 : (((rd_T46 x6_1 x11_3).f0) == ((rd_T46 l0 x7_1).f0)) = true := beq_iff_eq.mpr c19
                 have c19b1 : (((rd_T46 x6_1 x11_3).f0) != ((rd_T46 l0 x7_1).f0)) = false := bne_eq_false_iff_eq.mpr c19
                 clear c19
                 have H' := Aside0.mk H
                 clear H
                 obtain ⟨Ao20, co20, eo20⟩ := Kd.N_slice HO_6.out
                 subst eo20
                 have p223 : 0 ≤ (x11_3 : Int) := of_decide_eq_true asm
                 have q223 : x11_3 < (x6_1.length : Int) := of_decide_eq_true asm
                 obtain ⟨ad223, A223_3, c223_3, e223, hx223_0, hx223_1, hx223_2, hx223_3, hl223_3, hi223_3⟩ := at_T46 (Kd.N_reads' HO_6.out).2.2 x11_3 p223 q223
                 cases e223
                 obtain ⟨ce223, hce223, hMe223, hcc223⟩ := Kd.N_get HO_6.out z46 x11_3 p223 (by first | exact q223 | exact of_decide_eq_true asm | (have e_ := (Kd.N_reads' HO_6.out).1; omega))
                 obtain ⟨ua223_3, uc223_3, rfl, ul223_3, ge223_3⟩ := k46_openF hMe223
                 have hv223_3 := hcc223 3 _ rfl
                 rw [add_field _ _ 3 (by omega)] at hv223_3
                 replace hv223_3 := Option.some.inj (hv223_3.symm.trans hx223_3)
                 injection hv223_3 with hva_ hvn_ hvc_
                 rw [hva_] at ge223_3
                 rw [hvc_] at ul223_3
                 have HL223_3 := Aside0.mk (show Kd.V k63 63 _ w.heap.size _ _ ((rd_T46 x6_1 x11_3).f3) from Kd.V_mk ul223_3 ge223_3)
                 clear hva_ hvn_ hvc_ ge223_3 ul223_3
                 clear hcc223 hce223
                 have HR223_3 := Aside0.mk hi223_3
                 have HC223_3 := Aside0.mk hl223_3
                 clear hi223_3 hl223_3
                 replace p223 := eq_true p223
                 replace q223 := eq_true q223
                 have p224 : 0 ≤ (x7_1 : Int) := of_decide_eq_true asm
                 have q224 : x7_1 < (l0.length : Int) := of_decide_eq_true asm
                 obtain ⟨ad224, A224_3, c224_3, e224, hx224_0, hx224_1, hx224_2, hx224_3, hl224_3, hi224_3⟩ := at_T46 (Kd.V_reads' HO_0.out).2.2 x7_1 p224 q224
                 obtain rfl : ad218 = ad224 := (by injection e224)
                 obtain ⟨ce224, hce224, hMe224, hcc224⟩ := Kd.V_get HO_0.out z46 x7_1 p224 (by first | exact q224 | exact of_decide_eq_true asm | (have e_ := (Kd.V_reads' HO_0.out).1; omega))
                 obtain ⟨ua224_3, uc224_3, rfl, ul224_3, ge224_3⟩ := k46_openF hMe224
                 have hv224_3 := hcc224 3 _ rfl
                 rw [add_field _ _ 3 (by omega)] at hv224_3
                 replace hv224_3 := Option.some.inj (hv224_3.symm.trans hx224_3)
                 injection hv224_3 with hva_ hvn_ hvc_
                 rw [hva_] at ge224_3
                 rw [hvc_] at ul224_3
                 have HL224_3 := Aside0.mk (show Kd.V k63 63 _ w.heap.size _ _ ((rd_T46 l0 x7_1).f3) from Kd.V_mk ul224_3 ge224_3)
                 clear hva_ hvn_ hvc_ ge224_3 ul224_3
                 clear hcc224 hce224
                 have HR224_3 := Aside0.mk hi224_3
                 have HC224_3 := Aside0.mk hl224_3
                 clear hi224_3 hl224_3
                 replace p224 := eq_true p224
                 replace q224 := eq_true q224
                 go_wp2
                 repeat (go_quiet (fail); try go_wp2)
                 go_roundg k3
                 case measure => have := HK1.out; have := HJ5.out; have := HK3.out; omega
                 case rel => exact ⟨(x10_3), (wrap64 (x11_3 + 1)), (by first | rfl | (simp; done) | (simp [*]; done)), H', ⟨by have := HK1.out; have := HJ5.out; have := HK3.out; omega⟩, ⟨kV HO_0.out⟩, ⟨kV HO_5.out⟩, ⟨kN HO_6.out⟩, ⟨kN HO_10.out⟩, ⟨bw HB.out⟩⟩
                ·
                 rw [if_neg c19] at H
                 have c19b0 : (((rd_T46 x6_1 x11_3).f0) == ((rd_T46 l0 x7_1).f0)) = false := beq_eq_false_iff_ne.mpr c19
                 have c19b1 : (((rd_T46 x6_1 x11_3).f0) != ((rd_T46 l0 x7_1).f0)) = true := bne_iff_ne.mpr c19
                 by_cases c21 : x10_3.length < 2513169434916
                 ·
                  rw [if_pos c21] at H
                  have LMc21 := Aside0.mk c21
                  clear c21
                  obtain ⟨y226, hy226⟩ : ∃ y_ : List (S46), y_ = (x10_3 ++ [(⟨(rd_T46 x6_1 x11_3).f0, (rd_T46 x6_1 x11_3).f1, (rd_T46 x6_1 x11_3).f2, (rd_T46 x6_1 x11_3).f3⟩ : S46)]) := ⟨_, rfl⟩
                  replace H : (stowagelaw14_PartsOrder.l1 k3 l0 a1 t219 x6_1 x7_1 y226 (wrap64 (x11_3 + 1))) = some r := by first | (rw [hy226]; with_reducible exact H) | (have H2_ := (Option.bind_some _ _).symm.trans H; rw [hy226]; with_reducible exact H2_) | (have H2_ := (Option.bind_some _ _).symm.trans H; with_reducible exact H2_) | with_reducible exact H | (rw [hy226]; exact H) | exact H
                  have Ny226 := Aside0.mk hy226
                  clear hy226
                  have H' := Aside0.mk H
                  clear H
                  obtain ⟨Ao22, co22, eo22⟩ := Kd.N_slice HO_6.out
                  subst eo22
                  have p223 : 0 ≤ (x11_3 : Int) := of_decide_eq_true asm
                  have q223 : x11_3 < (x6_1.length : Int) := of_decide_eq_true asm
                  obtain ⟨ad223, A223_3, c223_3, e223, hx223_0, hx223_1, hx223_2, hx223_3, hl223_3, hi223_3⟩ := at_T46 (Kd.N_reads' HO_6.out).2.2 x11_3 p223 q223
                  cases e223
                  obtain ⟨ce223, hce223, hMe223, hcc223⟩ := Kd.N_get HO_6.out z46 x11_3 p223 (by first | exact q223 | exact of_decide_eq_true asm | (have e_ := (Kd.N_reads' HO_6.out).1; omega))
                  obtain ⟨ua223_3, uc223_3, rfl, ul223_3, ge223_3⟩ := k46_openF hMe223
                  have hv223_3 := hcc223 3 _ rfl
                  rw [add_field _ _ 3 (by omega)] at hv223_3
                  replace hv223_3 := Option.some.inj (hv223_3.symm.trans hx223_3)
                  injection hv223_3 with hva_ hvn_ hvc_
                  rw [hva_] at ge223_3
                  rw [hvc_] at ul223_3
                  have HL223_3 := Aside0.mk (show Kd.V k63 63 _ w.heap.size _ _ ((rd_T46 x6_1 x11_3).f3) from Kd.V_mk ul223_3 ge223_3)
                  clear hva_ hvn_ hvc_ ge223_3 ul223_3
                  clear hcc223 hce223
                  have HR223_3 := Aside0.mk hi223_3
                  have HC223_3 := Aside0.mk hl223_3
                  clear hi223_3 hl223_3
                  replace p223 := eq_true p223
                  replace q223 := eq_true q223
                  have p224 : 0 ≤ (x7_1 : Int) := of_decide_eq_true asm
                  have q224 : x7_1 < (l0.length : Int) := of_decide_eq_true asm
                  obtain ⟨ad224, A224_3, c224_3, e224, hx224_0, hx224_1, hx224_2, hx224_3, hl224_3, hi224_3⟩ := at_T46 (Kd.V_reads' HO_0.out).2.2 x7_1 p224 q224
                  obtain rfl : ad218 = ad224 := (by injection e224)
                  obtain ⟨ce224, hce224, hMe224, hcc224⟩ := Kd.V_get HO_0.out z46 x7_1 p224 (by first | exact q224 | exact of_decide_eq_true asm | (have e_ := (Kd.V_reads' HO_0.out).1; omega))
                  obtain ⟨ua224_3, uc224_3, rfl, ul224_3, ge224_3⟩ := k46_openF hMe224
                  have hv224_3 := hcc224 3 _ rfl
                  rw [add_field _ _ 3 (by omega)] at hv224_3
                  replace hv224_3 := Option.some.inj (hv224_3.symm.trans hx224_3)
                  injection hv224_3 with hva_ hvn_ hvc_
                  rw [hva_] at ge224_3
                  rw [hvc_] at ul224_3
                  have HL224_3 := Aside0.mk (show Kd.V k63 63 _ w.heap.size _ _ ((rd_T46 l0 x7_1).f3) from Kd.V_mk ul224_3 ge224_3)
                  clear hva_ hvn_ hvc_ ge224_3 ul224_3
                  clear hcc224 hce224
                  have HR224_3 := Aside0.mk hi224_3
                  have HC224_3 := Aside0.mk hl224_3
                  clear hi224_3 hl224_3
                  replace p224 := eq_true p224
                  replace q224 := eq_true q224
                  have p225 : 0 ≤ (x11_3 : Int) := of_decide_eq_true asm
                  have q225 : x11_3 < (x6_1.length : Int) := of_decide_eq_true asm
                  obtain ⟨ad225, A225_3, c225_3, e225, hx225_0, hx225_1, hx225_2, hx225_3, hl225_3, hi225_3⟩ := at_T46 (Kd.N_reads' HO_6.out).2.2 x11_3 p225 q225
                  obtain rfl : ad223 = ad225 := (by injection e225)
                  obtain ⟨ce225, hce225, hMe225, hcc225⟩ := Kd.N_get HO_6.out z46 x11_3 p225 (by first | exact q225 | exact of_decide_eq_true asm | (have e_ := (Kd.N_reads' HO_6.out).1; omega))
                  obtain ⟨ua225_3, uc225_3, rfl, ul225_3, ge225_3⟩ := k46_openF hMe225
                  have hv225_3 := hcc225 3 _ rfl
                  rw [add_field _ _ 3 (by omega)] at hv225_3
                  replace hv225_3 := Option.some.inj (hv225_3.symm.trans hx225_3)
                  injection hv225_3 with hva_ hvn_ hvc_
                  rw [hva_] at ge225_3
                  rw [hvc_] at ul225_3
                  have HL225_3 := Aside0.mk (show Kd.V k63 63 _ w.heap.size _ _ ((rd_T46 x6_1 x11_3).f3) from Kd.V_mk ul225_3 ge225_3)
                  clear hva_ hvn_ hvc_ ge225_3 ul225_3
                  clear hcc225 hce225
                  have HR225_3 := Aside0.mk hi225_3
                  have HC225_3 := Aside0.mk hl225_3
                  clear hi225_3 hl225_3
                  replace p225 := eq_true p225
                  replace q225 := eq_true q225
                  have ea_ := Option.some.inj (hx223_3.symm.trans hx225_3)
                  injection ea_ with ea_ en_ ec_
                  subst ea_
                  subst ec_
                  clear en_
                  go_wp2_with (first | ((with_reducible refine gate_builtin (b := .append) (xs := #[.tmp 58, .tmp 63]) rfl ?_); at_builtin; refine Kd.N_append k46 (w0 := w) w.heap.size rfl (.tmp 58) (.tmp 63) 22 46 (.agg #[(.int .i64 0), (.int .i64 0), (.string ⟨#[]⟩), (.slice none 0 0)]) 56 rfl Tryd.underlying22 info46 rfl (by decide) (by omega) u10 x10_3 (⟨(rd_T46 x6_1 x11_3).f0, (rd_T46 x6_1 x11_3).f1, (rd_T46 x6_1 x11_3).f2, (rd_T46 x6_1 x11_3).f3⟩ : S46) [.int .i64 ((rd_T46 x6_1 x11_3).f0), .int .i64 ((rd_T46 x6_1 x11_3).f1), .string ((rd_T46 x6_1 x11_3).f2), .slice A223_3 ((rd_T46 x6_1 x11_3).f3).length c223_3] (fun k_ => (P0_ k_ ∨ w.heap.size ≤ k_) ∧ some k_ ≠ (.slice (some ad223) x6_1.length co22 : Value).ownBlock) (fun k_ => ((fun k_ => (P0_ k_ ∨ w.heap.size ≤ k_) ∧ some k_ ≠ (.slice (some ad223) x6_1.length co22 : Value).ownBlock)) k_ ∧ some k_ ≠ (u10 : Value).ownBlock) rfl rfl ?aP (fun _ hk => hk) ?aF ?aO ?aB ?aS ?aL ?_; (case aP => first | exact (k46_mkF _ _ (⟨(rd_T46 x6_1 x11_3).f0, (rd_T46 x6_1 x11_3).f1, (rd_T46 x6_1 x11_3).f2, (rd_T46 x6_1 x11_3).f3⟩ : S46) (Kd.V_reads' (Kd.V_mono (ok' := (fun k_ => ((fun k_ => (P0_ k_ ∨ w.heap.size ≤ k_) ∧ some k_ ≠ (.slice (some ad223) x6_1.length co22 : Value).ownBlock)) k_ ∧ some k_ ≠ (u10 : Value).ownBlock)) (HL225_3.out) (fun k_ hk => ⟨⟨hk.1.1, hk.2⟩, hk.1.2⟩))).2.1 (Kd.V_F (Kd.V_mono (ok' := (fun k_ => ((fun k_ => (P0_ k_ ∨ w.heap.size ≤ k_) ∧ some k_ ≠ (.slice (some ad223) x6_1.length co22 : Value).ownBlock)) k_ ∧ some k_ ≠ (u10 : Value).ownBlock)) (HL225_3.out) (fun k_ hk => ⟨⟨hk.1.1, hk.2⟩, hk.1.2⟩)))) | exact (k46_mkF _ _ (⟨(rd_T46 x6_1 x11_3).f0, (rd_T46 x6_1 x11_3).f1, (rd_T46 x6_1 x11_3).f2, (rd_T46 x6_1 x11_3).f3⟩ : S46) (Kd.V_reads' (Kd.V_mono (ok' := (fun k_ => ((fun k_ => (P0_ k_ ∨ w.heap.size ≤ k_) ∧ some k_ ≠ (.slice (some ad223) x6_1.length co22 : Value).ownBlock)) k_ ∧ some k_ ≠ (u10 : Value).ownBlock)) (HL225_3.out) (fun k_ hk => ⟨⟨hk.1.1, hk.2⟩, hk.1.2⟩))).2.1 (Kd.V_F (Kd.V_mono (ok' := (fun k_ => ((fun k_ => (P0_ k_ ∨ w.heap.size ≤ k_) ∧ some k_ ≠ (.slice (some ad223) x6_1.length co22 : Value).ownBlock)) k_ ∧ some k_ ≠ (u10 : Value).ownBlock)) (Kd.V_drewN (HL225_3.out) _) (fun k_ hk => ⟨⟨hk.1.1, hk.2⟩, hk.1.2⟩))))); (case aB => exact (bw HB.out)); (case aF => exact (fun k_ hk => ⟨(.inr (Nat.le_trans (below_size (bw HB.out)) hk)), Kd.fresh' (Kd.N_lt (kN HO_6.out)) k_ hk⟩)); (case aO => exact (kN HO_10.out)); (case aS => exact (below_size (bw HB.out))); (case aL => have := LMc21.out; omega); intro v227 w23 ho hb hg hat; rw [← Ny226.out] at ho; have n0_ := Aside0.mk (Kd.V_afterv (ok := (fun k_ => (P0_ k_ ∨ w.heap.size ≤ k_) ∧ some k_ ≠ (.slice (some ad223) x6_1.length co22 : Value).ownBlock)) (by (with_reducible repeat (first | apply Kd.V_alloc | apply Kd.V_drewN | apply Kd.V_drew)); exact Kd.V_mono HO_0.out (fun _ hk => ⟨⟨hk.1, hk.2.1⟩, hk.2.2⟩)) hg hat); have n1_ := Aside0.mk (Kd.V_afterv (ok := (fun k_ => (P0_ k_ ∨ w.heap.size ≤ k_) ∧ some k_ ≠ (.slice (some ad223) x6_1.length co22 : Value).ownBlock)) (by (with_reducible repeat (first | apply Kd.V_alloc | apply Kd.V_drewN | apply Kd.V_drew)); exact Kd.V_mono HO_5.out (fun _ hk => ⟨⟨hk.1, hk.2.1⟩, hk.2.2⟩)) hg hat); have n2_ := Aside0.mk (Kd.N_afterv (ok := (fun k_ => (P0_ k_ ∨ w.heap.size ≤ k_))) (kN HO_6.out) hg hat); have n3_ := Aside0.mk (Kd.V_afterv (ok := (fun k_ => (P0_ k_ ∨ w.heap.size ≤ k_) ∧ some k_ ≠ (.slice (some ad223) x6_1.length co22 : Value).ownBlock)) (by (with_reducible repeat (first | apply Kd.V_alloc | apply Kd.V_drewN | apply Kd.V_drew)); exact Kd.V_mono HL223_3.out (fun _ hk => ⟨⟨hk.1.1, hk.2⟩, hk.1.2⟩)) hg hat); have n4_ := Aside0.mk (Kd.V_afterv (ok := (fun k_ => (P0_ k_ ∨ w.heap.size ≤ k_) ∧ some k_ ≠ (.slice (some ad223) x6_1.length co22 : Value).ownBlock)) (by (with_reducible repeat (first | apply Kd.V_alloc | apply Kd.V_drewN | apply Kd.V_drew)); exact Kd.V_mono HL224_3.out (fun _ hk => ⟨⟨hk.1, hk.2.1⟩, hk.2.2⟩)) hg hat); have n5_ := Aside0.mk (Kd.V_afterv (ok := (fun k_ => (P0_ k_ ∨ w.heap.size ≤ k_) ∧ some k_ ≠ (.slice (some ad223) x6_1.length co22 : Value).ownBlock)) (by (with_reducible repeat (first | apply Kd.V_alloc | apply Kd.V_drewN | apply Kd.V_drew)); exact Kd.V_mono HL225_3.out (fun _ hk => ⟨⟨hk.1.1, hk.2⟩, hk.1.2⟩)) hg hat); have n6_ := Aside0.mk (hb); have n7_ := Aside0.mk (ho); clear HO_0; clear HO_5; clear HO_6; clear HL223_3; clear HL224_3; clear HL225_3; clear HB; clear HO_10; have HO_0 := n0_; have HO_5 := n1_; have HO_6 := n2_; have HL223_3 := n3_; have HL224_3 := n4_; have HL225_3 := n5_; have HB := n6_; have HO228 := n7_; clear n0_ n1_ n2_ n3_ n4_ n5_ n6_ n7_; clear ho hb hg hat))
                  repeat (go_quiet (first | ((with_reducible refine gate_builtin (b := .append) (xs := #[.tmp 58, .tmp 63]) rfl ?_); at_builtin; refine Kd.N_append k46 (w0 := w) w.heap.size rfl (.tmp 58) (.tmp 63) 22 46 (.agg #[(.int .i64 0), (.int .i64 0), (.string ⟨#[]⟩), (.slice none 0 0)]) 56 rfl Tryd.underlying22 info46 rfl (by decide) (by omega) u10 x10_3 (⟨(rd_T46 x6_1 x11_3).f0, (rd_T46 x6_1 x11_3).f1, (rd_T46 x6_1 x11_3).f2, (rd_T46 x6_1 x11_3).f3⟩ : S46) [.int .i64 ((rd_T46 x6_1 x11_3).f0), .int .i64 ((rd_T46 x6_1 x11_3).f1), .string ((rd_T46 x6_1 x11_3).f2), .slice A223_3 ((rd_T46 x6_1 x11_3).f3).length c223_3] (fun k_ => (P0_ k_ ∨ w.heap.size ≤ k_) ∧ some k_ ≠ (.slice (some ad223) x6_1.length co22 : Value).ownBlock) (fun k_ => ((fun k_ => (P0_ k_ ∨ w.heap.size ≤ k_) ∧ some k_ ≠ (.slice (some ad223) x6_1.length co22 : Value).ownBlock)) k_ ∧ some k_ ≠ (u10 : Value).ownBlock) rfl rfl ?aP (fun _ hk => hk) ?aF ?aO ?aB ?aS ?aL ?_; (case aP => first | exact (k46_mkF _ _ (⟨(rd_T46 x6_1 x11_3).f0, (rd_T46 x6_1 x11_3).f1, (rd_T46 x6_1 x11_3).f2, (rd_T46 x6_1 x11_3).f3⟩ : S46) (Kd.V_reads' (Kd.V_mono (ok' := (fun k_ => ((fun k_ => (P0_ k_ ∨ w.heap.size ≤ k_) ∧ some k_ ≠ (.slice (some ad223) x6_1.length co22 : Value).ownBlock)) k_ ∧ some k_ ≠ (u10 : Value).ownBlock)) (HL225_3.out) (fun k_ hk => ⟨⟨hk.1.1, hk.2⟩, hk.1.2⟩))).2.1 (Kd.V_F (Kd.V_mono (ok' := (fun k_ => ((fun k_ => (P0_ k_ ∨ w.heap.size ≤ k_) ∧ some k_ ≠ (.slice (some ad223) x6_1.length co22 : Value).ownBlock)) k_ ∧ some k_ ≠ (u10 : Value).ownBlock)) (HL225_3.out) (fun k_ hk => ⟨⟨hk.1.1, hk.2⟩, hk.1.2⟩)))) | exact (k46_mkF _ _ (⟨(rd_T46 x6_1 x11_3).f0, (rd_T46 x6_1 x11_3).f1, (rd_T46 x6_1 x11_3).f2, (rd_T46 x6_1 x11_3).f3⟩ : S46) (Kd.V_reads' (Kd.V_mono (ok' := (fun k_ => ((fun k_ => (P0_ k_ ∨ w.heap.size ≤ k_) ∧ some k_ ≠ (.slice (some ad223) x6_1.length co22 : Value).ownBlock)) k_ ∧ some k_ ≠ (u10 : Value).ownBlock)) (HL225_3.out) (fun k_ hk => ⟨⟨hk.1.1, hk.2⟩, hk.1.2⟩))).2.1 (Kd.V_F (Kd.V_mono (ok' := (fun k_ => ((fun k_ => (P0_ k_ ∨ w.heap.size ≤ k_) ∧ some k_ ≠ (.slice (some ad223) x6_1.length co22 : Value).ownBlock)) k_ ∧ some k_ ≠ (u10 : Value).ownBlock)) (Kd.V_drewN (HL225_3.out) _) (fun k_ hk => ⟨⟨hk.1.1, hk.2⟩, hk.1.2⟩))))); (case aB => exact (bw HB.out)); (case aF => exact (fun k_ hk => ⟨(.inr (Nat.le_trans (below_size (bw HB.out)) hk)), Kd.fresh' (Kd.N_lt (kN HO_6.out)) k_ hk⟩)); (case aO => exact (kN HO_10.out)); (case aS => exact (below_size (bw HB.out))); (case aL => have := LMc21.out; omega); intro v227 w23 ho hb hg hat; rw [← Ny226.out] at ho; have n0_ := Aside0.mk (Kd.V_afterv (ok := (fun k_ => (P0_ k_ ∨ w.heap.size ≤ k_) ∧ some k_ ≠ (.slice (some ad223) x6_1.length co22 : Value).ownBlock)) (by (with_reducible repeat (first | apply Kd.V_alloc | apply Kd.V_drewN | apply Kd.V_drew)); exact Kd.V_mono HO_0.out (fun _ hk => ⟨⟨hk.1, hk.2.1⟩, hk.2.2⟩)) hg hat); have n1_ := Aside0.mk (Kd.V_afterv (ok := (fun k_ => (P0_ k_ ∨ w.heap.size ≤ k_) ∧ some k_ ≠ (.slice (some ad223) x6_1.length co22 : Value).ownBlock)) (by (with_reducible repeat (first | apply Kd.V_alloc | apply Kd.V_drewN | apply Kd.V_drew)); exact Kd.V_mono HO_5.out (fun _ hk => ⟨⟨hk.1, hk.2.1⟩, hk.2.2⟩)) hg hat); have n2_ := Aside0.mk (Kd.N_afterv (ok := (fun k_ => (P0_ k_ ∨ w.heap.size ≤ k_))) (kN HO_6.out) hg hat); have n3_ := Aside0.mk (Kd.V_afterv (ok := (fun k_ => (P0_ k_ ∨ w.heap.size ≤ k_) ∧ some k_ ≠ (.slice (some ad223) x6_1.length co22 : Value).ownBlock)) (by (with_reducible repeat (first | apply Kd.V_alloc | apply Kd.V_drewN | apply Kd.V_drew)); exact Kd.V_mono HL223_3.out (fun _ hk => ⟨⟨hk.1.1, hk.2⟩, hk.1.2⟩)) hg hat); have n4_ := Aside0.mk (Kd.V_afterv (ok := (fun k_ => (P0_ k_ ∨ w.heap.size ≤ k_) ∧ some k_ ≠ (.slice (some ad223) x6_1.length co22 : Value).ownBlock)) (by (with_reducible repeat (first | apply Kd.V_alloc | apply Kd.V_drewN | apply Kd.V_drew)); exact Kd.V_mono HL224_3.out (fun _ hk => ⟨⟨hk.1, hk.2.1⟩, hk.2.2⟩)) hg hat); have n5_ := Aside0.mk (Kd.V_afterv (ok := (fun k_ => (P0_ k_ ∨ w.heap.size ≤ k_) ∧ some k_ ≠ (.slice (some ad223) x6_1.length co22 : Value).ownBlock)) (by (with_reducible repeat (first | apply Kd.V_alloc | apply Kd.V_drewN | apply Kd.V_drew)); exact Kd.V_mono HL225_3.out (fun _ hk => ⟨⟨hk.1.1, hk.2⟩, hk.1.2⟩)) hg hat); have n6_ := Aside0.mk (hb); have n7_ := Aside0.mk (ho); clear HO_0; clear HO_5; clear HO_6; clear HL223_3; clear HL224_3; clear HL225_3; clear HB; clear HO_10; have HO_0 := n0_; have HO_5 := n1_; have HO_6 := n2_; have HL223_3 := n3_; have HL224_3 := n4_; have HL225_3 := n5_; have HB := n6_; have HO228 := n7_; clear n0_ n1_ n2_ n3_ n4_ n5_ n6_ n7_; clear ho hb hg hat)); try go_wp2_with (first | ((with_reducible refine gate_builtin (b := .append) (xs := #[.tmp 58, .tmp 63]) rfl ?_); at_builtin; refine Kd.N_append k46 (w0 := w) w.heap.size rfl (.tmp 58) (.tmp 63) 22 46 (.agg #[(.int .i64 0), (.int .i64 0), (.string ⟨#[]⟩), (.slice none 0 0)]) 56 rfl Tryd.underlying22 info46 rfl (by decide) (by omega) u10 x10_3 (⟨(rd_T46 x6_1 x11_3).f0, (rd_T46 x6_1 x11_3).f1, (rd_T46 x6_1 x11_3).f2, (rd_T46 x6_1 x11_3).f3⟩ : S46) [.int .i64 ((rd_T46 x6_1 x11_3).f0), .int .i64 ((rd_T46 x6_1 x11_3).f1), .string ((rd_T46 x6_1 x11_3).f2), .slice A223_3 ((rd_T46 x6_1 x11_3).f3).length c223_3] (fun k_ => (P0_ k_ ∨ w.heap.size ≤ k_) ∧ some k_ ≠ (.slice (some ad223) x6_1.length co22 : Value).ownBlock) (fun k_ => ((fun k_ => (P0_ k_ ∨ w.heap.size ≤ k_) ∧ some k_ ≠ (.slice (some ad223) x6_1.length co22 : Value).ownBlock)) k_ ∧ some k_ ≠ (u10 : Value).ownBlock) rfl rfl ?aP (fun _ hk => hk) ?aF ?aO ?aB ?aS ?aL ?_; (case aP => first | exact (k46_mkF _ _ (⟨(rd_T46 x6_1 x11_3).f0, (rd_T46 x6_1 x11_3).f1, (rd_T46 x6_1 x11_3).f2, (rd_T46 x6_1 x11_3).f3⟩ : S46) (Kd.V_reads' (Kd.V_mono (ok' := (fun k_ => ((fun k_ => (P0_ k_ ∨ w.heap.size ≤ k_) ∧ some k_ ≠ (.slice (some ad223) x6_1.length co22 : Value).ownBlock)) k_ ∧ some k_ ≠ (u10 : Value).ownBlock)) (HL225_3.out) (fun k_ hk => ⟨⟨hk.1.1, hk.2⟩, hk.1.2⟩))).2.1 (Kd.V_F (Kd.V_mono (ok' := (fun k_ => ((fun k_ => (P0_ k_ ∨ w.heap.size ≤ k_) ∧ some k_ ≠ (.slice (some ad223) x6_1.length co22 : Value).ownBlock)) k_ ∧ some k_ ≠ (u10 : Value).ownBlock)) (HL225_3.out) (fun k_ hk => ⟨⟨hk.1.1, hk.2⟩, hk.1.2⟩)))) | exact (k46_mkF _ _ (⟨(rd_T46 x6_1 x11_3).f0, (rd_T46 x6_1 x11_3).f1, (rd_T46 x6_1 x11_3).f2, (rd_T46 x6_1 x11_3).f3⟩ : S46) (Kd.V_reads' (Kd.V_mono (ok' := (fun k_ => ((fun k_ => (P0_ k_ ∨ w.heap.size ≤ k_) ∧ some k_ ≠ (.slice (some ad223) x6_1.length co22 : Value).ownBlock)) k_ ∧ some k_ ≠ (u10 : Value).ownBlock)) (HL225_3.out) (fun k_ hk => ⟨⟨hk.1.1, hk.2⟩, hk.1.2⟩))).2.1 (Kd.V_F (Kd.V_mono (ok' := (fun k_ => ((fun k_ => (P0_ k_ ∨ w.heap.size ≤ k_) ∧ some k_ ≠ (.slice (some ad223) x6_1.length co22 : Value).ownBlock)) k_ ∧ some k_ ≠ (u10 : Value).ownBlock)) (Kd.V_drewN (HL225_3.out) _) (fun k_ hk => ⟨⟨hk.1.1, hk.2⟩, hk.1.2⟩))))); (case aB => exact (bw HB.out)); (case aF => exact (fun k_ hk => ⟨(.inr (Nat.le_trans (below_size (bw HB.out)) hk)), Kd.fresh' (Kd.N_lt (kN HO_6.out)) k_ hk⟩)); (case aO => exact (kN HO_10.out)); (case aS => exact (below_size (bw HB.out))); (case aL => have := LMc21.out; omega); intro v227 w23 ho hb hg hat; rw [← Ny226.out] at ho; have n0_ := Aside0.mk (Kd.V_afterv (ok := (fun k_ => (P0_ k_ ∨ w.heap.size ≤ k_) ∧ some k_ ≠ (.slice (some ad223) x6_1.length co22 : Value).ownBlock)) (by (with_reducible repeat (first | apply Kd.V_alloc | apply Kd.V_drewN | apply Kd.V_drew)); exact Kd.V_mono HO_0.out (fun _ hk => ⟨⟨hk.1, hk.2.1⟩, hk.2.2⟩)) hg hat); have n1_ := Aside0.mk (Kd.V_afterv (ok := (fun k_ => (P0_ k_ ∨ w.heap.size ≤ k_) ∧ some k_ ≠ (.slice (some ad223) x6_1.length co22 : Value).ownBlock)) (by (with_reducible repeat (first | apply Kd.V_alloc | apply Kd.V_drewN | apply Kd.V_drew)); exact Kd.V_mono HO_5.out (fun _ hk => ⟨⟨hk.1, hk.2.1⟩, hk.2.2⟩)) hg hat); have n2_ := Aside0.mk (Kd.N_afterv (ok := (fun k_ => (P0_ k_ ∨ w.heap.size ≤ k_))) (kN HO_6.out) hg hat); have n3_ := Aside0.mk (Kd.V_afterv (ok := (fun k_ => (P0_ k_ ∨ w.heap.size ≤ k_) ∧ some k_ ≠ (.slice (some ad223) x6_1.length co22 : Value).ownBlock)) (by (with_reducible repeat (first | apply Kd.V_alloc | apply Kd.V_drewN | apply Kd.V_drew)); exact Kd.V_mono HL223_3.out (fun _ hk => ⟨⟨hk.1.1, hk.2⟩, hk.1.2⟩)) hg hat); have n4_ := Aside0.mk (Kd.V_afterv (ok := (fun k_ => (P0_ k_ ∨ w.heap.size ≤ k_) ∧ some k_ ≠ (.slice (some ad223) x6_1.length co22 : Value).ownBlock)) (by (with_reducible repeat (first | apply Kd.V_alloc | apply Kd.V_drewN | apply Kd.V_drew)); exact Kd.V_mono HL224_3.out (fun _ hk => ⟨⟨hk.1, hk.2.1⟩, hk.2.2⟩)) hg hat); have n5_ := Aside0.mk (Kd.V_afterv (ok := (fun k_ => (P0_ k_ ∨ w.heap.size ≤ k_) ∧ some k_ ≠ (.slice (some ad223) x6_1.length co22 : Value).ownBlock)) (by (with_reducible repeat (first | apply Kd.V_alloc | apply Kd.V_drewN | apply Kd.V_drew)); exact Kd.V_mono HL225_3.out (fun _ hk => ⟨⟨hk.1.1, hk.2⟩, hk.1.2⟩)) hg hat); have n6_ := Aside0.mk (hb); have n7_ := Aside0.mk (ho); clear HO_0; clear HO_5; clear HO_6; clear HL223_3; clear HL224_3; clear HL225_3; clear HB; clear HO_10; have HO_0 := n0_; have HO_5 := n1_; have HO_6 := n2_; have HL223_3 := n3_; have HL224_3 := n4_; have HL225_3 := n5_; have HB := n6_; have HO228 := n7_; clear n0_ n1_ n2_ n3_ n4_ n5_ n6_ n7_; clear ho hb hg hat)))
                  go_roundg k3
                  case measure => have := HK1.out; have := HJ5.out; have := HK3.out; omega
                  case rel => exact ⟨(y226), (wrap64 (x11_3 + 1)), (by first | rfl | (simp; done) | (simp [*]; done)), H', ⟨by have := HK1.out; have := HJ5.out; have := HK3.out; omega⟩, ⟨by (with_reducible repeat (first | apply Kd.V_alloc | apply Kd.V_drewN | apply Kd.V_drew)); exact Kd.V_mono HO_0.out (fun _ hk => ⟨hk.1.1, ⟨hk.1.2, hk.2⟩⟩)⟩, ⟨by (with_reducible repeat (first | apply Kd.V_alloc | apply Kd.V_drewN | apply Kd.V_drew)); exact Kd.V_mono HO_5.out (fun _ hk => ⟨hk.1.1, ⟨hk.1.2, hk.2⟩⟩)⟩, ⟨kN HO_6.out⟩, ⟨kN HO228.out⟩, ⟨bw HB.out⟩⟩
                 ·
                  rw [if_neg c21] at H
                  exact absurd H (by simp)
               ·
                rw [if_neg c18] at H
                exact absurd H (by simp)
              ·
               rw [if_neg c17] at H
               exact absurd H (by simp)
             ·
              rw [if_neg c16] at H
              exact absurd H (by simp)
            ·
             rw [if_neg c15] at H
             have c15b0 : decide (x11_3 < (x6_1.length : Int)) = false := decide_eq_false c15
             clear c15
             by_cases c24 : 0 ≤ x7_1
             ·
              rw [if_pos c24] at H
              have c24b0 : decide (0 ≤ x7_1) = true := decide_eq_true c24
              clear c24
              by_cases c25 : x7_1 < (l0.length : Int)
              ·
               rw [if_pos c25] at H
               have c25b0 : decide (x7_1 < (l0.length : Int)) = true := decide_eq_true c25
               clear c25
               by_cases c26 : x10_3.length < 2513169434916
               ·
                rw [if_pos c26] at H
                have LMc26 := Aside0.mk c26
                clear c26
                obtain ⟨y230, hy230⟩ : ∃ y_ : List (S46), y_ = (x10_3 ++ [(⟨(rd_T46 l0 x7_1).f0, (rd_T46 l0 x7_1).f1, (rd_T46 l0 x7_1).f2, (rd_T46 l0 x7_1).f3⟩ : S46)]) := ⟨_, rfl⟩
                replace H : (stowagelaw14_PartsOrder.l0 k3 l0 a1 t219 y230 (wrap64 (x7_1 + 1))) = some r := by first | (rw [hy230]; with_reducible exact H) | (have H2_ := (Option.bind_some _ _).symm.trans H; rw [hy230]; with_reducible exact H2_) | (have H2_ := (Option.bind_some _ _).symm.trans H; with_reducible exact H2_) | with_reducible exact H | (rw [hy230]; exact H) | exact H
                have Ny230 := Aside0.mk hy230
                clear hy230
                have H' := Aside0.mk H
                clear H
                obtain ⟨Ao27, co27, eo27⟩ := Kd.N_slice HO_6.out
                subst eo27
                have p229 : 0 ≤ (x7_1 : Int) := of_decide_eq_true asm
                have q229 : x7_1 < (l0.length : Int) := of_decide_eq_true asm
                obtain ⟨ad229, A229_3, c229_3, e229, hx229_0, hx229_1, hx229_2, hx229_3, hl229_3, hi229_3⟩ := at_T46 (Kd.V_reads' HO_0.out).2.2 x7_1 p229 q229
                obtain rfl : ad218 = ad229 := (by injection e229)
                obtain ⟨ce229, hce229, hMe229, hcc229⟩ := Kd.V_get HO_0.out z46 x7_1 p229 (by first | exact q229 | exact of_decide_eq_true asm | (have e_ := (Kd.V_reads' HO_0.out).1; omega))
                obtain ⟨ua229_3, uc229_3, rfl, ul229_3, ge229_3⟩ := k46_openF hMe229
                have hv229_3 := hcc229 3 _ rfl
                rw [add_field _ _ 3 (by omega)] at hv229_3
                replace hv229_3 := Option.some.inj (hv229_3.symm.trans hx229_3)
                injection hv229_3 with hva_ hvn_ hvc_
                rw [hva_] at ge229_3
                rw [hvc_] at ul229_3
                have HL229_3 := Aside0.mk (show Kd.V k63 63 _ w.heap.size _ _ ((rd_T46 l0 x7_1).f3) from Kd.V_mk ul229_3 ge229_3)
                clear hva_ hvn_ hvc_ ge229_3 ul229_3
                clear hcc229 hce229
                have HR229_3 := Aside0.mk hi229_3
                have HC229_3 := Aside0.mk hl229_3
                clear hi229_3 hl229_3
                replace p229 := eq_true p229
                replace q229 := eq_true q229
                go_wp2_with (first | ((with_reducible refine gate_builtin (b := .append) (xs := #[.tmp 65, .tmp 70]) rfl ?_); at_builtin; refine Kd.N_append k46 (w0 := w) w.heap.size rfl (.tmp 65) (.tmp 70) 22 46 (.agg #[(.int .i64 0), (.int .i64 0), (.string ⟨#[]⟩), (.slice none 0 0)]) 56 rfl Tryd.underlying22 info46 rfl (by decide) (by omega) u10 x10_3 (⟨(rd_T46 l0 x7_1).f0, (rd_T46 l0 x7_1).f1, (rd_T46 l0 x7_1).f2, (rd_T46 l0 x7_1).f3⟩ : S46) [.int .i64 ((rd_T46 l0 x7_1).f0), .int .i64 ((rd_T46 l0 x7_1).f1), .string ((rd_T46 l0 x7_1).f2), .slice A229_3 ((rd_T46 l0 x7_1).f3).length c229_3] (fun k_ => (P0_ k_ ∨ w.heap.size ≤ k_) ∧ some k_ ≠ (.slice Ao27 x6_1.length co27 : Value).ownBlock) (fun k_ => ((fun k_ => (P0_ k_ ∨ w.heap.size ≤ k_) ∧ some k_ ≠ (.slice Ao27 x6_1.length co27 : Value).ownBlock)) k_ ∧ some k_ ≠ (u10 : Value).ownBlock) rfl rfl ?aP (fun _ hk => hk) ?aF ?aO ?aB ?aS ?aL ?_; (case aP => first | exact (k46_mkF _ _ (⟨(rd_T46 l0 x7_1).f0, (rd_T46 l0 x7_1).f1, (rd_T46 l0 x7_1).f2, (rd_T46 l0 x7_1).f3⟩ : S46) (Kd.V_reads' (Kd.V_mono (ok' := (fun k_ => ((fun k_ => (P0_ k_ ∨ w.heap.size ≤ k_) ∧ some k_ ≠ (.slice Ao27 x6_1.length co27 : Value).ownBlock)) k_ ∧ some k_ ≠ (u10 : Value).ownBlock)) (HL229_3.out) (fun k_ hk => ⟨⟨hk.1, hk.2.1⟩, hk.2.2⟩))).2.1 (Kd.V_F (Kd.V_mono (ok' := (fun k_ => ((fun k_ => (P0_ k_ ∨ w.heap.size ≤ k_) ∧ some k_ ≠ (.slice Ao27 x6_1.length co27 : Value).ownBlock)) k_ ∧ some k_ ≠ (u10 : Value).ownBlock)) (HL229_3.out) (fun k_ hk => ⟨⟨hk.1, hk.2.1⟩, hk.2.2⟩)))) | exact (k46_mkF _ _ (⟨(rd_T46 l0 x7_1).f0, (rd_T46 l0 x7_1).f1, (rd_T46 l0 x7_1).f2, (rd_T46 l0 x7_1).f3⟩ : S46) (Kd.V_reads' (Kd.V_mono (ok' := (fun k_ => ((fun k_ => (P0_ k_ ∨ w.heap.size ≤ k_) ∧ some k_ ≠ (.slice Ao27 x6_1.length co27 : Value).ownBlock)) k_ ∧ some k_ ≠ (u10 : Value).ownBlock)) (HL229_3.out) (fun k_ hk => ⟨⟨hk.1, hk.2.1⟩, hk.2.2⟩))).2.1 (Kd.V_F (Kd.V_mono (ok' := (fun k_ => ((fun k_ => (P0_ k_ ∨ w.heap.size ≤ k_) ∧ some k_ ≠ (.slice Ao27 x6_1.length co27 : Value).ownBlock)) k_ ∧ some k_ ≠ (u10 : Value).ownBlock)) (Kd.V_drewN (HL229_3.out) _) (fun k_ hk => ⟨⟨hk.1, hk.2.1⟩, hk.2.2⟩))))); (case aB => exact (bw HB.out)); (case aF => exact (fun k_ hk => ⟨(.inr (Nat.le_trans (below_size (bw HB.out)) hk)), Kd.fresh' (Kd.N_lt (kN HO_6.out)) k_ hk⟩)); (case aO => exact (kN HO_10.out)); (case aS => exact (below_size (bw HB.out))); (case aL => have := LMc26.out; omega); intro v231 w28 ho hb hg hat; rw [← Ny230.out] at ho; have n0_ := Aside0.mk (Kd.V_afterv (ok := (fun k_ => (P0_ k_ ∨ w.heap.size ≤ k_) ∧ some k_ ≠ (.slice Ao27 x6_1.length co27 : Value).ownBlock)) (by (with_reducible repeat (first | apply Kd.V_alloc | apply Kd.V_drewN | apply Kd.V_drew)); exact Kd.V_mono HO_0.out (fun _ hk => ⟨⟨hk.1, hk.2.1⟩, hk.2.2⟩)) hg hat); have n1_ := Aside0.mk (Kd.V_afterv (ok := (fun k_ => (P0_ k_ ∨ w.heap.size ≤ k_) ∧ some k_ ≠ (.slice Ao27 x6_1.length co27 : Value).ownBlock)) (by (with_reducible repeat (first | apply Kd.V_alloc | apply Kd.V_drewN | apply Kd.V_drew)); exact Kd.V_mono HO_5.out (fun _ hk => ⟨⟨hk.1, hk.2.1⟩, hk.2.2⟩)) hg hat); have n2_ := Aside0.mk (Kd.N_afterv (ok := (fun k_ => (P0_ k_ ∨ w.heap.size ≤ k_))) (kN HO_6.out) hg hat); have n3_ := Aside0.mk (Kd.V_afterv (ok := (fun k_ => (P0_ k_ ∨ w.heap.size ≤ k_) ∧ some k_ ≠ (.slice Ao27 x6_1.length co27 : Value).ownBlock)) (by (with_reducible repeat (first | apply Kd.V_alloc | apply Kd.V_drewN | apply Kd.V_drew)); exact Kd.V_mono HL229_3.out (fun _ hk => ⟨⟨hk.1, hk.2.1⟩, hk.2.2⟩)) hg hat); have n4_ := Aside0.mk (hb); have n5_ := Aside0.mk (ho); clear HO_0; clear HO_5; clear HO_6; clear HL229_3; clear HB; clear HO_10; have HO_0 := n0_; have HO_5 := n1_; have HO_6 := n2_; have HL229_3 := n3_; have HB := n4_; have HO232 := n5_; clear n0_ n1_ n2_ n3_ n4_ n5_; clear ho hb hg hat))
                repeat (go_quiet (first | ((with_reducible refine gate_builtin (b := .append) (xs := #[.tmp 65, .tmp 70]) rfl ?_); at_builtin; refine Kd.N_append k46 (w0 := w) w.heap.size rfl (.tmp 65) (.tmp 70) 22 46 (.agg #[(.int .i64 0), (.int .i64 0), (.string ⟨#[]⟩), (.slice none 0 0)]) 56 rfl Tryd.underlying22 info46 rfl (by decide) (by omega) u10 x10_3 (⟨(rd_T46 l0 x7_1).f0, (rd_T46 l0 x7_1).f1, (rd_T46 l0 x7_1).f2, (rd_T46 l0 x7_1).f3⟩ : S46) [.int .i64 ((rd_T46 l0 x7_1).f0), .int .i64 ((rd_T46 l0 x7_1).f1), .string ((rd_T46 l0 x7_1).f2), .slice A229_3 ((rd_T46 l0 x7_1).f3).length c229_3] (fun k_ => (P0_ k_ ∨ w.heap.size ≤ k_) ∧ some k_ ≠ (.slice Ao27 x6_1.length co27 : Value).ownBlock) (fun k_ => ((fun k_ => (P0_ k_ ∨ w.heap.size ≤ k_) ∧ some k_ ≠ (.slice Ao27 x6_1.length co27 : Value).ownBlock)) k_ ∧ some k_ ≠ (u10 : Value).ownBlock) rfl rfl ?aP (fun _ hk => hk) ?aF ?aO ?aB ?aS ?aL ?_; (case aP => first | exact (k46_mkF _ _ (⟨(rd_T46 l0 x7_1).f0, (rd_T46 l0 x7_1).f1, (rd_T46 l0 x7_1).f2, (rd_T46 l0 x7_1).f3⟩ : S46) (Kd.V_reads' (Kd.V_mono (ok' := (fun k_ => ((fun k_ => (P0_ k_ ∨ w.heap.size ≤ k_) ∧ some k_ ≠ (.slice Ao27 x6_1.length co27 : Value).ownBlock)) k_ ∧ some k_ ≠ (u10 : Value).ownBlock)) (HL229_3.out) (fun k_ hk => ⟨⟨hk.1, hk.2.1⟩, hk.2.2⟩))).2.1 (Kd.V_F (Kd.V_mono (ok' := (fun k_ => ((fun k_ => (P0_ k_ ∨ w.heap.size ≤ k_) ∧ some k_ ≠ (.slice Ao27 x6_1.length co27 : Value).ownBlock)) k_ ∧ some k_ ≠ (u10 : Value).ownBlock)) (HL229_3.out) (fun k_ hk => ⟨⟨hk.1, hk.2.1⟩, hk.2.2⟩)))) | exact (k46_mkF _ _ (⟨(rd_T46 l0 x7_1).f0, (rd_T46 l0 x7_1).f1, (rd_T46 l0 x7_1).f2, (rd_T46 l0 x7_1).f3⟩ : S46) (Kd.V_reads' (Kd.V_mono (ok' := (fun k_ => ((fun k_ => (P0_ k_ ∨ w.heap.size ≤ k_) ∧ some k_ ≠ (.slice Ao27 x6_1.length co27 : Value).ownBlock)) k_ ∧ some k_ ≠ (u10 : Value).ownBlock)) (HL229_3.out) (fun k_ hk => ⟨⟨hk.1, hk.2.1⟩, hk.2.2⟩))).2.1 (Kd.V_F (Kd.V_mono (ok' := (fun k_ => ((fun k_ => (P0_ k_ ∨ w.heap.size ≤ k_) ∧ some k_ ≠ (.slice Ao27 x6_1.length co27 : Value).ownBlock)) k_ ∧ some k_ ≠ (u10 : Value).ownBlock)) (Kd.V_drewN (HL229_3.out) _) (fun k_ hk => ⟨⟨hk.1, hk.2.1⟩, hk.2.2⟩))))); (case aB => exact (bw HB.out)); (case aF => exact (fun k_ hk => ⟨(.inr (Nat.le_trans (below_size (bw HB.out)) hk)), Kd.fresh' (Kd.N_lt (kN HO_6.out)) k_ hk⟩)); (case aO => exact (kN HO_10.out)); (case aS => exact (below_size (bw HB.out))); (case aL => have := LMc26.out; omega); intro v231 w28 ho hb hg hat; rw [← Ny230.out] at ho; have n0_ := Aside0.mk (Kd.V_afterv (ok := (fun k_ => (P0_ k_ ∨ w.heap.size ≤ k_) ∧ some k_ ≠ (.slice Ao27 x6_1.length co27 : Value).ownBlock)) (by (with_reducible repeat (first | apply Kd.V_alloc | apply Kd.V_drewN | apply Kd.V_drew)); exact Kd.V_mono HO_0.out (fun _ hk => ⟨⟨hk.1, hk.2.1⟩, hk.2.2⟩)) hg hat); have n1_ := Aside0.mk (Kd.V_afterv (ok := (fun k_ => (P0_ k_ ∨ w.heap.size ≤ k_) ∧ some k_ ≠ (.slice Ao27 x6_1.length co27 : Value).ownBlock)) (by (with_reducible repeat (first | apply Kd.V_alloc | apply Kd.V_drewN | apply Kd.V_drew)); exact Kd.V_mono HO_5.out (fun _ hk => ⟨⟨hk.1, hk.2.1⟩, hk.2.2⟩)) hg hat); have n2_ := Aside0.mk (Kd.N_afterv (ok := (fun k_ => (P0_ k_ ∨ w.heap.size ≤ k_))) (kN HO_6.out) hg hat); have n3_ := Aside0.mk (Kd.V_afterv (ok := (fun k_ => (P0_ k_ ∨ w.heap.size ≤ k_) ∧ some k_ ≠ (.slice Ao27 x6_1.length co27 : Value).ownBlock)) (by (with_reducible repeat (first | apply Kd.V_alloc | apply Kd.V_drewN | apply Kd.V_drew)); exact Kd.V_mono HL229_3.out (fun _ hk => ⟨⟨hk.1, hk.2.1⟩, hk.2.2⟩)) hg hat); have n4_ := Aside0.mk (hb); have n5_ := Aside0.mk (ho); clear HO_0; clear HO_5; clear HO_6; clear HL229_3; clear HB; clear HO_10; have HO_0 := n0_; have HO_5 := n1_; have HO_6 := n2_; have HL229_3 := n3_; have HB := n4_; have HO232 := n5_; clear n0_ n1_ n2_ n3_ n4_ n5_; clear ho hb hg hat)); try go_wp2_with (first | ((with_reducible refine gate_builtin (b := .append) (xs := #[.tmp 65, .tmp 70]) rfl ?_); at_builtin; refine Kd.N_append k46 (w0 := w) w.heap.size rfl (.tmp 65) (.tmp 70) 22 46 (.agg #[(.int .i64 0), (.int .i64 0), (.string ⟨#[]⟩), (.slice none 0 0)]) 56 rfl Tryd.underlying22 info46 rfl (by decide) (by omega) u10 x10_3 (⟨(rd_T46 l0 x7_1).f0, (rd_T46 l0 x7_1).f1, (rd_T46 l0 x7_1).f2, (rd_T46 l0 x7_1).f3⟩ : S46) [.int .i64 ((rd_T46 l0 x7_1).f0), .int .i64 ((rd_T46 l0 x7_1).f1), .string ((rd_T46 l0 x7_1).f2), .slice A229_3 ((rd_T46 l0 x7_1).f3).length c229_3] (fun k_ => (P0_ k_ ∨ w.heap.size ≤ k_) ∧ some k_ ≠ (.slice Ao27 x6_1.length co27 : Value).ownBlock) (fun k_ => ((fun k_ => (P0_ k_ ∨ w.heap.size ≤ k_) ∧ some k_ ≠ (.slice Ao27 x6_1.length co27 : Value).ownBlock)) k_ ∧ some k_ ≠ (u10 : Value).ownBlock) rfl rfl ?aP (fun _ hk => hk) ?aF ?aO ?aB ?aS ?aL ?_; (case aP => first | exact (k46_mkF _ _ (⟨(rd_T46 l0 x7_1).f0, (rd_T46 l0 x7_1).f1, (rd_T46 l0 x7_1).f2, (rd_T46 l0 x7_1).f3⟩ : S46) (Kd.V_reads' (Kd.V_mono (ok' := (fun k_ => ((fun k_ => (P0_ k_ ∨ w.heap.size ≤ k_) ∧ some k_ ≠ (.slice Ao27 x6_1.length co27 : Value).ownBlock)) k_ ∧ some k_ ≠ (u10 : Value).ownBlock)) (HL229_3.out) (fun k_ hk => ⟨⟨hk.1, hk.2.1⟩, hk.2.2⟩))).2.1 (Kd.V_F (Kd.V_mono (ok' := (fun k_ => ((fun k_ => (P0_ k_ ∨ w.heap.size ≤ k_) ∧ some k_ ≠ (.slice Ao27 x6_1.length co27 : Value).ownBlock)) k_ ∧ some k_ ≠ (u10 : Value).ownBlock)) (HL229_3.out) (fun k_ hk => ⟨⟨hk.1, hk.2.1⟩, hk.2.2⟩)))) | exact (k46_mkF _ _ (⟨(rd_T46 l0 x7_1).f0, (rd_T46 l0 x7_1).f1, (rd_T46 l0 x7_1).f2, (rd_T46 l0 x7_1).f3⟩ : S46) (Kd.V_reads' (Kd.V_mono (ok' := (fun k_ => ((fun k_ => (P0_ k_ ∨ w.heap.size ≤ k_) ∧ some k_ ≠ (.slice Ao27 x6_1.length co27 : Value).ownBlock)) k_ ∧ some k_ ≠ (u10 : Value).ownBlock)) (HL229_3.out) (fun k_ hk => ⟨⟨hk.1, hk.2.1⟩, hk.2.2⟩))).2.1 (Kd.V_F (Kd.V_mono (ok' := (fun k_ => ((fun k_ => (P0_ k_ ∨ w.heap.size ≤ k_) ∧ some k_ ≠ (.slice Ao27 x6_1.length co27 : Value).ownBlock)) k_ ∧ some k_ ≠ (u10 : Value).ownBlock)) (Kd.V_drewN (HL229_3.out) _) (fun k_ hk => ⟨⟨hk.1, hk.2.1⟩, hk.2.2⟩))))); (case aB => exact (bw HB.out)); (case aF => exact (fun k_ hk => ⟨(.inr (Nat.le_trans (below_size (bw HB.out)) hk)), Kd.fresh' (Kd.N_lt (kN HO_6.out)) k_ hk⟩)); (case aO => exact (kN HO_10.out)); (case aS => exact (below_size (bw HB.out))); (case aL => have := LMc26.out; omega); intro v231 w28 ho hb hg hat; rw [← Ny230.out] at ho; have n0_ := Aside0.mk (Kd.V_afterv (ok := (fun k_ => (P0_ k_ ∨ w.heap.size ≤ k_) ∧ some k_ ≠ (.slice Ao27 x6_1.length co27 : Value).ownBlock)) (by (with_reducible repeat (first | apply Kd.V_alloc | apply Kd.V_drewN | apply Kd.V_drew)); exact Kd.V_mono HO_0.out (fun _ hk => ⟨⟨hk.1, hk.2.1⟩, hk.2.2⟩)) hg hat); have n1_ := Aside0.mk (Kd.V_afterv (ok := (fun k_ => (P0_ k_ ∨ w.heap.size ≤ k_) ∧ some k_ ≠ (.slice Ao27 x6_1.length co27 : Value).ownBlock)) (by (with_reducible repeat (first | apply Kd.V_alloc | apply Kd.V_drewN | apply Kd.V_drew)); exact Kd.V_mono HO_5.out (fun _ hk => ⟨⟨hk.1, hk.2.1⟩, hk.2.2⟩)) hg hat); have n2_ := Aside0.mk (Kd.N_afterv (ok := (fun k_ => (P0_ k_ ∨ w.heap.size ≤ k_))) (kN HO_6.out) hg hat); have n3_ := Aside0.mk (Kd.V_afterv (ok := (fun k_ => (P0_ k_ ∨ w.heap.size ≤ k_) ∧ some k_ ≠ (.slice Ao27 x6_1.length co27 : Value).ownBlock)) (by (with_reducible repeat (first | apply Kd.V_alloc | apply Kd.V_drewN | apply Kd.V_drew)); exact Kd.V_mono HL229_3.out (fun _ hk => ⟨⟨hk.1, hk.2.1⟩, hk.2.2⟩)) hg hat); have n4_ := Aside0.mk (hb); have n5_ := Aside0.mk (ho); clear HO_0; clear HO_5; clear HO_6; clear HL229_3; clear HB; clear HO_10; have HO_0 := n0_; have HO_5 := n1_; have HO_6 := n2_; have HL229_3 := n3_; have HB := n4_; have HO232 := n5_; clear n0_ n1_ n2_ n3_ n4_ n5_; clear ho hb hg hat)))
                go_roundg k3
                case measure => have := HK1.out; have := HJ5.out; have := HK3.out; omega
                case rel => exact ⟨(t219), (y230), (wrap64 (x7_1 + 1)), (by first | rfl | (simp; done) | (simp [*]; done)), H', ⟨by have := HK1.out; have := HJ5.out; have := HK3.out; omega⟩, ⟨by (with_reducible repeat (first | apply Kd.V_alloc | apply Kd.V_drewN | apply Kd.V_drew)); exact Kd.V_mono HO_0.out (fun _ hk => ⟨hk.1.1, hk.2⟩)⟩, ⟨by (with_reducible repeat (first | apply Kd.V_alloc | apply Kd.V_drewN | apply Kd.V_drew)); exact Kd.V_mono HO_5.out (fun _ hk => ⟨hk.1.1, hk.2⟩)⟩, ⟨by (with_reducible repeat (first | apply Kd.N_alloc | apply Kd.N_drewN | apply Kd.N_drew)); exact Kd.N_mono HO232.out (fun _ hk => hk.1)⟩, ⟨bw HB.out⟩⟩
               ·
                rw [if_neg c26] at H
                exact absurd H (by simp)
              ·
               rw [if_neg c25] at H
               exact absurd H (by simp)
             ·
              rw [if_neg c24] at H
              exact absurd H (by simp)
         ·
          rw [if_neg c12] at H
          have c12b0 : (t222 == 0) = false := beq_eq_false_iff_ne.mpr c12
          have c12b1 : (t222 != 0) = true := bne_iff_ne.mpr c12
          have H' := Aside0.mk H
          clear H
          have p218 : 0 ≤ (x7_1 : Int) := of_decide_eq_true asm
          have q218 : x7_1 < (l0.length : Int) := of_decide_eq_true asm
          obtain ⟨ad218, A218_3, c218_3, e218, hx218_0, hx218_1, hx218_2, hx218_3, hl218_3, hi218_3⟩ := at_T46 (Kd.V_reads' HO_0.out).2.2 x7_1 p218 q218
          cases e218
          obtain ⟨ce218, hce218, hMe218, hcc218⟩ := Kd.V_get HO_0.out z46 x7_1 p218 (by first | exact q218 | exact of_decide_eq_true asm | (have e_ := (Kd.V_reads' HO_0.out).1; omega))
          obtain ⟨ua218_3, uc218_3, rfl, ul218_3, ge218_3⟩ := k46_openF hMe218
          have hv218_3 := hcc218 3 _ rfl
          rw [add_field _ _ 3 (by omega)] at hv218_3
          replace hv218_3 := Option.some.inj (hv218_3.symm.trans hx218_3)
          injection hv218_3 with hva_ hvn_ hvc_
          rw [hva_] at ge218_3
          rw [hvc_] at ul218_3
          have HL218_3 := Aside0.mk (show Kd.V k63 63 _ w.heap.size _ _ ((rd_T46 l0 x7_1).f3) from Kd.V_mk ul218_3 ge218_3)
          clear hva_ hvn_ hvc_ ge218_3 ul218_3
          clear hcc218 hce218
          have HR218_3 := Aside0.mk hi218_3
          have HC218_3 := Aside0.mk hl218_3
          clear hi218_3 hl218_3
          replace p218 := eq_true p218
          replace q218 := eq_true q218
          obtain ⟨Ao29, co29, eo29⟩ := Kd.V_slice HO_5.out
          subst eo29
          go_wp2_with (first | (go_at_call 16; (with_reducible refine (parts_Put.calls kj5 _ _ x5_1 ((rd_T46 l0 x7_1).f0) ((rd_T46 l0 x7_1).f1) ((rd_T46 l0 x7_1).f2) _ _ ((rd_T46 l0 x7_1).f3) t219 t222 _ ?side1 ?side2 ?side3 ?side4 A11.out).mono ?_); (case side1 => repeat (first | exact (Kd.V_reads' HO_5.out).2.2 | (with_reducible refine Kd.C_alloc ?_ _) | (with_reducible refine Kd.C_drewN ?_ _) | (with_reducible refine Kd.C_drew ?_))); (case side2 => exact (Kd.V_reads' HO_5.out).2.1); (case side3 => repeat (first | exact (by repeat (first | (with_reducible exact HR218_3.out) | (with_reducible refine Kd.C_alloc ?_ _) | (with_reducible refine Kd.C_drewN ?_ _) | (with_reducible refine Kd.C_drew ?_) | exact HR218_3.out)) | (with_reducible refine Kd.C_alloc ?_ _) | (with_reducible refine Kd.C_drewN ?_ _) | (with_reducible refine Kd.C_drew ?_))); (case side4 => exact HC218_3.out); rintro e w30 ⟨v220, rfl, ho0, hb⟩; have n0_ := Aside0.mk (Kd.V_below (kV HO_0.out) hb); have n1_ := Aside0.mk (Kd.V_below (kV HO_5.out) hb); have n2_ := Aside0.mk (Kd.N_below (kN HO_6.out) hb); have n3_ := Aside0.mk (Kd.V_below (kV HL218_3.out) hb); have n4_ := Aside0.mk (Kd.V_lower (Kd.V_mono (ok' := fun k_ => (P0_ k_ ∨ w.heap.size ≤ k_) ∧ some k_ ≠ (u6 : Value).ownBlock) ho0 (fun k_ hk_ => ⟨(.inr (Nat.le_trans (below_size (bw HB.out)) hk_)), (Kd.fresh' (Kd.N_lt (kN HO_6.out)) k_ hk_)⟩)) (below_size (bw HB.out))); have n5_ := Aside0.mk (Kd.C_below (by repeat (first | (with_reducible exact HR218_3.out) | (with_reducible refine Kd.C_alloc ?_ _) | (with_reducible refine Kd.C_drewN ?_ _) | (with_reducible refine Kd.C_drew ?_) | exact HR218_3.out)) hb); have n6_ := Aside0.mk (below_step (bw HB.out) hb); clear HO_0; clear HO_5; clear HO_6; clear HL218_3; clear HR218_3; clear HB; have HO_0 := n0_; have HO_5 := n1_; have HO_6 := n2_; have HL218_3 := n3_; have HO221 := n4_; have HR218_3 := n5_; have HB := n6_; clear n0_ n1_ n2_ n3_ n4_ n5_ n6_; (try clear hb); (try clear hb2); (try clear hk); (try clear hi); (try clear ho0)))
          repeat (go_quiet (first | (go_at_call 16; (with_reducible refine (parts_Put.calls kj5 _ _ x5_1 ((rd_T46 l0 x7_1).f0) ((rd_T46 l0 x7_1).f1) ((rd_T46 l0 x7_1).f2) _ _ ((rd_T46 l0 x7_1).f3) t219 t222 _ ?side1 ?side2 ?side3 ?side4 A11.out).mono ?_); (case side1 => repeat (first | exact (Kd.V_reads' HO_5.out).2.2 | (with_reducible refine Kd.C_alloc ?_ _) | (with_reducible refine Kd.C_drewN ?_ _) | (with_reducible refine Kd.C_drew ?_))); (case side2 => exact (Kd.V_reads' HO_5.out).2.1); (case side3 => repeat (first | exact (by repeat (first | (with_reducible exact HR218_3.out) | (with_reducible refine Kd.C_alloc ?_ _) | (with_reducible refine Kd.C_drewN ?_ _) | (with_reducible refine Kd.C_drew ?_) | exact HR218_3.out)) | (with_reducible refine Kd.C_alloc ?_ _) | (with_reducible refine Kd.C_drewN ?_ _) | (with_reducible refine Kd.C_drew ?_))); (case side4 => exact HC218_3.out); rintro e w30 ⟨v220, rfl, ho0, hb⟩; have n0_ := Aside0.mk (Kd.V_below (kV HO_0.out) hb); have n1_ := Aside0.mk (Kd.V_below (kV HO_5.out) hb); have n2_ := Aside0.mk (Kd.N_below (kN HO_6.out) hb); have n3_ := Aside0.mk (Kd.V_below (kV HL218_3.out) hb); have n4_ := Aside0.mk (Kd.V_lower (Kd.V_mono (ok' := fun k_ => (P0_ k_ ∨ w.heap.size ≤ k_) ∧ some k_ ≠ (u6 : Value).ownBlock) ho0 (fun k_ hk_ => ⟨(.inr (Nat.le_trans (below_size (bw HB.out)) hk_)), (Kd.fresh' (Kd.N_lt (kN HO_6.out)) k_ hk_)⟩)) (below_size (bw HB.out))); have n5_ := Aside0.mk (Kd.C_below (by repeat (first | (with_reducible exact HR218_3.out) | (with_reducible refine Kd.C_alloc ?_ _) | (with_reducible refine Kd.C_drewN ?_ _) | (with_reducible refine Kd.C_drew ?_) | exact HR218_3.out)) hb); have n6_ := Aside0.mk (below_step (bw HB.out) hb); clear HO_0; clear HO_5; clear HO_6; clear HL218_3; clear HR218_3; clear HB; have HO_0 := n0_; have HO_5 := n1_; have HO_6 := n2_; have HL218_3 := n3_; have HO221 := n4_; have HR218_3 := n5_; have HB := n6_; clear n0_ n1_ n2_ n3_ n4_ n5_ n6_; (try clear hb); (try clear hb2); (try clear hk); (try clear hi); (try clear ho0); clear A11)); try go_wp2_with (first | (go_at_call 16; (with_reducible refine (parts_Put.calls kj5 _ _ x5_1 ((rd_T46 l0 x7_1).f0) ((rd_T46 l0 x7_1).f1) ((rd_T46 l0 x7_1).f2) _ _ ((rd_T46 l0 x7_1).f3) t219 t222 _ ?side1 ?side2 ?side3 ?side4 A11.out).mono ?_); (case side1 => repeat (first | exact (Kd.V_reads' HO_5.out).2.2 | (with_reducible refine Kd.C_alloc ?_ _) | (with_reducible refine Kd.C_drewN ?_ _) | (with_reducible refine Kd.C_drew ?_))); (case side2 => exact (Kd.V_reads' HO_5.out).2.1); (case side3 => repeat (first | exact (by repeat (first | (with_reducible exact HR218_3.out) | (with_reducible refine Kd.C_alloc ?_ _) | (with_reducible refine Kd.C_drewN ?_ _) | (with_reducible refine Kd.C_drew ?_) | exact HR218_3.out)) | (with_reducible refine Kd.C_alloc ?_ _) | (with_reducible refine Kd.C_drewN ?_ _) | (with_reducible refine Kd.C_drew ?_))); (case side4 => exact HC218_3.out); rintro e w30 ⟨v220, rfl, ho0, hb⟩; have n0_ := Aside0.mk (Kd.V_below (kV HO_0.out) hb); have n1_ := Aside0.mk (Kd.V_below (kV HO_5.out) hb); have n2_ := Aside0.mk (Kd.N_below (kN HO_6.out) hb); have n3_ := Aside0.mk (Kd.V_below (kV HL218_3.out) hb); have n4_ := Aside0.mk (Kd.V_lower (Kd.V_mono (ok' := fun k_ => (P0_ k_ ∨ w.heap.size ≤ k_) ∧ some k_ ≠ (u6 : Value).ownBlock) ho0 (fun k_ hk_ => ⟨(.inr (Nat.le_trans (below_size (bw HB.out)) hk_)), (Kd.fresh' (Kd.N_lt (kN HO_6.out)) k_ hk_)⟩)) (below_size (bw HB.out))); have n5_ := Aside0.mk (Kd.C_below (by repeat (first | (with_reducible exact HR218_3.out) | (with_reducible refine Kd.C_alloc ?_ _) | (with_reducible refine Kd.C_drewN ?_ _) | (with_reducible refine Kd.C_drew ?_) | exact HR218_3.out)) hb); have n6_ := Aside0.mk (below_step (bw HB.out) hb); clear HO_0; clear HO_5; clear HO_6; clear HL218_3; clear HR218_3; clear HB; have HO_0 := n0_; have HO_5 := n1_; have HO_6 := n2_; have HL218_3 := n3_; have HO221 := n4_; have HR218_3 := n5_; have HB := n6_; clear n0_ n1_ n2_ n3_ n4_ n5_ n6_; (try clear hb); (try clear hb2); (try clear hk); (try clear hi); (try clear ho0); clear A11)))
          go_roundg kj5
          case measure => have := HK1.out; have := HJ5.out; omega
          case rel => exact ⟨(x5_1), (x6_1), (wrap64 (x7_1 + 1)), (by first | rfl | (simp; done) | (simp [*]; done)), H', ⟨by have := HK1.out; have := HJ5.out; omega⟩, ⟨kV HO_0.out⟩, ⟨kV HO_5.out⟩, ⟨kN HO_6.out⟩, ⟨bw HB.out⟩⟩
        ·
         rw [if_neg c10] at H
         exact absurd H (by simp)
       ·
        rw [if_neg c9] at H
        exact absurd H (by simp)
      ·
       replace c8 := Bool.eq_false_iff.mpr c8
       subst c8
       have H1 : (stowagelaw14_PartsOrder.l2 kj5 a1 x5_1 x6_1 ([] : List (S46)) 0) = some r := by rw [if_neg (show ¬ (false = true) by decide)] at H; exact H
       clear H
       have H := H1
       clear H1
       have H' := Aside0.mk H
       clear H
       go_wp2
       repeat (go_quiet (fail); try go_wp2)
       go_loopg [12, 13] kj5 (fun kq v12 v13 w' => ∃ (x12_3 : List (S46)) (x13_3 : Int), v13 = .int .i64 x13_3 ∧ Aside0 (stowagelaw14_PartsOrder.l2 kq a1 x5_1 x6_1 x12_3 x13_3 = some r) ∧ Aside0 (kq ≤ kj5) ∧ Aside0 (Kd.V k46 46 w' w.heap.size (fun k_ => (P0_ k_ ∨ w.heap.size ≤ k_) ∧ some k_ ≠ (u6 : Value).ownBlock) u5 x5_1) ∧ Aside0 (Kd.N k46 46 w' w.heap.size (fun k_ => (P0_ k_ ∨ w.heap.size ≤ k_)) u6 x6_1) ∧ Aside0 (Kd.V k46 46 w' w.heap.size (fun k_ => (P0_ k_ ∨ w.heap.size ≤ k_) ∧ some k_ ≠ (u6 : Value).ownBlock) v12 x12_3) ∧ Aside0 (Below w.heap.size w w'))
       case atStart => exact ⟨(([] : List (S46))), (0), (by first | rfl | (simp; done) | (simp [*]; done)), H', ⟨Nat.le_refl _⟩, ⟨kV HO_5.out⟩, ⟨kN HO_6.out⟩, ⟨(by first | exact Kd.S_nil _ _ _ _ _ | exact Kd.N_nil _ _ _ _ _ | exact Kd.V_nil _ _ _ _ _ | exact Kd.Q_nil _ _ _ _ _ | exact Kd.R_nil _ _ _ _ _)⟩, ⟨bw HB.out⟩⟩
       case round =>
        clear H'
        try clear c1
        try clear c2
        try clear p2
        try clear q2
        try clear hx2
        try clear c4
        try clear p6
        try clear c7
        try clear c7b0
        try clear c8
        try clear c9
        try clear c9b0
        try clear c10
        try clear c10b0
        try clear c12
        try clear c12b0
        try clear c12b1
        try clear c15
        try clear c15b0
        try clear c16
        try clear c16b0
        try clear c17
        try clear c17b0
        try clear c18
        try clear c18b0
        try clear c19
        try clear c19b0
        try clear c19b1
        try clear c21
        try clear p21
        try clear q21
        try clear hx21
        try clear c22
        try clear p22
        try clear q22
        try clear hx22
        try clear c24
        try clear c24b0
        try clear c25
        try clear c25b0
        try clear c26
        try clear hx218_0
        try clear hx218_1
        try clear hx218_2
        try clear hx218_3
        try clear hx223_0
        try clear hx223_1
        try clear hx223_2
        try clear hx223_3
        try clear hx224_0
        try clear hx224_1
        try clear hx224_2
        try clear hx224_3
        try clear hx225_0
        try clear hx225_1
        try clear hx225_2
        try clear hx225_3
        try clear hx229_0
        try clear hx229_1
        try clear hx229_2
        try clear hx229_3
        try clear p2
        try clear p218
        try clear p223
        try clear p224
        try clear p225
        try clear p229
        try clear p6
        try clear q2
        try clear q218
        try clear q223
        try clear q224
        try clear q225
        try clear q229
        obtain ⟨x12_3, x13_3, rfl, HA, HK3, HO_5, HO_6, HO_12, HB⟩ := hrel
        cases gk with
        | zero => exact absurd HA.out (by simp [stowagelaw14_PartsOrder.l2])
        | succ k3 =>
         have H := HA.out
         clear HA
         simp only [stowagelaw14_PartsOrder.l2] at H
         by_cases c31 : x13_3 < (x6_1.length : Int)
         ·
          rw [if_pos c31] at H
          have c31b0 : decide (x13_3 < (x6_1.length : Int)) = true := decide_eq_true c31
          clear c31
          by_cases c32 : (x6_1.length : Int) = 0
          ·
           rw [if_pos c32] at H
           exact absurd H (by simp)
          ·
           rw [if_neg c32] at H
           have c32b0 : ((x6_1.length : Int) == 0) = false := beq_eq_false_iff_ne.mpr c32
           have c32b1 : ((x6_1.length : Int) != 0) = true := bne_iff_ne.mpr c32
           have c32b2 : ¬ (x6_1 = []) := fun h_ => c32 (by rw [h_]; rfl)
           obtain ⟨ji33, hji33⟩ : ∃ j_ : Int, (Int.tmod (wrap64 (x13_3 + (Int.tmod (wrap64 ((Int.tmod a1 (x6_1.length : Int)) + (x6_1.length : Int))) (x6_1.length : Int)))) (x6_1.length : Int)) = j_ := ⟨_, rfl⟩
           replace H : (if 0 ≤ (ji33) then (if (ji33) < (x6_1.length : Int) then ((parts_Put.f k3 x12_3 ((rd_T46 x6_1 (ji33)).f0) ((rd_T46 x6_1 (ji33)).f1) ((rd_T46 x6_1 (ji33)).f2) ((rd_T46 x6_1 (ji33)).f3)).bind fun bt234 => (if bt234.2 = 0 then (stowagelaw14_PartsOrder.l2 k3 a1 x5_1 x6_1 bt234.1 (wrap64 (x13_3 + 1))) else (some false))) else (none)) else (none)) = some r := by first | (rw [hji33] at H; exact H) | (simp only [hji33] at H ⊢; exact H)
           by_cases c34 : 0 ≤ (ji33)
           ·
            rw [if_pos c34] at H
            have c34b0 : decide (0 ≤ (ji33)) = true := decide_eq_true c34
            clear c34
            by_cases c35 : (ji33) < (x6_1.length : Int)
            ·
             rw [if_pos c35] at H
             have c35b0 : decide ((ji33) < (x6_1.length : Int)) = true := decide_eq_true c35
             clear c35
             replace H := Option.bind_eq_some_iff.mp H
             obtain ⟨⟨t234, t237⟩, A360, H⟩ := H
             replace H : (if t237 = 0 then (stowagelaw14_PartsOrder.l2 k3 a1 x5_1 x6_1 t234 (wrap64 (x13_3 + 1))) else (some false)) = some r := H
             have A36 := Aside0.mk A360
             clear A360
             by_cases c37 : t237 = 0
             ·
              rw [if_pos c37] at H
              have c37b0 : (t237 == 0) = true := beq_iff_eq.mpr c37
              have c37b1 : (t237 != 0) = false := bne_eq_false_iff_eq.mpr c37
              clear c37
              have H' := Aside0.mk H
              clear H
              obtain ⟨Ao38, co38, eo38⟩ := Kd.N_slice HO_6.out
              subst eo38
              have p233 : 0 ≤ ((ji33) : Int) := of_decide_eq_true asm
              have q233 : (ji33) < (x6_1.length : Int) := of_decide_eq_true asm
              obtain ⟨ad233, A233_3, c233_3, e233, hx233_0, hx233_1, hx233_2, hx233_3, hl233_3, hi233_3⟩ := at_T46 (Kd.N_reads' HO_6.out).2.2 (ji33) p233 q233
              cases e233
              obtain ⟨ce233, hce233, hMe233, hcc233⟩ := Kd.N_get HO_6.out z46 (ji33) p233 (by first | exact q233 | exact of_decide_eq_true asm | (have e_ := (Kd.N_reads' HO_6.out).1; omega))
              obtain ⟨ua233_3, uc233_3, rfl, ul233_3, ge233_3⟩ := k46_openF hMe233
              have hv233_3 := hcc233 3 _ rfl
              rw [add_field _ _ 3 (by omega)] at hv233_3
              replace hv233_3 := Option.some.inj (hv233_3.symm.trans hx233_3)
              injection hv233_3 with hva_ hvn_ hvc_
              rw [hva_] at ge233_3
              rw [hvc_] at ul233_3
              have HL233_3 := Aside0.mk (show Kd.V k63 63 _ w.heap.size _ _ ((rd_T46 x6_1 (ji33)).f3) from Kd.V_mk ul233_3 ge233_3)
              clear hva_ hvn_ hvc_ ge233_3 ul233_3
              clear hcc233 hce233
              have HR233_3 := Aside0.mk hi233_3
              have HC233_3 := Aside0.mk hl233_3
              clear hi233_3 hl233_3
              replace p233 := eq_true p233
              replace q233 := eq_true q233
              obtain ⟨Ao39, co39, eo39⟩ := Kd.V_slice HO_12.out
              subst eo39
              go_wp2_with (first | (go_at_call 16; (with_reducible refine (parts_Put.calls k3 _ _ x12_3 ((rd_T46 x6_1 (ji33)).f0) ((rd_T46 x6_1 (ji33)).f1) ((rd_T46 x6_1 (ji33)).f2) _ _ ((rd_T46 x6_1 (ji33)).f3) t234 t237 _ ?side1 ?side2 ?side3 ?side4 A36.out).mono ?_); (case side1 => repeat (first | exact (Kd.V_reads' HO_12.out).2.2 | (with_reducible refine Kd.C_alloc ?_ _) | (with_reducible refine Kd.C_drewN ?_ _) | (with_reducible refine Kd.C_drew ?_))); (case side2 => exact (Kd.V_reads' HO_12.out).2.1); (case side3 => repeat (first | exact (by repeat (first | (with_reducible exact HR233_3.out) | (with_reducible refine Kd.C_alloc ?_ _) | (with_reducible refine Kd.C_drewN ?_ _) | (with_reducible refine Kd.C_drew ?_) | exact HR233_3.out)) | (with_reducible refine Kd.C_alloc ?_ _) | (with_reducible refine Kd.C_drewN ?_ _) | (with_reducible refine Kd.C_drew ?_))); (case side4 => exact HC233_3.out); rintro e w40 ⟨v235, rfl, ho0, hb⟩; have n0_ := Aside0.mk (Kd.V_below (kV HO_5.out) hb); have n1_ := Aside0.mk (Kd.N_below (kN HO_6.out) hb); have n2_ := Aside0.mk (Kd.V_below (kV HO_12.out) hb); have n3_ := Aside0.mk (Kd.V_below (kV HL233_3.out) hb); have n4_ := Aside0.mk (Kd.V_lower (Kd.V_mono (ok' := fun k_ => (P0_ k_ ∨ w.heap.size ≤ k_) ∧ some k_ ≠ (.slice (some ad233) x6_1.length co38 : Value).ownBlock) ho0 (fun k_ hk_ => ⟨(.inr (Nat.le_trans (below_size (bw HB.out)) hk_)), (Kd.fresh' (Kd.N_lt (kN HO_6.out)) k_ hk_)⟩)) (below_size (bw HB.out))); have n5_ := Aside0.mk (Kd.C_below (by repeat (first | (with_reducible exact HR233_3.out) | (with_reducible refine Kd.C_alloc ?_ _) | (with_reducible refine Kd.C_drewN ?_ _) | (with_reducible refine Kd.C_drew ?_) | exact HR233_3.out)) hb); have n6_ := Aside0.mk (below_step (bw HB.out) hb); clear HO_5; clear HO_6; clear HO_12; clear HL233_3; clear HR233_3; clear HB; have HO_5 := n0_; have HO_6 := n1_; have HO_12 := n2_; have HL233_3 := n3_; have HO236 := n4_; have HR233_3 := n5_; have HB := n6_; clear n0_ n1_ n2_ n3_ n4_ n5_ n6_; (try clear hb); (try clear hb2); (try clear hk); (try clear hi); (try clear ho0)))
              repeat (go_quiet (first | (go_at_call 16; (with_reducible refine (parts_Put.calls k3 _ _ x12_3 ((rd_T46 x6_1 (ji33)).f0) ((rd_T46 x6_1 (ji33)).f1) ((rd_T46 x6_1 (ji33)).f2) _ _ ((rd_T46 x6_1 (ji33)).f3) t234 t237 _ ?side1 ?side2 ?side3 ?side4 A36.out).mono ?_); (case side1 => repeat (first | exact (Kd.V_reads' HO_12.out).2.2 | (with_reducible refine Kd.C_alloc ?_ _) | (with_reducible refine Kd.C_drewN ?_ _) | (with_reducible refine Kd.C_drew ?_))); (case side2 => exact (Kd.V_reads' HO_12.out).2.1); (case side3 => repeat (first | exact (by repeat (first | (with_reducible exact HR233_3.out) | (with_reducible refine Kd.C_alloc ?_ _) | (with_reducible refine Kd.C_drewN ?_ _) | (with_reducible refine Kd.C_drew ?_) | exact HR233_3.out)) | (with_reducible refine Kd.C_alloc ?_ _) | (with_reducible refine Kd.C_drewN ?_ _) | (with_reducible refine Kd.C_drew ?_))); (case side4 => exact HC233_3.out); rintro e w40 ⟨v235, rfl, ho0, hb⟩; have n0_ := Aside0.mk (Kd.V_below (kV HO_5.out) hb); have n1_ := Aside0.mk (Kd.N_below (kN HO_6.out) hb); have n2_ := Aside0.mk (Kd.V_below (kV HO_12.out) hb); have n3_ := Aside0.mk (Kd.V_below (kV HL233_3.out) hb); have n4_ := Aside0.mk (Kd.V_lower (Kd.V_mono (ok' := fun k_ => (P0_ k_ ∨ w.heap.size ≤ k_) ∧ some k_ ≠ (.slice (some ad233) x6_1.length co38 : Value).ownBlock) ho0 (fun k_ hk_ => ⟨(.inr (Nat.le_trans (below_size (bw HB.out)) hk_)), (Kd.fresh' (Kd.N_lt (kN HO_6.out)) k_ hk_)⟩)) (below_size (bw HB.out))); have n5_ := Aside0.mk (Kd.C_below (by repeat (first | (with_reducible exact HR233_3.out) | (with_reducible refine Kd.C_alloc ?_ _) | (with_reducible refine Kd.C_drewN ?_ _) | (with_reducible refine Kd.C_drew ?_) | exact HR233_3.out)) hb); have n6_ := Aside0.mk (below_step (bw HB.out) hb); clear HO_5; clear HO_6; clear HO_12; clear HL233_3; clear HR233_3; clear HB; have HO_5 := n0_; have HO_6 := n1_; have HO_12 := n2_; have HL233_3 := n3_; have HO236 := n4_; have HR233_3 := n5_; have HB := n6_; clear n0_ n1_ n2_ n3_ n4_ n5_ n6_; (try clear hb); (try clear hb2); (try clear hk); (try clear hi); (try clear ho0); clear A36)); try go_wp2_with (first | (go_at_call 16; (with_reducible refine (parts_Put.calls k3 _ _ x12_3 ((rd_T46 x6_1 (ji33)).f0) ((rd_T46 x6_1 (ji33)).f1) ((rd_T46 x6_1 (ji33)).f2) _ _ ((rd_T46 x6_1 (ji33)).f3) t234 t237 _ ?side1 ?side2 ?side3 ?side4 A36.out).mono ?_); (case side1 => repeat (first | exact (Kd.V_reads' HO_12.out).2.2 | (with_reducible refine Kd.C_alloc ?_ _) | (with_reducible refine Kd.C_drewN ?_ _) | (with_reducible refine Kd.C_drew ?_))); (case side2 => exact (Kd.V_reads' HO_12.out).2.1); (case side3 => repeat (first | exact (by repeat (first | (with_reducible exact HR233_3.out) | (with_reducible refine Kd.C_alloc ?_ _) | (with_reducible refine Kd.C_drewN ?_ _) | (with_reducible refine Kd.C_drew ?_) | exact HR233_3.out)) | (with_reducible refine Kd.C_alloc ?_ _) | (with_reducible refine Kd.C_drewN ?_ _) | (with_reducible refine Kd.C_drew ?_))); (case side4 => exact HC233_3.out); rintro e w40 ⟨v235, rfl, ho0, hb⟩; have n0_ := Aside0.mk (Kd.V_below (kV HO_5.out) hb); have n1_ := Aside0.mk (Kd.N_below (kN HO_6.out) hb); have n2_ := Aside0.mk (Kd.V_below (kV HO_12.out) hb); have n3_ := Aside0.mk (Kd.V_below (kV HL233_3.out) hb); have n4_ := Aside0.mk (Kd.V_lower (Kd.V_mono (ok' := fun k_ => (P0_ k_ ∨ w.heap.size ≤ k_) ∧ some k_ ≠ (.slice (some ad233) x6_1.length co38 : Value).ownBlock) ho0 (fun k_ hk_ => ⟨(.inr (Nat.le_trans (below_size (bw HB.out)) hk_)), (Kd.fresh' (Kd.N_lt (kN HO_6.out)) k_ hk_)⟩)) (below_size (bw HB.out))); have n5_ := Aside0.mk (Kd.C_below (by repeat (first | (with_reducible exact HR233_3.out) | (with_reducible refine Kd.C_alloc ?_ _) | (with_reducible refine Kd.C_drewN ?_ _) | (with_reducible refine Kd.C_drew ?_) | exact HR233_3.out)) hb); have n6_ := Aside0.mk (below_step (bw HB.out) hb); clear HO_5; clear HO_6; clear HO_12; clear HL233_3; clear HR233_3; clear HB; have HO_5 := n0_; have HO_6 := n1_; have HO_12 := n2_; have HL233_3 := n3_; have HO236 := n4_; have HR233_3 := n5_; have HB := n6_; clear n0_ n1_ n2_ n3_ n4_ n5_ n6_; (try clear hb); (try clear hb2); (try clear hk); (try clear hi); (try clear ho0); clear A36)))
              go_roundg k3
              case measure => have := HK1.out; have := HJ5.out; have := HK3.out; omega
              case rel => exact ⟨(t234), (wrap64 (x13_3 + 1)), (by first | rfl | (simp; done) | (simp [*]; done)), H', ⟨by have := HK1.out; have := HJ5.out; have := HK3.out; omega⟩, ⟨kV HO_5.out⟩, ⟨kN HO_6.out⟩, ⟨kV HO236.out⟩, ⟨bw HB.out⟩⟩
             ·
              rw [if_neg c37] at H
              have c37b0 : (t237 == 0) = false := beq_eq_false_iff_ne.mpr c37
              have c37b1 : (t237 != 0) = true := bne_iff_ne.mpr c37
              obtain rfl := Option.some.inj H
              obtain ⟨Ao41, co41, eo41⟩ := Kd.N_slice HO_6.out
              subst eo41
              have p233 : 0 ≤ ((ji33) : Int) := of_decide_eq_true asm
              have q233 : (ji33) < (x6_1.length : Int) := of_decide_eq_true asm
              obtain ⟨ad233, A233_3, c233_3, e233, hx233_0, hx233_1, hx233_2, hx233_3, hl233_3, hi233_3⟩ := at_T46 (Kd.N_reads' HO_6.out).2.2 (ji33) p233 q233
              cases e233
              obtain ⟨ce233, hce233, hMe233, hcc233⟩ := Kd.N_get HO_6.out z46 (ji33) p233 (by first | exact q233 | exact of_decide_eq_true asm | (have e_ := (Kd.N_reads' HO_6.out).1; omega))
              obtain ⟨ua233_3, uc233_3, rfl, ul233_3, ge233_3⟩ := k46_openF hMe233
              have hv233_3 := hcc233 3 _ rfl
              rw [add_field _ _ 3 (by omega)] at hv233_3
              replace hv233_3 := Option.some.inj (hv233_3.symm.trans hx233_3)
              injection hv233_3 with hva_ hvn_ hvc_
              rw [hva_] at ge233_3
              rw [hvc_] at ul233_3
              have HL233_3 := Aside0.mk (show Kd.V k63 63 _ w.heap.size _ _ ((rd_T46 x6_1 (ji33)).f3) from Kd.V_mk ul233_3 ge233_3)
              clear hva_ hvn_ hvc_ ge233_3 ul233_3
              clear hcc233 hce233
              have HR233_3 := Aside0.mk hi233_3
              have HC233_3 := Aside0.mk hl233_3
              clear hi233_3 hl233_3
              replace p233 := eq_true p233
              replace q233 := eq_true q233
              obtain ⟨Ao42, co42, eo42⟩ := Kd.V_slice HO_12.out
              subst eo42
              go_wp2_with (first | (go_at_call 16; (with_reducible refine (parts_Put.calls k3 _ _ x12_3 ((rd_T46 x6_1 (ji33)).f0) ((rd_T46 x6_1 (ji33)).f1) ((rd_T46 x6_1 (ji33)).f2) _ _ ((rd_T46 x6_1 (ji33)).f3) t234 t237 _ ?side1 ?side2 ?side3 ?side4 A36.out).mono ?_); (case side1 => repeat (first | exact (Kd.V_reads' HO_12.out).2.2 | (with_reducible refine Kd.C_alloc ?_ _) | (with_reducible refine Kd.C_drewN ?_ _) | (with_reducible refine Kd.C_drew ?_))); (case side2 => exact (Kd.V_reads' HO_12.out).2.1); (case side3 => repeat (first | exact (by repeat (first | (with_reducible exact HR233_3.out) | (with_reducible refine Kd.C_alloc ?_ _) | (with_reducible refine Kd.C_drewN ?_ _) | (with_reducible refine Kd.C_drew ?_) | exact HR233_3.out)) | (with_reducible refine Kd.C_alloc ?_ _) | (with_reducible refine Kd.C_drewN ?_ _) | (with_reducible refine Kd.C_drew ?_))); (case side4 => exact HC233_3.out); rintro e w43 ⟨v235, rfl, ho0, hb⟩; have n0_ := Aside0.mk (Kd.V_below (kV HO_5.out) hb); have n1_ := Aside0.mk (Kd.N_below (kN HO_6.out) hb); have n2_ := Aside0.mk (Kd.V_below (kV HO_12.out) hb); have n3_ := Aside0.mk (Kd.V_below (kV HL233_3.out) hb); have n4_ := Aside0.mk (Kd.V_lower (Kd.V_mono (ok' := fun k_ => (P0_ k_ ∨ w.heap.size ≤ k_) ∧ some k_ ≠ (.slice (some ad233) x6_1.length co41 : Value).ownBlock) ho0 (fun k_ hk_ => ⟨(.inr (Nat.le_trans (below_size (bw HB.out)) hk_)), (Kd.fresh' (Kd.N_lt (kN HO_6.out)) k_ hk_)⟩)) (below_size (bw HB.out))); have n5_ := Aside0.mk (Kd.C_below (by repeat (first | (with_reducible exact HR233_3.out) | (with_reducible refine Kd.C_alloc ?_ _) | (with_reducible refine Kd.C_drewN ?_ _) | (with_reducible refine Kd.C_drew ?_) | exact HR233_3.out)) hb); have n6_ := Aside0.mk (below_step (bw HB.out) hb); clear HO_5; clear HO_6; clear HO_12; clear HL233_3; clear HR233_3; clear HB; have HO_5 := n0_; have HO_6 := n1_; have HO_12 := n2_; have HL233_3 := n3_; have HO236 := n4_; have HR233_3 := n5_; have HB := n6_; clear n0_ n1_ n2_ n3_ n4_ n5_ n6_; (try clear hb); (try clear hb2); (try clear hk); (try clear hi); (try clear ho0)))
              repeat (go_quiet (first | (go_at_call 16; (with_reducible refine (parts_Put.calls k3 _ _ x12_3 ((rd_T46 x6_1 (ji33)).f0) ((rd_T46 x6_1 (ji33)).f1) ((rd_T46 x6_1 (ji33)).f2) _ _ ((rd_T46 x6_1 (ji33)).f3) t234 t237 _ ?side1 ?side2 ?side3 ?side4 A36.out).mono ?_); (case side1 => repeat (first | exact (Kd.V_reads' HO_12.out).2.2 | (with_reducible refine Kd.C_alloc ?_ _) | (with_reducible refine Kd.C_drewN ?_ _) | (with_reducible refine Kd.C_drew ?_))); (case side2 => exact (Kd.V_reads' HO_12.out).2.1); (case side3 => repeat (first | exact (by repeat (first | (with_reducible exact HR233_3.out) | (with_reducible refine Kd.C_alloc ?_ _) | (with_reducible refine Kd.C_drewN ?_ _) | (with_reducible refine Kd.C_drew ?_) | exact HR233_3.out)) | (with_reducible refine Kd.C_alloc ?_ _) | (with_reducible refine Kd.C_drewN ?_ _) | (with_reducible refine Kd.C_drew ?_))); (case side4 => exact HC233_3.out); rintro e w43 ⟨v235, rfl, ho0, hb⟩; have n0_ := Aside0.mk (Kd.V_below (kV HO_5.out) hb); have n1_ := Aside0.mk (Kd.N_below (kN HO_6.out) hb); have n2_ := Aside0.mk (Kd.V_below (kV HO_12.out) hb); have n3_ := Aside0.mk (Kd.V_below (kV HL233_3.out) hb); have n4_ := Aside0.mk (Kd.V_lower (Kd.V_mono (ok' := fun k_ => (P0_ k_ ∨ w.heap.size ≤ k_) ∧ some k_ ≠ (.slice (some ad233) x6_1.length co41 : Value).ownBlock) ho0 (fun k_ hk_ => ⟨(.inr (Nat.le_trans (below_size (bw HB.out)) hk_)), (Kd.fresh' (Kd.N_lt (kN HO_6.out)) k_ hk_)⟩)) (below_size (bw HB.out))); have n5_ := Aside0.mk (Kd.C_below (by repeat (first | (with_reducible exact HR233_3.out) | (with_reducible refine Kd.C_alloc ?_ _) | (with_reducible refine Kd.C_drewN ?_ _) | (with_reducible refine Kd.C_drew ?_) | exact HR233_3.out)) hb); have n6_ := Aside0.mk (below_step (bw HB.out) hb); clear HO_5; clear HO_6; clear HO_12; clear HL233_3; clear HR233_3; clear HB; have HO_5 := n0_; have HO_6 := n1_; have HO_12 := n2_; have HL233_3 := n3_; have HO236 := n4_; have HR233_3 := n5_; have HB := n6_; clear n0_ n1_ n2_ n3_ n4_ n5_ n6_; (try clear hb); (try clear hb2); (try clear hk); (try clear hi); (try clear ho0); clear A36)); try go_wp2_with (first | (go_at_call 16; (with_reducible refine (parts_Put.calls k3 _ _ x12_3 ((rd_T46 x6_1 (ji33)).f0) ((rd_T46 x6_1 (ji33)).f1) ((rd_T46 x6_1 (ji33)).f2) _ _ ((rd_T46 x6_1 (ji33)).f3) t234 t237 _ ?side1 ?side2 ?side3 ?side4 A36.out).mono ?_); (case side1 => repeat (first | exact (Kd.V_reads' HO_12.out).2.2 | (with_reducible refine Kd.C_alloc ?_ _) | (with_reducible refine Kd.C_drewN ?_ _) | (with_reducible refine Kd.C_drew ?_))); (case side2 => exact (Kd.V_reads' HO_12.out).2.1); (case side3 => repeat (first | exact (by repeat (first | (with_reducible exact HR233_3.out) | (with_reducible refine Kd.C_alloc ?_ _) | (with_reducible refine Kd.C_drewN ?_ _) | (with_reducible refine Kd.C_drew ?_) | exact HR233_3.out)) | (with_reducible refine Kd.C_alloc ?_ _) | (with_reducible refine Kd.C_drewN ?_ _) | (with_reducible refine Kd.C_drew ?_))); (case side4 => exact HC233_3.out); rintro e w43 ⟨v235, rfl, ho0, hb⟩; have n0_ := Aside0.mk (Kd.V_below (kV HO_5.out) hb); have n1_ := Aside0.mk (Kd.N_below (kN HO_6.out) hb); have n2_ := Aside0.mk (Kd.V_below (kV HO_12.out) hb); have n3_ := Aside0.mk (Kd.V_below (kV HL233_3.out) hb); have n4_ := Aside0.mk (Kd.V_lower (Kd.V_mono (ok' := fun k_ => (P0_ k_ ∨ w.heap.size ≤ k_) ∧ some k_ ≠ (.slice (some ad233) x6_1.length co41 : Value).ownBlock) ho0 (fun k_ hk_ => ⟨(.inr (Nat.le_trans (below_size (bw HB.out)) hk_)), (Kd.fresh' (Kd.N_lt (kN HO_6.out)) k_ hk_)⟩)) (below_size (bw HB.out))); have n5_ := Aside0.mk (Kd.C_below (by repeat (first | (with_reducible exact HR233_3.out) | (with_reducible refine Kd.C_alloc ?_ _) | (with_reducible refine Kd.C_drewN ?_ _) | (with_reducible refine Kd.C_drew ?_) | exact HR233_3.out)) hb); have n6_ := Aside0.mk (below_step (bw HB.out) hb); clear HO_5; clear HO_6; clear HO_12; clear HL233_3; clear HR233_3; clear HB; have HO_5 := n0_; have HO_6 := n1_; have HO_12 := n2_; have HL233_3 := n3_; have HO236 := n4_; have HR233_3 := n5_; have HB := n6_; clear n0_ n1_ n2_ n3_ n4_ n5_ n6_; (try clear hb); (try clear hb2); (try clear hk); (try clear hi); (try clear ho0); clear A36)))
              go_ret
              exact ⟨by first | rfl | (simp [errW_none, errW_some] <;> rfl) | (simp only [← hji33]; first | rfl | (simp [errW_none, errW_some] <;> rfl)) | (simp [*, errW_none, errW_some] <;> rfl), by repeat (first | (with_reducible first | exact HB.out | apply below_alloc | apply pw_below_drewN | apply below_drew1) | exact HB.out)⟩
            ·
             rw [if_neg c35] at H
             exact absurd H (by simp)
           ·
            rw [if_neg c34] at H
            exact absurd H (by simp)
         ·
          rw [if_neg c31] at H
          have c31b0 : decide (x13_3 < (x6_1.length : Int)) = false := decide_eq_false c31
          clear c31
          replace H := Option.bind_eq_some_iff.mp H
          obtain ⟨t238, A440, H⟩ := H
          replace H : ((stowagelaw14_Refs.f k3 x12_3).bind fun t241 => ((stowageref14_Same.f k3 t238 t241).bind fun t244 => (some t244))) = some r := H
          have A44 := Aside0.mk A440
          clear A440
          replace H := Option.bind_eq_some_iff.mp H
          obtain ⟨t241, A450, H⟩ := H
          replace H : ((stowageref14_Same.f k3 t238 t241).bind fun t244 => (some t244)) = some r := H
          have A45 := Aside0.mk A450
          clear A450
          replace H := Option.bind_eq_some_iff.mp H
          obtain ⟨t244, A460, H⟩ := H
          replace H : (some t244) = some r := H
          have A46 := Aside0.mk A460
          clear A460
          obtain rfl := Option.some.inj H
          obtain ⟨Ao47, co47, eo47⟩ := Kd.N_slice HO_6.out
          subst eo47
          obtain ⟨Ao48, co48, eo48⟩ := Kd.V_slice HO_5.out
          subst eo48
          go_wp2_with (first | (go_at_call 11; (with_reducible refine (stowagelaw14_Refs.calls k3 _ _ x5_1 t238 _ ?side1 ?side2 A44.out).mono ?_); (case side1 => repeat (first | exact (Kd.V_reads' HO_5.out).2.2 | (with_reducible refine Kd.C_alloc ?_ _) | (with_reducible refine Kd.C_drewN ?_ _) | (with_reducible refine Kd.C_drew ?_))); (case side2 => exact (Kd.V_reads' HO_5.out).2.1); rintro e w49 ⟨v239, rfl, ho0, hb⟩; have n0_ := Aside0.mk (Kd.V_elder' (kV HO_5.out) (Kd.S_base ho0) hb); have n1_ := Aside0.mk (Kd.N_elder' (kN HO_6.out) (Kd.S_base ho0) hb); have n2_ := Aside0.mk (Kd.V_elder' (kV HO_12.out) (Kd.S_base ho0) hb); have n3_ := Aside0.mk (Kd.N_lower (Kd.N_mono (ok' := fun k_ => (P0_ k_ ∨ w.heap.size ≤ k_) ∧ some k_ ≠ (.slice Ao47 x6_1.length co47 : Value).ownBlock) (Kd.S_N (Kd.S_bound ho0)) (fun k_ hk_ => ⟨(.inr (Nat.le_trans (below_size (bw HB.out)) hk_.2.1)), (Kd.fresh' (Kd.N_lt (kN HO_6.out)) k_ hk_.2.1)⟩)) (below_size (bw HB.out))); have n4_ := Aside0.mk (below_step (bw HB.out) hb); clear HO_5; clear HO_6; clear HO_12; clear HB; have HO_5 := n0_; have HO_6 := n1_; have HO_12 := n2_; have HO240 := n3_; have HB := n4_; clear n0_ n1_ n2_ n3_ n4_; (try clear hb); (try clear hb2); (try clear hk); (try clear hi); (try clear ho0); obtain ⟨Ao50, co50, eo50⟩ := Kd.V_slice HO_12.out; subst eo50; clear A44) | (go_at_call 11; (with_reducible refine (stowagelaw14_Refs.calls k3 _ _ x12_3 t241 _ ?side1 ?side2 A45.out).mono ?_); (case side1 => repeat (first | exact (Kd.V_reads' HO_12.out).2.2 | (with_reducible refine Kd.C_alloc ?_ _) | (with_reducible refine Kd.C_drewN ?_ _) | (with_reducible refine Kd.C_drew ?_))); (case side2 => exact (Kd.V_reads' HO_12.out).2.1); rintro e w51 ⟨v242, rfl, ho0, hb⟩; have n0_ := Aside0.mk (Kd.V_elder' (kV HO_5.out) (Kd.S_base ho0) hb); have n1_ := Aside0.mk (Kd.N_elder' (kN HO_6.out) (Kd.S_base ho0) hb); have n2_ := Aside0.mk (Kd.V_elder' (kV HO_12.out) (Kd.S_base ho0) hb); have n3_ := Aside0.mk (Kd.N_elder' (kN HO240.out) (Kd.S_base ho0) hb); have n4_ := Aside0.mk (Kd.N_lower (Kd.N_mono (ok' := fun k_ => (P0_ k_ ∨ w.heap.size ≤ k_) ∧ some k_ ≠ (.slice Ao47 x6_1.length co47 : Value).ownBlock ∧ some k_ ≠ (v239 : Value).ownBlock) (Kd.S_N (Kd.S_bound ho0)) (fun k_ hk_ => ⟨(.inr (Nat.le_trans (below_size (bw HB.out)) hk_.2.1)), (Kd.fresh' (Kd.N_lt (kN HO_6.out)) k_ hk_.2.1), (Kd.fresh' (Kd.N_lt (kN HO240.out)) k_ hk_.2.1)⟩)) (below_size (bw HB.out))); have n5_ := Aside0.mk (below_step (bw HB.out) hb); clear HO_5; clear HO_6; clear HO_12; clear HO240; clear HB; have HO_5 := n0_; have HO_6 := n1_; have HO_12 := n2_; have HO240 := n3_; have HO243 := n4_; have HB := n5_; clear n0_ n1_ n2_ n3_ n4_ n5_; (try clear hb); (try clear hb2); (try clear hk); (try clear hi); (try clear ho0); obtain ⟨Ao52, co52, eo52⟩ := Kd.N_slice HO240.out; subst eo52; obtain ⟨Ao53, co53, eo53⟩ := Kd.N_slice HO243.out; subst eo53; clear A45) | (go_at_call 17; (with_reducible refine (stowageref14_Same.calls k3 _ _ t238 _ _ t241 t244 _ ?side1 ?side2 ?side3 ?side4 A46.out).mono ?_); (case side1 => repeat (first | exact (Kd.N_reads' HO240.out).2.2 | (with_reducible refine Kd.C_alloc ?_ _) | (with_reducible refine Kd.C_drewN ?_ _) | (with_reducible refine Kd.C_drew ?_))); (case side2 => exact (Kd.N_reads' HO240.out).2.1); (case side3 => repeat (first | exact (Kd.N_reads' HO243.out).2.2 | (with_reducible refine Kd.C_alloc ?_ _) | (with_reducible refine Kd.C_drewN ?_ _) | (with_reducible refine Kd.C_drew ?_))); (case side4 => exact (Kd.N_reads' HO243.out).2.1); rintro e w54 ⟨rfl, hb⟩; replace HO_5 := Aside0.mk (Kd.V_below (kV HO_5.out) hb); replace HO_6 := Aside0.mk (Kd.N_below (kN HO_6.out) hb); replace HO_12 := Aside0.mk (Kd.V_below (kV HO_12.out) hb); replace HO240 := Aside0.mk (Kd.N_below (kN HO240.out) hb); replace HO243 := Aside0.mk (Kd.N_below (kN HO243.out) hb); replace HB := Aside0.mk (below_step (bw HB.out) hb); (try clear hb); (try clear hb2); (try clear hk); (try clear hi)))
          repeat (go_quiet (first | (go_at_call 11; (with_reducible refine (stowagelaw14_Refs.calls k3 _ _ x5_1 t238 _ ?side1 ?side2 A44.out).mono ?_); (case side1 => repeat (first | exact (Kd.V_reads' HO_5.out).2.2 | (with_reducible refine Kd.C_alloc ?_ _) | (with_reducible refine Kd.C_drewN ?_ _) | (with_reducible refine Kd.C_drew ?_))); (case side2 => exact (Kd.V_reads' HO_5.out).2.1); rintro e w49 ⟨v239, rfl, ho0, hb⟩; have n0_ := Aside0.mk (Kd.V_elder' (kV HO_5.out) (Kd.S_base ho0) hb); have n1_ := Aside0.mk (Kd.N_elder' (kN HO_6.out) (Kd.S_base ho0) hb); have n2_ := Aside0.mk (Kd.V_elder' (kV HO_12.out) (Kd.S_base ho0) hb); have n3_ := Aside0.mk (Kd.N_lower (Kd.N_mono (ok' := fun k_ => (P0_ k_ ∨ w.heap.size ≤ k_) ∧ some k_ ≠ (.slice Ao47 x6_1.length co47 : Value).ownBlock) (Kd.S_N (Kd.S_bound ho0)) (fun k_ hk_ => ⟨(.inr (Nat.le_trans (below_size (bw HB.out)) hk_.2.1)), (Kd.fresh' (Kd.N_lt (kN HO_6.out)) k_ hk_.2.1)⟩)) (below_size (bw HB.out))); have n4_ := Aside0.mk (below_step (bw HB.out) hb); clear HO_5; clear HO_6; clear HO_12; clear HB; have HO_5 := n0_; have HO_6 := n1_; have HO_12 := n2_; have HO240 := n3_; have HB := n4_; clear n0_ n1_ n2_ n3_ n4_; (try clear hb); (try clear hb2); (try clear hk); (try clear hi); (try clear ho0); obtain ⟨Ao50, co50, eo50⟩ := Kd.V_slice HO_12.out; subst eo50; clear A44) | (go_at_call 11; (with_reducible refine (stowagelaw14_Refs.calls k3 _ _ x12_3 t241 _ ?side1 ?side2 A45.out).mono ?_); (case side1 => repeat (first | exact (Kd.V_reads' HO_12.out).2.2 | (with_reducible refine Kd.C_alloc ?_ _) | (with_reducible refine Kd.C_drewN ?_ _) | (with_reducible refine Kd.C_drew ?_))); (case side2 => exact (Kd.V_reads' HO_12.out).2.1); rintro e w51 ⟨v242, rfl, ho0, hb⟩; have n0_ := Aside0.mk (Kd.V_elder' (kV HO_5.out) (Kd.S_base ho0) hb); have n1_ := Aside0.mk (Kd.N_elder' (kN HO_6.out) (Kd.S_base ho0) hb); have n2_ := Aside0.mk (Kd.V_elder' (kV HO_12.out) (Kd.S_base ho0) hb); have n3_ := Aside0.mk (Kd.N_elder' (kN HO240.out) (Kd.S_base ho0) hb); have n4_ := Aside0.mk (Kd.N_lower (Kd.N_mono (ok' := fun k_ => (P0_ k_ ∨ w.heap.size ≤ k_) ∧ some k_ ≠ (.slice Ao47 x6_1.length co47 : Value).ownBlock ∧ some k_ ≠ (v239 : Value).ownBlock) (Kd.S_N (Kd.S_bound ho0)) (fun k_ hk_ => ⟨(.inr (Nat.le_trans (below_size (bw HB.out)) hk_.2.1)), (Kd.fresh' (Kd.N_lt (kN HO_6.out)) k_ hk_.2.1), (Kd.fresh' (Kd.N_lt (kN HO240.out)) k_ hk_.2.1)⟩)) (below_size (bw HB.out))); have n5_ := Aside0.mk (below_step (bw HB.out) hb); clear HO_5; clear HO_6; clear HO_12; clear HO240; clear HB; have HO_5 := n0_; have HO_6 := n1_; have HO_12 := n2_; have HO240 := n3_; have HO243 := n4_; have HB := n5_; clear n0_ n1_ n2_ n3_ n4_ n5_; (try clear hb); (try clear hb2); (try clear hk); (try clear hi); (try clear ho0); obtain ⟨Ao52, co52, eo52⟩ := Kd.N_slice HO240.out; subst eo52; obtain ⟨Ao53, co53, eo53⟩ := Kd.N_slice HO243.out; subst eo53; clear A45) | (go_at_call 17; (with_reducible refine (stowageref14_Same.calls k3 _ _ t238 _ _ t241 t244 _ ?side1 ?side2 ?side3 ?side4 A46.out).mono ?_); (case side1 => repeat (first | exact (Kd.N_reads' HO240.out).2.2 | (with_reducible refine Kd.C_alloc ?_ _) | (with_reducible refine Kd.C_drewN ?_ _) | (with_reducible refine Kd.C_drew ?_))); (case side2 => exact (Kd.N_reads' HO240.out).2.1); (case side3 => repeat (first | exact (Kd.N_reads' HO243.out).2.2 | (with_reducible refine Kd.C_alloc ?_ _) | (with_reducible refine Kd.C_drewN ?_ _) | (with_reducible refine Kd.C_drew ?_))); (case side4 => exact (Kd.N_reads' HO243.out).2.1); rintro e w54 ⟨rfl, hb⟩; replace HO_5 := Aside0.mk (Kd.V_below (kV HO_5.out) hb); replace HO_6 := Aside0.mk (Kd.N_below (kN HO_6.out) hb); replace HO_12 := Aside0.mk (Kd.V_below (kV HO_12.out) hb); replace HO240 := Aside0.mk (Kd.N_below (kN HO240.out) hb); replace HO243 := Aside0.mk (Kd.N_below (kN HO243.out) hb); replace HB := Aside0.mk (below_step (bw HB.out) hb); (try clear hb); (try clear hb2); (try clear hk); (try clear hi); clear A46)); try go_wp2_with (first | (go_at_call 11; (with_reducible refine (stowagelaw14_Refs.calls k3 _ _ x5_1 t238 _ ?side1 ?side2 A44.out).mono ?_); (case side1 => repeat (first | exact (Kd.V_reads' HO_5.out).2.2 | (with_reducible refine Kd.C_alloc ?_ _) | (with_reducible refine Kd.C_drewN ?_ _) | (with_reducible refine Kd.C_drew ?_))); (case side2 => exact (Kd.V_reads' HO_5.out).2.1); rintro e w49 ⟨v239, rfl, ho0, hb⟩; have n0_ := Aside0.mk (Kd.V_elder' (kV HO_5.out) (Kd.S_base ho0) hb); have n1_ := Aside0.mk (Kd.N_elder' (kN HO_6.out) (Kd.S_base ho0) hb); have n2_ := Aside0.mk (Kd.V_elder' (kV HO_12.out) (Kd.S_base ho0) hb); have n3_ := Aside0.mk (Kd.N_lower (Kd.N_mono (ok' := fun k_ => (P0_ k_ ∨ w.heap.size ≤ k_) ∧ some k_ ≠ (.slice Ao47 x6_1.length co47 : Value).ownBlock) (Kd.S_N (Kd.S_bound ho0)) (fun k_ hk_ => ⟨(.inr (Nat.le_trans (below_size (bw HB.out)) hk_.2.1)), (Kd.fresh' (Kd.N_lt (kN HO_6.out)) k_ hk_.2.1)⟩)) (below_size (bw HB.out))); have n4_ := Aside0.mk (below_step (bw HB.out) hb); clear HO_5; clear HO_6; clear HO_12; clear HB; have HO_5 := n0_; have HO_6 := n1_; have HO_12 := n2_; have HO240 := n3_; have HB := n4_; clear n0_ n1_ n2_ n3_ n4_; (try clear hb); (try clear hb2); (try clear hk); (try clear hi); (try clear ho0); obtain ⟨Ao50, co50, eo50⟩ := Kd.V_slice HO_12.out; subst eo50; clear A44) | (go_at_call 11; (with_reducible refine (stowagelaw14_Refs.calls k3 _ _ x12_3 t241 _ ?side1 ?side2 A45.out).mono ?_); (case side1 => repeat (first | exact (Kd.V_reads' HO_12.out).2.2 | (with_reducible refine Kd.C_alloc ?_ _) | (with_reducible refine Kd.C_drewN ?_ _) | (with_reducible refine Kd.C_drew ?_))); (case side2 => exact (Kd.V_reads' HO_12.out).2.1); rintro e w51 ⟨v242, rfl, ho0, hb⟩; have n0_ := Aside0.mk (Kd.V_elder' (kV HO_5.out) (Kd.S_base ho0) hb); have n1_ := Aside0.mk (Kd.N_elder' (kN HO_6.out) (Kd.S_base ho0) hb); have n2_ := Aside0.mk (Kd.V_elder' (kV HO_12.out) (Kd.S_base ho0) hb); have n3_ := Aside0.mk (Kd.N_elder' (kN HO240.out) (Kd.S_base ho0) hb); have n4_ := Aside0.mk (Kd.N_lower (Kd.N_mono (ok' := fun k_ => (P0_ k_ ∨ w.heap.size ≤ k_) ∧ some k_ ≠ (.slice Ao47 x6_1.length co47 : Value).ownBlock ∧ some k_ ≠ (v239 : Value).ownBlock) (Kd.S_N (Kd.S_bound ho0)) (fun k_ hk_ => ⟨(.inr (Nat.le_trans (below_size (bw HB.out)) hk_.2.1)), (Kd.fresh' (Kd.N_lt (kN HO_6.out)) k_ hk_.2.1), (Kd.fresh' (Kd.N_lt (kN HO240.out)) k_ hk_.2.1)⟩)) (below_size (bw HB.out))); have n5_ := Aside0.mk (below_step (bw HB.out) hb); clear HO_5; clear HO_6; clear HO_12; clear HO240; clear HB; have HO_5 := n0_; have HO_6 := n1_; have HO_12 := n2_; have HO240 := n3_; have HO243 := n4_; have HB := n5_; clear n0_ n1_ n2_ n3_ n4_ n5_; (try clear hb); (try clear hb2); (try clear hk); (try clear hi); (try clear ho0); obtain ⟨Ao52, co52, eo52⟩ := Kd.N_slice HO240.out; subst eo52; obtain ⟨Ao53, co53, eo53⟩ := Kd.N_slice HO243.out; subst eo53; clear A45) | (go_at_call 17; (with_reducible refine (stowageref14_Same.calls k3 _ _ t238 _ _ t241 t244 _ ?side1 ?side2 ?side3 ?side4 A46.out).mono ?_); (case side1 => repeat (first | exact (Kd.N_reads' HO240.out).2.2 | (with_reducible refine Kd.C_alloc ?_ _) | (with_reducible refine Kd.C_drewN ?_ _) | (with_reducible refine Kd.C_drew ?_))); (case side2 => exact (Kd.N_reads' HO240.out).2.1); (case side3 => repeat (first | exact (Kd.N_reads' HO243.out).2.2 | (with_reducible refine Kd.C_alloc ?_ _) | (with_reducible refine Kd.C_drewN ?_ _) | (with_reducible refine Kd.C_drew ?_))); (case side4 => exact (Kd.N_reads' HO243.out).2.1); rintro e w54 ⟨rfl, hb⟩; replace HO_5 := Aside0.mk (Kd.V_below (kV HO_5.out) hb); replace HO_6 := Aside0.mk (Kd.N_below (kN HO_6.out) hb); replace HO_12 := Aside0.mk (Kd.V_below (kV HO_12.out) hb); replace HO240 := Aside0.mk (Kd.N_below (kN HO240.out) hb); replace HO243 := Aside0.mk (Kd.N_below (kN HO243.out) hb); replace HB := Aside0.mk (below_step (bw HB.out) hb); (try clear hb); (try clear hb2); (try clear hk); (try clear hi); clear A46)))
          go_ret
          exact ⟨by first | rfl | (simp [errW_none, errW_some] <;> rfl) | (simp [*, errW_none, errW_some] <;> rfl), by repeat (first | (with_reducible first | exact HB.out | apply below_alloc | apply pw_below_drewN | apply below_drew1) | exact HB.out)⟩
 ·
  replace c4 := Bool.eq_false_iff.mpr c4
  subst c4
  have H1 : (some false) = some r := by rw [if_neg (show ¬ (false = true) by decide)] at H; exact H
  clear H
  have H := H1
  clear H1
  obtain rfl := Option.some.inj H
  go_enter Tryd.func4, Tryd.ntmps4
  go_wp2_with (first | (go_at_call 13; (with_reducible refine (stowagelaw14_awake.calls k  false _ A3.out ?sideG).mono ?_); (case sideG => first | exact HG.out | exact gg_below HG.out (bw HB.out)); rintro e w55 ⟨rfl, hb⟩; replace HO0 := Aside0.mk (Kd.V_below (kV HO0.out) hb); replace HB := Aside0.mk (below_step (bw HB.out) hb); (try clear hb); (try clear hb2); (try clear hk); (try clear hi)))
  repeat (go_quiet (first | (go_at_call 13; (with_reducible refine (stowagelaw14_awake.calls k  false _ A3.out ?sideG).mono ?_); (case sideG => first | exact HG.out | exact gg_below HG.out (bw HB.out)); rintro e w55 ⟨rfl, hb⟩; replace HO0 := Aside0.mk (Kd.V_below (kV HO0.out) hb); replace HB := Aside0.mk (below_step (bw HB.out) hb); (try clear hb); (try clear hb2); (try clear hk); (try clear hi))); try go_wp2_with (first | (go_at_call 13; (with_reducible refine (stowagelaw14_awake.calls k  false _ A3.out ?sideG).mono ?_); (case sideG => first | exact HG.out | exact gg_below HG.out (bw HB.out)); rintro e w55 ⟨rfl, hb⟩; replace HO0 := Aside0.mk (Kd.V_below (kV HO0.out) hb); replace HB := Aside0.mk (below_step (bw HB.out) hb); (try clear hb); (try clear hb2); (try clear hk); (try clear hi))))
  go_ret
  exact ⟨by first | rfl | (simp [errW_none, errW_some] <;> rfl) | (simp [*, errW_none, errW_some] <;> rfl), by repeat (first | (with_reducible first | exact HB.out | apply below_alloc | apply pw_below_drewN | apply below_drew1) | exact HB.out)⟩

end Go.Proofs.YtoiockmmlanimaaDoor.Oo
end
section
/- PartsOrder, second form: the order in which parts come does not matter, but the last one of each number counts. Its conditions: those of the given card. -/
namespace Go.Proofs.YtoiockmmlanimaaDoor.partsOrder
open Go.ChangeShapes Go.WideShapes Go.ChangeAt Go.RowKit Go.Proofs.YtoiockmmlanimaaDoor.Oo Go.Proofs.YtoiockmmlanimaaDoorW.PrintWords
open Go.ChangeMaps (open_string shut_string)
set_option linter.unusedVariables false
set_option linter.unusedSimpArgs false
theorem own : ownKnob Tryd.prog.godebug = none := by kernel_rfl
theorem laidOut : laidOutB Tryd.prog = true := by kernel_rfl
set_option maxRecDepth 100000 in
/-- What the walk gives, for every argument and every world: the same for both forms. -/
theorem contract (H : Type) (enc : TypeId × Value → H) (W : World) (base : Nat) (args : Array Value) (ds gs : List (DataW H)) (before : List MemPlace)
    (hval : ∀ (j : Nat) t v, Tryd.f4.params[j]? = some t → args[j]? = some v → Value.okWide Tryd.prog W .any base t v)
    (hW : DataW.Whole enc Tryd.prog Tryd.f4.params.toList Rows.partsOrderSpec.vars false W args.toList ds gs before)
    (hsz : (DataW.weightsEach Tryd.prog (Tryd.f4.params.toList ++ (OpenSpec.ofChange Rows.partsOrderSpec).bare.plain.varTypes Tryd.prog) (ds ++ gs)).all (· ≤ reachBytes) = true) (hcond : ∀ k, (Rows.OpenSpec.upto Rows.partsOrderSpec).cond = some k → k H (ds ++ gs) = true) (hG : GG W) :
    Calls Tryd.prog 4 args W fun e W' => ∃ v, e = .returned v ∧ Rows.partsOrderSpec.post enc Tryd.prog Tryd.f4 false true false false W args v W' := by
  have hW' := hW
  obtain ⟨p, q, hA0, hV, rfl, hfz, hnd⟩ := hW
  have hA : DataW.TrodAll enc Tryd.prog W 0 (fun _ => true) true Tryd.f4.params.toList args.toList ds p := hA0
  rw [Tryd.params4] at hA hval hsz
  obtain ⟨v0, vs0, d0, ds0, p0, q0, hargs, rfl, rfl, h0, r0⟩ := trodAll_cons hA
  obtain ⟨v1, vs1, d1, ds1, p1, q1, rfl, rfl, rfl, h1, r1⟩ := trodAll_cons r0
  obtain ⟨rfl, rfl, rfl⟩ := trodAll_nil r1
  obtain rfl : args = #[v0, v1] := by cases args; simp_all
  obtain ⟨rfl, rfl⟩ := trodVars_none hV
  obtain ⟨A0, len0, cap0, rfl⟩ := okWide_slice Tryd.underlying22 (hval 0 22 v0 rfl rfl)
  have k0 := h0
  have lt0 : ∀ x ∈ p0, x.block < W.heap.size := by obtain ⟨m, hm⟩ := k0; exact DataW.trod_lt m _ _ _ hm
  obtain ⟨fuel0, hf0⟩ := h0
  obtain ⟨l0, hK0, wt0, bk0⟩ := (KO.opensParts).out enc W _ _ _ fuel0 _ _ hf0
  obtain ⟨B0, c0, he0, hcap0, hr0⟩ := hK0
  simp only [Value.cells, List.cons.injEq, and_true] at he0
  injection he0 with e1 e2 e3
  subst e1 e2 e3
  obtain ⟨a1, rfl, rfl, rfl, y1⟩ := open_int Tryd.underlying3 (hval 1 3 v1 rfl rfl) h1
  have hup := hcond _ rfl
  simp only [Rows.uptoSmall, decide_eq_true_eq, List.cons_append, List.nil_append, Rows.uptoBulkAll, Rows.uptoBulk] at hup
  have hb0 : (l0.map fun y : Pure.Part => (1 + (1 + ((y.f2.size + 1) + ((y.f3.map fun z => ((z.f0.size + 1) + 1) + 1).sum + 1)))) + 1).sum + 1 ≤ Rows.uptoBulk d0 := bk0
  have hs0 := KO.small_parts l0 hb0 (by omega)
  obtain ⟨k, hk⟩ := Pure.PartsOrder_true l0 a1 hs0
  refine (stowagelaw14_PartsOrder.calls k (fun _ => True) _ _ l0 a1 true W (KO.V_top hr0 hcap0) hk hG).mono fun e W' ⟨he, bel⟩ => ?_
  subst he
  exact ⟨_, rfl, _, _, _, [], _, [], hW', trodAll_mk1 (shut_bool Tryd.underlying4 _), (trodAll_cons_mk (Below.trod laidOut (by kernel_rfl) (of_decide_eq_true (by kernel_rfl)) k0 bel lt0) (trodAll_cons_mk (shut_int Tryd.underlying3 y1) trodAll_mk0)), rfl, bel.frame _, fun h => by cases h⟩
/-- The cells of a datum without pointers. -/
def flat : DataW Unit → List Value
  | .lit (.int k n) => [.int k n]
  | .agg xs => flats xs
  | _ => []
where flats : List (DataW Unit) → List Value
  | [] => []
  | x :: xs => flat x ++ flats xs
def put (cs : List Value) : Obj → Obj
  | .cells _ t z => .cells cs.toArray t z
  | ob => ob
/-- A world for the witness: the listed tables hold what their text lays. -/
noncomputable def laidWorld (os : Os) : World :=
  { World.holding Tryd.prog os ⟨#[], #[], []⟩ with heap := Rows.partsOrderUptoRow.laid.foldl (fun h x => match Tryd.prog.globalNamed x.1 with | some g => h.modify g (put (flat x.2)) | none => h) (World.holding Tryd.prog os ⟨#[], #[], []⟩).heap }
theorem laid_met (os : Os) : laidMet Tryd.prog Rows.partsOrderUptoRow.laid ((laidWorld os).forCall (fun _ _ => 0) ⟨#[], #[.slice none 0 0, .int .i64 0], []⟩).memory :=
  laidMet_of_run3 8 (by kernel_rfl) (by kernel_rfl) (by kernel_rfl)
theorem reads (os : Os) {H : Type} (enc : TypeId × Value → H) : ∃ places, DataW.whole enc Tryd.prog ((laidWorld os).forCall (fun _ _ => 0) ⟨#[], #[.slice none 0 0, .int .i64 0], []⟩).memory Tryd.f4.params.toList Rows.partsOrderSpec.vars false (#[.slice none 0 0, .int .i64 0] : Array Value).toList 8 = some ([.nil, .lit (.int .i64 0)], [], places) :=
  ⟨[], by kernel_rfl⟩
set_option maxRecDepth 100000 in
theorem lifted (os : Os) (started : os.Started) (H : Type) (enc : TypeId × Value → H) (F : Stop.Interp) :
    ReturnsInHanded {} Tryd.checked os 4 .any ((Rows.OpenSpec.upto Rows.partsOrderSpec).preRow enc Tryd.prog Tryd.f4 Rows.partsOrderUptoRow.domain false Rows.partsOrderUptoRow.laid) (((Rows.OpenSpec.upto Rows.partsOrderSpec).at F).post enc Tryd.prog Tryd.f4 false true false false) := by
  obtain ⟨places, hx⟩ := reads os enc
  refine returnsInHanded_of_row (C := Tryd.checked) (s := (Rows.OpenSpec.upto Rows.partsOrderSpec)) own started (by kernel_rfl) Tryd.func4
    (witness_row_at (enc := enc) (C := Tryd.checked) false (laidWorld os) #[.slice none 0 0, .int .i64 0] rfl (by kernel_rfl) (by kernel_rfl) (by kernel_rfl)
      (OpenSpec.preRow_of_cond 8 hx (by kernel_rfl) (fun k hk => by cases hk; kernel_rfl) (by kernel_rfl) (laid_met os))) ?_
  intro W base args ds gs before hval hW _ hcond hsz hlaid hsh _
  exact contract H enc W base args ds gs before hval hW hsz hcond (KO.gg_of_laid hlaid)
theorem said : Rows.PartsOrderUptoSaid :=
  OpenClaim.holds_of_cond 4 Tryd.f4 rfl rfl rfl rfl rfl rfl rfl ⟨rfl, rfl, rfl, rfl, rfl⟩ rfl rfl rfl rfl rfl (by kernel_rfl) Tryd.func4 (by kernel_rfl)
    (of_decide_eq_true (by kernel_rfl)) (by unfold Func.isWrapper; first | (rw [if_pos (by decide +kernel)]; kernel_rfl) | (rw [if_neg (by decide +kernel)]; exact ⟨rfl, rfl⟩))
    (fun os started H enc _ F => by rw [OpenClaim.pre_eq_preRow]; exact lifted os started H enc F)
/-- No parameter wants a stand-in; the program's own looks are off: what the card asks. -/
theorem plain (f : FuncId) (fn : Func) (hf : Tryd.pinned.checked.prog.funcNamed "stowage/stowagelaw14.PartsOrder" = some f) (hfn : Tryd.pinned.checked.prog.funcs[f]? = some fn) :
    false = Tryd.pinned.checked.prog.looks [] ∧ ∀ (j : Nat) t, fn.params[j]? = some t → Tryd.pinned.checked.prog.wantsStandIn t = false := by
  obtain rfl : f = 4 := Option.some.inj ((show Tryd.prog.funcNamed "stowage/stowagelaw14.PartsOrder" = some 4 by kernel_rfl).symm.trans hf) |>.symm
  obtain rfl : fn = Tryd.f4 := (Option.some.inj (Tryd.func4.symm.trans hfn)).symm
  refine ⟨by kernel_rfl, fun j t ht => ?_⟩
  rw [Tryd.params4] at ht
  have hm := Array.mem_of_getElem? ht
  simp only [List.mem_toArray, List.mem_cons, List.not_mem_nil, or_false] at hm
  rcases hm with rfl | rfl
  · exact (show Tryd.prog.wantsStandIn 22 = false by kernel_rfl)
  · exact (show Tryd.prog.wantsStandIn 3 = false by kernel_rfl)
/-- The card. -/
theorem card : Rows.PartsOrderUptoCardSaid :=
  Claim7.holds_tied_plain_at .later [] _ _ _ _ said (fun _ h => by cases h) (by kernel_rfl) (fun _ h => by cases h) partsOrderUpto_row_tie rfl ⟨rfl, rfl⟩ (by kernel_rfl) rfl plain (by kernel_rfl)
end Go.Proofs.YtoiockmmlanimaaDoor.partsOrder
namespace Go.Proofs.YtoiockmmlanimaaDoor
theorem partsOrder_cardUpto : Rows.PartsOrderUptoCardSaid := partsOrder.card
end Go.Proofs.YtoiockmmlanimaaDoor
end
