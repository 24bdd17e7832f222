/- Merged of several texts of this session's by merge.py. -/
import Derived.Test.YtoiockmmlanimaaDoorMp3
import Derived.Test.YtoiockmmlanimaaDoorMp5
import Derived.Test.YtoiockmmlanimaaDoorMp4
import Derived.KernelRfl
import Derived.ProofKit
import Derived.LaidMore
import Derived.OpenShut
import Derived.Test.YtoiockmmlanimaaDoorRows
import Derived.Test.YtoiockmmlanimaaDoorCards
import Derived.Test.YtoiockmmlanimaaDoorTie
import Derived.WalkKit
import Derived.Below
import Derived.Carry
import Derived.Deep.DeepHandedRow
import Derived.Deep.DeepLaidRun
import Derived.Test.YtoiockmmlanimaaDoorMp2
import Derived.HandedShaped
section
namespace Go.Proofs.YtoiockmmlanimaaDoor.Op
open Go.RowKit Go.Proofs.YtoiockmmlanimaaDoorW.PrintWords Go.Proofs.YtoiockmmlanimaaDoorW.PrintLast Go.Proofs.YtoiockmmlanimaaDoorW.PrintMore
attribute [local go_sem] max2_int min2_int max_two min_two max_three min_three max_four min_four
set_option linter.unusedVariables false
set_option linter.unusedSimpArgs false
mutual
def stowageref14_Put.j0 : Nat → List (S52) → Bool → Int → Int → ByteArray → List (S85) → Option ((List (S52)) × Int)
 | 0, _, _, _, _, _, _ => none
 | k + 1, x0, x16, x236000, x236001, x236002, x236003 => if x16 = true then (some (([] : List (S52)), 1)) else (stowageref14_Put.l0 k x0 ([] : List (S52)) 0 x236000 x236001 x236002 x236003)
def stowageref14_Put.j2 : Nat → List (S52) → List (S52) → Int → Int → ByteArray → List (S85) → Option ((List (S52)) × Int)
 | 0, _, _, _, _, _, _ => none
 | k + 1, x0, x6, x236000, x236001, x236002, x236003 => if x6.length < 2513169434916 then (stowageref14_Put.l1 k x0 (x6 ++ [(⟨x236000, x236001, x236002, x236003⟩ : S52)]) 0 x236000 x236001 x236002 x236003) else (none)
def stowageref14_Put.l1 : Nat → List (S52) → List (S52) → Int → Int → Int → ByteArray → List (S85) → Option ((List (S52)) × Int)
 | 0, _, _, _, _, _, _, _ => none
 | k + 1, x0, x6, x8, x236000, x236001, x236002, x236003 => if x8 < (x0.length : Int) then (if 0 ≤ x8 then (if ((rd_T52 x0 x8).f0) > x236000 then (if x6.length < 2513169434916 then (stowageref14_Put.l1 k x0 (x6 ++ [(⟨(rd_T52 x0 x8).f0, (rd_T52 x0 x8).f1, (rd_T52 x0 x8).f2, (rd_T52 x0 x8).f3⟩ : S52)]) (wrap64 (x8 + 1)) x236000 x236001 x236002 x236003) else (none)) else (stowageref14_Put.l1 k x0 x6 (wrap64 (x8 + 1)) x236000 x236001 x236002 x236003)) else (none)) else (some (x6, 0))
def stowageref14_Put.l0 : Nat → List (S52) → List (S52) → Int → Int → Int → ByteArray → List (S85) → Option ((List (S52)) × Int)
 | 0, _, _, _, _, _, _, _ => none
 | k + 1, x0, x6, x7, x236000, x236001, x236002, x236003 => if x7 < (x0.length : Int) then (if 0 ≤ x7 then (if ((rd_T52 x0 x7).f0) < x236000 then (if x6.length < 2513169434916 then (stowageref14_Put.l0 k x0 (x6 ++ [(⟨(rd_T52 x0 x7).f0, (rd_T52 x0 x7).f1, (rd_T52 x0 x7).f2, (rd_T52 x0 x7).f3⟩ : S52)]) (wrap64 (x7 + 1)) x236000 x236001 x236002 x236003) else (none)) else (stowageref14_Put.j2 k x0 x6 x236000 x236001 x236002 x236003)) else (none)) else (stowageref14_Put.j2 k x0 x6 x236000 x236001 x236002 x236003)
end
def stowageref14_Put.f (k : Nat) (l0 : List (S52)) (a1_0 : Int) (a1_1 : Int) (a1_2 : ByteArray) (l1_3 : List (S85)) : Option ((List (S52)) × Int) := (stowageref14_May.f k l0).bind fun t236 => (if t236 = true then ((stowageref14_Check.f k a1_0 a1_1 a1_2 l1_3).bind fun t237 => (stowageref14_Put.j0 k l0 (t237 != 0) a1_0 a1_1 a1_2 l1_3)) else (stowageref14_Put.j0 k l0 true a1_0 a1_1 a1_2 l1_3))
theorem stowageref14_Put.mono_l : ∀ k, (∀ y0 y1 y2 y3 y4 y5, LeO (stowageref14_Put.j0 k y0 y1 y2 y3 y4 y5) (stowageref14_Put.j0 (k + 1) y0 y1 y2 y3 y4 y5)) ∧ (∀ y0 y1 y2 y3 y4 y5, LeO (stowageref14_Put.j2 k y0 y1 y2 y3 y4 y5) (stowageref14_Put.j2 (k + 1) y0 y1 y2 y3 y4 y5)) ∧ (∀ y0 y1 y2 y3 y4 y5 y6, LeO (stowageref14_Put.l1 k y0 y1 y2 y3 y4 y5 y6) (stowageref14_Put.l1 (k + 1) y0 y1 y2 y3 y4 y5 y6)) ∧ (∀ y0 y1 y2 y3 y4 y5 y6, LeO (stowageref14_Put.l0 k y0 y1 y2 y3 y4 y5 y6) (stowageref14_Put.l0 (k + 1) y0 y1 y2 y3 y4 y5 y6))
 | 0 => ⟨fun _ _ _ _ _ _ r h => by simp [stowageref14_Put.j0] at h, fun _ _ _ _ _ _ r h => by simp [stowageref14_Put.j2] at h, fun _ _ _ _ _ _ _ r h => by simp [stowageref14_Put.l1] at h, fun _ _ _ _ _ _ _ r h => by simp [stowageref14_Put.l0] at h⟩
 | k + 1 => by
  obtain ⟨ih0, ih1, ih2, ih3⟩ := stowageref14_Put.mono_l k
  refine ⟨?_, ?_, ?_, ?_⟩
  all_goals intros
  all_goals first | unfold stowageref14_Put.j0 | unfold stowageref14_Put.j2 | unfold stowageref14_Put.l1 | unfold stowageref14_Put.l0
  all_goals repeat' (with_reducible first | exact ih0 _ _ _ _ _ _ | exact ih1 _ _ _ _ _ _ | exact ih2 _ _ _ _ _ _ _ | exact ih3 _ _ _ _ _ _ _ | exact stowageref14_Check.mono _ _ _ _ _ | exact stowageref14_May.mono _ _ | exact LeO.refl _ | exact LeO.none _ | refine LeO.ite ?_ ?_ | refine LeO.bind ?_ (fun _ => ?_))
theorem stowageref14_Put.mono : ∀ a0 a1 a2 a3 a4 k, LeO (stowageref14_Put.f k a0 a1 a2 a3 a4) (stowageref14_Put.f (k + 1) a0 a1 a2 a3 a4) := by
 intro a0 a1 a2 a3 a4 k
 obtain ⟨ih0, ih1, ih2, ih3⟩ := stowageref14_Put.mono_l k
 unfold stowageref14_Put.f
 repeat' (with_reducible first | exact ih0 _ _ _ _ _ _ | exact ih1 _ _ _ _ _ _ | exact ih2 _ _ _ _ _ _ _ | exact ih3 _ _ _ _ _ _ _ | exact stowageref14_Check.mono _ _ _ _ _ | exact stowageref14_May.mono _ _ | exact LeO.refl _ | exact LeO.none _ | refine LeO.ite ?_ ?_ | refine LeO.bind ?_ (fun _ => ?_))
set_option maxHeartbeats 8000000 in
set_option maxRecDepth 100000 in
theorem stowageref14_Put.calls (k : Nat) (P0_ : Nat → Prop) (A0 : Option Addr) (c0 : Nat) (l0 : List (S52)) (a1_0 : Int) (a1_1 : Int) (a1_2 : ByteArray) (P1_3_ : Nat → Prop) (A1_3 : Option Addr) (c1_3 : Nat) (l1_3 : List (S85)) (r1 : List (S52)) (r2 : Int) (w : World) (hs0 : Kd.V k52 52 w w.heap.size (fun k_ => P0_ k_) (.slice A0 l0.length c0) l0) (hs1_3 : Kd.V k85 85 w w.heap.size (fun k_ => P1_3_ k_) (.slice A1_3 l1_3.length c1_3) l1_3) (h : stowageref14_Put.f k l0 a1_0 a1_1 a1_2 l1_3 = some (r1, r2)) :
  Calls Tryd.prog 18 #[.slice A0 l0.length c0, .agg #[.int .i64 a1_0, .int .i64 a1_1, .string a1_2, .slice A1_3 l1_3.length c1_3]] w fun e w' => ∃ v0_ : Value, e = .returned (.tuple #[v0_, .int .i64 r2]) ∧ Kd.N k52 52 w' w.heap.size (fun k_ => ((P0_ k_ ∨ P1_3_ k_) ∨ w.heap.size ≤ k_)) v0_ r1 ∧ Below w.heap.size w w' := by
 have hu52 := Tryd.underlying52
 have HO0 := am (show Kd.V k52 52 w w.heap.size (fun k_ => ((P0_ k_ ∨ P1_3_ k_) ∨ w.heap.size ≤ k_)) (.slice A0 l0.length c0) l0 from Kd.V_mono hs0 (fun k_ hk => .inl (.inl hk)))
 have HO1_3 := am (show Kd.V k85 85 w w.heap.size (fun k_ => ((P0_ k_ ∨ P1_3_ k_) ∨ w.heap.size ≤ k_)) (.slice A1_3 l1_3.length c1_3) l1_3 from Kd.V_mono hs1_3 (fun k_ hk => .inl (.inr hk)))
 have HB := am (Below.refl w.heap.size w)
 have H := h
 clear h
 unfold stowageref14_Put.f at H
 have HC3 := am H
 clear H
 go_enter Tryd.func18, Tryd.ntmps18
 go_upto_region 1 with (first | ((with_reducible refine gate_dst (N := 3) rfl ?_); refine bx 3 #[.int .i64 a1_0, .int .i64 a1_1, .string a1_2, .slice A1_3 l1_3.length c1_3] 52 ?_; intro gb235 hg w4 hbox hb; have BK235 := am (hbox); have GW235 := gsz hg HB.out; have GE235 := gsz hg HB.out; replace HO0 := am (Kd.V_below (Kd.V_elderB (kV HO0.out) gb235 (Nat.le_of_eq hg.symm)) hb); replace HO1_3 := am (Kd.V_below (Kd.V_elderB (kV HO1_3.out) gb235 (Nat.le_of_eq hg.symm)) hb); replace HB := am (below_step (bw HB.out) hb); clear hb hbox hg))
 repeat (go_quiet (first | ((with_reducible refine gate_dst (N := 3) rfl ?_); refine bx 3 #[.int .i64 a1_0, .int .i64 a1_1, .string a1_2, .slice A1_3 l1_3.length c1_3] 52 ?_; intro gb235 hg w4 hbox hb; have BK235 := am (hbox); have GW235 := gsz hg HB.out; have GE235 := gsz hg HB.out; replace HO0 := am (Kd.V_below (Kd.V_elderB (kV HO0.out) gb235 (Nat.le_of_eq hg.symm)) hb); replace HO1_3 := am (Kd.V_below (Kd.V_elderB (kV HO1_3.out) gb235 (Nat.le_of_eq hg.symm)) hb); replace HB := am (below_step (bw HB.out) hb); clear hb hbox hg)); go_upto_region 1 with (first | ((with_reducible refine gate_dst (N := 3) rfl ?_); refine bx 3 #[.int .i64 a1_0, .int .i64 a1_1, .string a1_2, .slice A1_3 l1_3.length c1_3] 52 ?_; intro gb235 hg w4 hbox hb; have BK235 := am (hbox); have GW235 := gsz hg HB.out; have GE235 := gsz hg HB.out; replace HO0 := am (Kd.V_below (Kd.V_elderB (kV HO0.out) gb235 (Nat.le_of_eq hg.symm)) hb); replace HO1_3 := am (Kd.V_below (Kd.V_elderB (kV HO1_3.out) gb235 (Nat.le_of_eq hg.symm)) hb); replace HB := am (below_step (bw HB.out) hb); clear hb hbox hg)))
 (try simp only [Act.put, List.setIfInBounds_toArray, List.set_cons_zero, List.set_cons_succ])
 go_cut [16] (fun v16 wc => ∃ (kq : Nat) (x16_2 : Bool), v16 = .bool x16_2 ∧ Aside0 (stowageref14_Put.j0 kq l0 x16_2 a1_0 a1_1 a1_2 l1_3 = some (r1, r2)) ∧ Aside0 (kq ≤ k) ∧ Aside0 (Kd.V k52 52 wc w.heap.size (fun k_ => ((P0_ k_ ∨ P1_3_ k_) ∨ w.heap.size ≤ k_) ∧ k_ ≠ gb235) (.slice A0 l0.length c0) l0) ∧ Aside0 (Kd.V k85 85 wc w.heap.size (fun k_ => ((P0_ k_ ∨ P1_3_ k_) ∨ w.heap.size ≤ k_) ∧ k_ ≠ gb235) (.slice A1_3 l1_3.length c1_3) l1_3) ∧ Aside0 (wc.heap[gb235]? = some (.cells #[.int .i64 a1_0, .int .i64 a1_1, .string a1_2, (.slice A1_3 l1_3.length c1_3)] 52 (0, 0))) ∧ Aside0 (Below w.heap.size w wc))
 case first =>
  have H := HC3.out
  clear HC3
  replace H := obE H
  obtain ⟨t236, A5, H⟩ := H
  by_cases c6 : t236 = true
  ·
   subst c6
   rw [if_pos rfl] at H
   replace H := obE H
   obtain ⟨t237, A7, H⟩ := H
   have H' := am H
   clear H
   go_wp2_with (first | (go_at_call 33; (with_reducible refine (stowageref14_May.calls k _ _ l0 true _ ?side1 ?side2 A5.out).mono ?_); (case side1 => repeat (first | exact (Kd.V_reads' HO0.out).2.2 | (with_reducible refine Kd.C_alloc ?_ _) | (with_reducible refine Kd.C_drewN ?_ _) | (with_reducible refine Kd.C_drew ?_))); (case side2 => exact (Kd.V_reads' HO0.out).2.1); rintro e w8 ⟨rfl, hb⟩; replace HO0 := am (Kd.V_below (kV HO0.out) hb); replace HO1_3 := am (Kd.V_below (kV HO1_3.out) hb); replace BK235 := bb BK235.out hb; replace HB := am (below_step (bws HB.out) hb); (try clear hb); obtain ⟨hcz9_0, hcz9_1, hcz9_2, hcz9_3, hfz9_0, hfz9_1, hfz9_2, hfz9_3⟩ := cz4 BK235.out) | (go_at_call 20; (with_reducible refine (stowageref14_Check.calls k a1_0 a1_1 a1_2 _ _ l1_3 t237 _ ?side1 ?side2 A7.out).mono ?_); (case side1 => repeat (first | exact (Kd.V_reads' HO1_3.out).2.2 | (with_reducible refine Kd.C_alloc ?_ _) | (with_reducible refine Kd.C_drewN ?_ _) | (with_reducible refine Kd.C_drew ?_))); (case side2 => exact (Kd.V_reads' HO1_3.out).2.1); rintro e w10 ⟨rfl, hb⟩; replace HO0 := am (Kd.V_below (kV HO0.out) hb); replace HO1_3 := am (Kd.V_below (kV HO1_3.out) hb); replace BK235 := bb BK235.out hb; replace HB := am (below_step (bws HB.out) hb); (try clear hb)))
   repeat (go_quiet (first | (go_at_call 33; (with_reducible refine (stowageref14_May.calls k _ _ l0 true _ ?side1 ?side2 A5.out).mono ?_); (case side1 => repeat (first | exact (Kd.V_reads' HO0.out).2.2 | (with_reducible refine Kd.C_alloc ?_ _) | (with_reducible refine Kd.C_drewN ?_ _) | (with_reducible refine Kd.C_drew ?_))); (case side2 => exact (Kd.V_reads' HO0.out).2.1); rintro e w8 ⟨rfl, hb⟩; replace HO0 := am (Kd.V_below (kV HO0.out) hb); replace HO1_3 := am (Kd.V_below (kV HO1_3.out) hb); replace BK235 := bb BK235.out hb; replace HB := am (below_step (bws HB.out) hb); (try clear hb); obtain ⟨hcz9_0, hcz9_1, hcz9_2, hcz9_3, hfz9_0, hfz9_1, hfz9_2, hfz9_3⟩ := cz4 BK235.out; clear A5) | (go_at_call 20; (with_reducible refine (stowageref14_Check.calls k a1_0 a1_1 a1_2 _ _ l1_3 t237 _ ?side1 ?side2 A7.out).mono ?_); (case side1 => repeat (first | exact (Kd.V_reads' HO1_3.out).2.2 | (with_reducible refine Kd.C_alloc ?_ _) | (with_reducible refine Kd.C_drewN ?_ _) | (with_reducible refine Kd.C_drew ?_))); (case side2 => exact (Kd.V_reads' HO1_3.out).2.1); rintro e w10 ⟨rfl, hb⟩; replace HO0 := am (Kd.V_below (kV HO0.out) hb); replace HO1_3 := am (Kd.V_below (kV HO1_3.out) hb); replace BK235 := bb BK235.out hb; replace HB := am (below_step (bws HB.out) hb); (try clear hb); clear A7)); try go_wp2_with (first | (go_at_call 33; (with_reducible refine (stowageref14_May.calls k _ _ l0 true _ ?side1 ?side2 A5.out).mono ?_); (case side1 => repeat (first | exact (Kd.V_reads' HO0.out).2.2 | (with_reducible refine Kd.C_alloc ?_ _) | (with_reducible refine Kd.C_drewN ?_ _) | (with_reducible refine Kd.C_drew ?_))); (case side2 => exact (Kd.V_reads' HO0.out).2.1); rintro e w8 ⟨rfl, hb⟩; replace HO0 := am (Kd.V_below (kV HO0.out) hb); replace HO1_3 := am (Kd.V_below (kV HO1_3.out) hb); replace BK235 := bb BK235.out hb; replace HB := am (below_step (bws HB.out) hb); (try clear hb); obtain ⟨hcz9_0, hcz9_1, hcz9_2, hcz9_3, hfz9_0, hfz9_1, hfz9_2, hfz9_3⟩ := cz4 BK235.out; clear A5) | (go_at_call 20; (with_reducible refine (stowageref14_Check.calls k a1_0 a1_1 a1_2 _ _ l1_3 t237 _ ?side1 ?side2 A7.out).mono ?_); (case side1 => repeat (first | exact (Kd.V_reads' HO1_3.out).2.2 | (with_reducible refine Kd.C_alloc ?_ _) | (with_reducible refine Kd.C_drewN ?_ _) | (with_reducible refine Kd.C_drew ?_))); (case side2 => exact (Kd.V_reads' HO1_3.out).2.1); rintro e w10 ⟨rfl, hb⟩; replace HO0 := am (Kd.V_below (kV HO0.out) hb); replace HO1_3 := am (Kd.V_below (kV HO1_3.out) hb); replace BK235 := bb BK235.out hb; replace HB := am (below_step (bws HB.out) hb); (try clear hb); clear A7)))
   go_meet
   case rel => exact ⟨_, ((t237 != 0)), rs, H', ⟨om⟩, ⟨kV HO0.out⟩, ⟨kV HO1_3.out⟩, ⟨bk BK235.out⟩, ⟨bws HB.out⟩⟩
  ·
   replace c6 := Bool.eq_false_iff.mpr c6
   subst c6
   rw [if_neg (show ¬ (false = true) by decide)] at H
   have H' := am H
   clear H
   go_wp2_with (first | (go_at_call 33; (with_reducible refine (stowageref14_May.calls k _ _ l0 false _ ?side1 ?side2 A5.out).mono ?_); (case side1 => repeat (first | exact (Kd.V_reads' HO0.out).2.2 | (with_reducible refine Kd.C_alloc ?_ _) | (with_reducible refine Kd.C_drewN ?_ _) | (with_reducible refine Kd.C_drew ?_))); (case side2 => exact (Kd.V_reads' HO0.out).2.1); rintro e w11 ⟨rfl, hb⟩; replace HO0 := am (Kd.V_below (kV HO0.out) hb); replace HO1_3 := am (Kd.V_below (kV HO1_3.out) hb); replace BK235 := bb BK235.out hb; replace HB := am (below_step (bws HB.out) hb); (try clear hb)))
   repeat (go_quiet (first | (go_at_call 33; (with_reducible refine (stowageref14_May.calls k _ _ l0 false _ ?side1 ?side2 A5.out).mono ?_); (case side1 => repeat (first | exact (Kd.V_reads' HO0.out).2.2 | (with_reducible refine Kd.C_alloc ?_ _) | (with_reducible refine Kd.C_drewN ?_ _) | (with_reducible refine Kd.C_drew ?_))); (case side2 => exact (Kd.V_reads' HO0.out).2.1); rintro e w11 ⟨rfl, hb⟩; replace HO0 := am (Kd.V_below (kV HO0.out) hb); replace HO1_3 := am (Kd.V_below (kV HO1_3.out) hb); replace BK235 := bb BK235.out hb; replace HB := am (below_step (bws HB.out) hb); (try clear hb); clear A5)); try go_wp2_with (first | (go_at_call 33; (with_reducible refine (stowageref14_May.calls k _ _ l0 false _ ?side1 ?side2 A5.out).mono ?_); (case side1 => repeat (first | exact (Kd.V_reads' HO0.out).2.2 | (with_reducible refine Kd.C_alloc ?_ _) | (with_reducible refine Kd.C_drewN ?_ _) | (with_reducible refine Kd.C_drew ?_))); (case side2 => exact (Kd.V_reads' HO0.out).2.1); rintro e w11 ⟨rfl, hb⟩; replace HO0 := am (Kd.V_below (kV HO0.out) hb); replace HO1_3 := am (Kd.V_below (kV HO1_3.out) hb); replace BK235 := bb BK235.out hb; replace HB := am (below_step (bws HB.out) hb); (try clear hb); clear A5)))
   go_meet
   case rel => exact ⟨_, (true), rs, H', ⟨om⟩, ⟨kV HO0.out⟩, ⟨kV HO1_3.out⟩, ⟨bk BK235.out⟩, ⟨bws HB.out⟩⟩
 case rest =>
  clear HC3
  obtain ⟨kq, x16_2, rfl, HA, HJ2, HO_0, HO_236003, BK235, HB⟩ := hcut
  cases kq with
  | zero => exact absurd HA.out (by simp [stowageref14_Put.j0])
  | succ kj2 =>
   have H := HA.out
   clear HA
   simp only [stowageref14_Put.j0] at H
   by_cases c12 : x16_2 = true
   ·
    subst c12
    rw [if_pos rfl] at H
    simp only [Option.some.injEq, Prod.mk.injEq] at H
    obtain ⟨rfl, rfl⟩ := H
    go_wp2
    repeat (go_quiet (fail); try go_wp2)
    go_ret2
    exact ⟨_, rf, niS, bws HB.out⟩
   ·
    replace c12 := Bool.eq_false_iff.mpr c12
    subst c12
    rw [if_neg (show ¬ (false = true) by decide)] at H
    have HC13 := am H
    clear H
    go_upto_block 0 with (fail)
    repeat (go_quiet (fail); go_upto_block 0 with (fail))
    go_cut [6] (fun v6 wc => ∃ (kq : Nat) (x6_12 : List (S52)), Aside0 (stowageref14_Put.j2 kq l0 x6_12 a1_0 a1_1 a1_2 l1_3 = some (r1, r2)) ∧ Aside0 (kq ≤ kj2) ∧ Aside0 (Kd.V k52 52 wc w.heap.size (fun k_ => ((P0_ k_ ∨ P1_3_ k_) ∨ w.heap.size ≤ k_) ∧ some k_ ≠ (v6 : Value).ownBlock ∧ k_ ≠ gb235) (.slice A0 l0.length c0) l0) ∧ Aside0 (Kd.N k52 52 wc w.heap.size (fun k_ => ((P0_ k_ ∨ P1_3_ k_) ∨ w.heap.size ≤ k_) ∧ k_ ≠ gb235) v6 x6_12) ∧ Aside0 (Kd.V k85 85 wc w.heap.size (fun k_ => ((P0_ k_ ∨ P1_3_ k_) ∨ w.heap.size ≤ k_) ∧ some k_ ≠ (v6 : Value).ownBlock ∧ k_ ≠ gb235) (.slice A1_3 l1_3.length c1_3) l1_3) ∧ Aside0 (wc.heap[gb235]? = some (.cells #[.int .i64 a1_0, .int .i64 a1_1, .string a1_2, (.slice A1_3 l1_3.length c1_3)] 52 (0, 0))) ∧ Aside0 (Below w.heap.size w wc))
    case first =>
     have H := HC13.out
     clear HC13
     have H' := am H
     clear H
     go_wp2
     repeat (go_quiet (fail); try go_wp2)
     go_loopg [6, 7] kj2 (fun kq v6 v7 w' => ∃ (x6_2 : List (S52)) (x7_2 : Int), v7 = .int .i64 x7_2 ∧ Aside0 (stowageref14_Put.l0 kq l0 x6_2 x7_2 a1_0 a1_1 a1_2 l1_3 = some (r1, r2)) ∧ Aside0 (kq ≤ kj2) ∧ Aside0 (Kd.V k52 52 w' w.heap.size (fun k_ => ((P0_ k_ ∨ P1_3_ k_) ∨ w.heap.size ≤ k_) ∧ some k_ ≠ (v6 : Value).ownBlock ∧ k_ ≠ gb235) (.slice A0 l0.length c0) l0) ∧ Aside0 (Kd.N k52 52 w' w.heap.size (fun k_ => ((P0_ k_ ∨ P1_3_ k_) ∨ w.heap.size ≤ k_) ∧ k_ ≠ gb235) v6 x6_2) ∧ Aside0 (Kd.V k85 85 w' w.heap.size (fun k_ => ((P0_ k_ ∨ P1_3_ k_) ∨ w.heap.size ≤ k_) ∧ some k_ ≠ (v6 : Value).ownBlock ∧ k_ ≠ gb235) (.slice A1_3 l1_3.length c1_3) l1_3) ∧ Aside0 (w'.heap[gb235]? = some (.cells #[.int .i64 a1_0, .int .i64 a1_1, .string a1_2, (.slice A1_3 l1_3.length c1_3)] 52 (0, 0))) ∧ Aside0 (Below w.heap.size w w'))
     case atStart => exact ⟨(([] : List (S52))), (0), rs, H', ⟨Nat.le_refl _⟩, ⟨by (with_reducible repeat (first | apply Kd.V_alloc | apply Kd.V_drewN | apply Kd.V_drew)); exact Kd.V_mono HO_0.out (fun _ hk => ⟨hk.1, ⟨(by simp [Value.ownBlock]), hk.2⟩⟩)⟩, ⟨niS⟩, ⟨by (with_reducible repeat (first | apply Kd.V_alloc | apply Kd.V_drewN | apply Kd.V_drew)); exact Kd.V_mono HO_236003.out (fun _ hk => ⟨hk.1, ⟨(by simp [Value.ownBlock]), hk.2⟩⟩)⟩, ⟨bk BK235.out⟩, ⟨bws HB.out⟩⟩
     case round =>
      clear H'
      try clear c12
      obtain ⟨x6_2, x7_2, rfl, HA, HK2, HO_0, HO_6, HO_236003, BK235, HB⟩ := hrel
      cases gk with
      | zero => exact absurd HA.out (by simp [stowageref14_Put.l0])
      | succ k2 =>
       have H := HA.out
       clear HA
       simp only [stowageref14_Put.l0] at H
       replace H := iteD H
       rcases H with ⟨c14b0, H⟩ | ⟨c14b0, H⟩
       ·
        (first | rw [c14b0] | (simp only [i64_w, i32_w]; rw [c14b0]) | skip)
        replace H := iteD H
        rcases H with ⟨c15b0, H⟩ | ⟨_, H⟩
        ·
         replace H := iteD H
         rcases H with ⟨c16b0, H⟩ | ⟨c16b0, H⟩
         ·
          by_cases c17 : x6_2.length < 2513169434916
          ·
           rw [if_pos c17] at H
           have LMc17 := am c17
           clear c17
           obtain ⟨y240, hy240⟩ : ∃ y_ : List (S52), y_ = (x6_2 ++ [(⟨(rd_T52 l0 x7_2).f0, (rd_T52 l0 x7_2).f1, (rd_T52 l0 x7_2).f2, (rd_T52 l0 x7_2).f3⟩ : S52)]) := ⟨_, rfl⟩
           replace H : (stowageref14_Put.l0 k2 l0 y240 (wrap64 (x7_2 + 1)) a1_0 a1_1 a1_2 l1_3) = some (r1, r2) := by first | (rw [hy240]; with_reducible exact H) | (have H2_ := (Option.bind_some _ _).symm.trans H; rw [hy240]; with_reducible exact H2_) | (have H2_ := (Option.bind_some _ _).symm.trans H; with_reducible exact H2_) | with_reducible exact H | (rw [hy240]; exact H) | exact H
           have Ny240 := am hy240
           clear hy240
           have H' := am H
           clear H
           have p238 := pz x7_2
           have q238 := pl x7_2 (l0.length : Int)
           obtain ⟨ad238, A238_3, c238_3, e238, hx238_0, hx238_1, hx238_2, hx238_3, hl238_3, hi238_3⟩ := at_T52 (Kd.V_reads' HO_0.out).2.2 x7_2 (of_eq_true p238) (of_eq_true q238)
           cases e238
           obtain ⟨ce238, hce238, hMe238, hcc238⟩ := Kd.V_get HO_0.out z52 x7_2 (of_eq_true p238) (by first | exact (of_eq_true q238) | exact of_decide_eq_true asm | (have e_ := (Kd.V_reads' HO_0.out).1; omega))
           obtain ⟨ua238_3, uc238_3, rfl, ul238_3, ge238_3⟩ := k52_openF hMe238
           have hv238_3 := hcc238 3 _ rfl
           rw [add_field _ _ 3 (by omega)] at hv238_3
           replace hv238_3 := Option.some.inj (hv238_3.symm.trans hx238_3)
           injection hv238_3 with hva_ hvn_ hvc_
           rw [hva_] at ge238_3
           rw [hvc_] at ul238_3
           have HL238_3 := am (show Kd.V k85 85 _ w.heap.size _ _ ((rd_T52 l0 x7_2).f3) from Kd.V_mk ul238_3 ge238_3)
           clear hva_ hvn_ hvc_ ge238_3 ul238_3
           clear hcc238 hce238
           have HR238_3 := am hi238_3
           have HC238_3 := am hl238_3
           clear hi238_3 hl238_3
           obtain ⟨hcz18_0, hcz18_1, hcz18_2, hcz18_3, hfz18_0, hfz18_1, hfz18_2, hfz18_3⟩ := cz4 BK235.out
           have p239 := pz x7_2
           have q239 := pl x7_2 (l0.length : Int)
           obtain ⟨ad239, A239_3, c239_3, e239, hx239_0, hx239_1, hx239_2, hx239_3, hl239_3, hi239_3⟩ := at_T52 (Kd.V_reads' HO_0.out).2.2 x7_2 (of_eq_true p239) (of_eq_true q239)
           obtain rfl : ad238 = ad239 := (by injection e239)
           obtain ⟨ce239, hce239, hMe239, hcc239⟩ := Kd.V_get HO_0.out z52 x7_2 (of_eq_true p239) (by first | exact (of_eq_true q239) | exact of_decide_eq_true asm | (have e_ := (Kd.V_reads' HO_0.out).1; omega))
           obtain ⟨ua239_3, uc239_3, rfl, ul239_3, ge239_3⟩ := k52_openF hMe239
           have hv239_3 := hcc239 3 _ rfl
           rw [add_field _ _ 3 (by omega)] at hv239_3
           replace hv239_3 := Option.some.inj (hv239_3.symm.trans hx239_3)
           injection hv239_3 with hva_ hvn_ hvc_
           rw [hva_] at ge239_3
           rw [hvc_] at ul239_3
           have HL239_3 := am (show Kd.V k85 85 _ w.heap.size _ _ ((rd_T52 l0 x7_2).f3) from Kd.V_mk ul239_3 ge239_3)
           clear hva_ hvn_ hvc_ ge239_3 ul239_3
           clear hcc239 hce239
           have HR239_3 := am hi239_3
           have HC239_3 := am hl239_3
           clear hi239_3 hl239_3
           have ea_ := Option.some.inj (hx238_3.symm.trans hx239_3)
           injection ea_ with ea_ en_ ec_
           subst ea_
           subst ec_
           clear en_
           go_wp2_with (first | ((with_reducible refine gate_builtin (b := .append) (xs := #[.tmp 33, .tmp 38]) rfl ?_); at_builtin; refine Kd.N_append k52 (w0 := w) w.heap.size rfl (.tmp 33) (.tmp 38) 35 52 (.agg #[(.int .i64 0), (.int .i64 0), (.string ⟨#[]⟩), (.slice none 0 0)]) 56 rfl Tryd.underlying35 info52 rfl (by decide) (by omega) u6 x6_2 (⟨(rd_T52 l0 x7_2).f0, (rd_T52 l0 x7_2).f1, (rd_T52 l0 x7_2).f2, (rd_T52 l0 x7_2).f3⟩ : S52) [.int .i64 ((rd_T52 l0 x7_2).f0), .int .i64 ((rd_T52 l0 x7_2).f1), .string ((rd_T52 l0 x7_2).f2), .slice A238_3 ((rd_T52 l0 x7_2).f3).length c238_3] (fun k_ => ((P0_ k_ ∨ P1_3_ k_) ∨ w.heap.size ≤ k_) ∧ k_ ≠ gb235) (fun k_ => ((fun k_ => ((P0_ k_ ∨ P1_3_ k_) ∨ w.heap.size ≤ k_) ∧ k_ ≠ gb235)) k_ ∧ some k_ ≠ (u6 : Value).ownBlock) rfl rfl ?aP (fun _ hk => hk) ?aF ?aO ?aB ?aS ?aL ?_; (case aP => first | exact (k52_mkF _ _ (⟨(rd_T52 l0 x7_2).f0, (rd_T52 l0 x7_2).f1, (rd_T52 l0 x7_2).f2, (rd_T52 l0 x7_2).f3⟩ : S52) (Kd.V_reads' (Kd.V_mono (ok' := (fun k_ => ((fun k_ => ((P0_ k_ ∨ P1_3_ k_) ∨ w.heap.size ≤ k_) ∧ k_ ≠ gb235)) k_ ∧ some k_ ≠ (u6 : Value).ownBlock)) (HL239_3.out) (fun k_ hk => ⟨⟨hk.1, hk.2.2⟩, hk.2.1⟩))).2.1 (Kd.V_F (Kd.V_mono (ok' := (fun k_ => ((fun k_ => ((P0_ k_ ∨ P1_3_ k_) ∨ w.heap.size ≤ k_) ∧ k_ ≠ gb235)) k_ ∧ some k_ ≠ (u6 : Value).ownBlock)) (HL239_3.out) (fun k_ hk => ⟨⟨hk.1, hk.2.2⟩, hk.2.1⟩)))) | exact (k52_mkF _ _ (⟨(rd_T52 l0 x7_2).f0, (rd_T52 l0 x7_2).f1, (rd_T52 l0 x7_2).f2, (rd_T52 l0 x7_2).f3⟩ : S52) (Kd.V_reads' (Kd.V_mono (ok' := (fun k_ => ((fun k_ => ((P0_ k_ ∨ P1_3_ k_) ∨ w.heap.size ≤ k_) ∧ k_ ≠ gb235)) k_ ∧ some k_ ≠ (u6 : Value).ownBlock)) (HL239_3.out) (fun k_ hk => ⟨⟨hk.1, hk.2.2⟩, hk.2.1⟩))).2.1 (Kd.V_F (Kd.V_mono (ok' := (fun k_ => ((fun k_ => ((P0_ k_ ∨ P1_3_ k_) ∨ w.heap.size ≤ k_) ∧ k_ ≠ gb235)) k_ ∧ some k_ ≠ (u6 : Value).ownBlock)) (Kd.V_drewN (HL239_3.out) _) (fun k_ hk => ⟨⟨hk.1, hk.2.2⟩, hk.2.1⟩))))); (case aB => exact (bws HB.out)); (case aF => exact (fun k_ hk => ⟨(.inr (Nat.le_trans (below_size (bws HB.out)) hk)), Kd.freshB (g := gb235) (o := .cells #[.int .i64 a1_0, .int .i64 a1_1, .string a1_2, .slice A1_3 l1_3.length c1_3] 52 (0, 0)) (bk BK235.out) k_ hk⟩)); (case aO => exact (kN HO_6.out)); (case aS => exact (below_size (bws HB.out))); (case aL => have := LMc17.out; omega); intro v241 w19 ho hb hg hat; rw [← Ny240.out] at ho; have n0_ := am (Kd.V_afterv (ok := (fun k_ => ((P0_ k_ ∨ P1_3_ k_) ∨ w.heap.size ≤ k_) ∧ k_ ≠ gb235)) (by (with_reducible repeat (first | apply Kd.V_alloc | apply Kd.V_drewN | apply Kd.V_drew)); exact Kd.V_mono HO_0.out (fun _ hk => ⟨⟨hk.1, hk.2.2⟩, hk.2.1⟩)) hg hat); have n1_ := am (Kd.V_afterv (ok := (fun k_ => ((P0_ k_ ∨ P1_3_ k_) ∨ w.heap.size ≤ k_) ∧ k_ ≠ gb235)) (by (with_reducible repeat (first | apply Kd.V_alloc | apply Kd.V_drewN | apply Kd.V_drew)); exact Kd.V_mono HO_236003.out (fun _ hk => ⟨⟨hk.1, hk.2.2⟩, hk.2.1⟩)) hg hat); have n2_ := am (blk_grown (g := gb235) (o := .cells #[.int .i64 a1_0, .int .i64 a1_1, .string a1_2, .slice A1_3 l1_3.length c1_3] 52 (0, 0)) (bk BK235.out) hg (Kd.N_away HO_6.out (fun _ hk => hk.2))); have n3_ := am (Kd.V_afterv (ok := (fun k_ => ((P0_ k_ ∨ P1_3_ k_) ∨ w.heap.size ≤ k_) ∧ k_ ≠ gb235)) (by (with_reducible repeat (first | apply Kd.V_alloc | apply Kd.V_drewN | apply Kd.V_drew)); exact Kd.V_mono HL238_3.out (fun _ hk => ⟨⟨hk.1, hk.2.2⟩, hk.2.1⟩)) hg hat); have n4_ := am (Kd.V_afterv (ok := (fun k_ => ((P0_ k_ ∨ P1_3_ k_) ∨ w.heap.size ≤ k_) ∧ k_ ≠ gb235)) (by (with_reducible repeat (first | apply Kd.V_alloc | apply Kd.V_drewN | apply Kd.V_drew)); exact Kd.V_mono HL239_3.out (fun _ hk => ⟨⟨hk.1, hk.2.2⟩, hk.2.1⟩)) hg hat); have n5_ := am (hb); have n6_ := am (ho); clear HO_0; clear HO_236003; clear BK235; clear HL238_3; clear HL239_3; clear HB; clear HO_6; have HO_0 := n0_; have HO_236003 := n1_; have BK235 := n2_; have HL238_3 := n3_; have HL239_3 := n4_; have HB := n5_; have HO242 := n6_; clear n0_ n1_ n2_ n3_ n4_ n5_ n6_; clear ho hb hg hat))
           repeat (go_quiet (first | ((with_reducible refine gate_builtin (b := .append) (xs := #[.tmp 33, .tmp 38]) rfl ?_); at_builtin; refine Kd.N_append k52 (w0 := w) w.heap.size rfl (.tmp 33) (.tmp 38) 35 52 (.agg #[(.int .i64 0), (.int .i64 0), (.string ⟨#[]⟩), (.slice none 0 0)]) 56 rfl Tryd.underlying35 info52 rfl (by decide) (by omega) u6 x6_2 (⟨(rd_T52 l0 x7_2).f0, (rd_T52 l0 x7_2).f1, (rd_T52 l0 x7_2).f2, (rd_T52 l0 x7_2).f3⟩ : S52) [.int .i64 ((rd_T52 l0 x7_2).f0), .int .i64 ((rd_T52 l0 x7_2).f1), .string ((rd_T52 l0 x7_2).f2), .slice A238_3 ((rd_T52 l0 x7_2).f3).length c238_3] (fun k_ => ((P0_ k_ ∨ P1_3_ k_) ∨ w.heap.size ≤ k_) ∧ k_ ≠ gb235) (fun k_ => ((fun k_ => ((P0_ k_ ∨ P1_3_ k_) ∨ w.heap.size ≤ k_) ∧ k_ ≠ gb235)) k_ ∧ some k_ ≠ (u6 : Value).ownBlock) rfl rfl ?aP (fun _ hk => hk) ?aF ?aO ?aB ?aS ?aL ?_; (case aP => first | exact (k52_mkF _ _ (⟨(rd_T52 l0 x7_2).f0, (rd_T52 l0 x7_2).f1, (rd_T52 l0 x7_2).f2, (rd_T52 l0 x7_2).f3⟩ : S52) (Kd.V_reads' (Kd.V_mono (ok' := (fun k_ => ((fun k_ => ((P0_ k_ ∨ P1_3_ k_) ∨ w.heap.size ≤ k_) ∧ k_ ≠ gb235)) k_ ∧ some k_ ≠ (u6 : Value).ownBlock)) (HL239_3.out) (fun k_ hk => ⟨⟨hk.1, hk.2.2⟩, hk.2.1⟩))).2.1 (Kd.V_F (Kd.V_mono (ok' := (fun k_ => ((fun k_ => ((P0_ k_ ∨ P1_3_ k_) ∨ w.heap.size ≤ k_) ∧ k_ ≠ gb235)) k_ ∧ some k_ ≠ (u6 : Value).ownBlock)) (HL239_3.out) (fun k_ hk => ⟨⟨hk.1, hk.2.2⟩, hk.2.1⟩)))) | exact (k52_mkF _ _ (⟨(rd_T52 l0 x7_2).f0, (rd_T52 l0 x7_2).f1, (rd_T52 l0 x7_2).f2, (rd_T52 l0 x7_2).f3⟩ : S52) (Kd.V_reads' (Kd.V_mono (ok' := (fun k_ => ((fun k_ => ((P0_ k_ ∨ P1_3_ k_) ∨ w.heap.size ≤ k_) ∧ k_ ≠ gb235)) k_ ∧ some k_ ≠ (u6 : Value).ownBlock)) (HL239_3.out) (fun k_ hk => ⟨⟨hk.1, hk.2.2⟩, hk.2.1⟩))).2.1 (Kd.V_F (Kd.V_mono (ok' := (fun k_ => ((fun k_ => ((P0_ k_ ∨ P1_3_ k_) ∨ w.heap.size ≤ k_) ∧ k_ ≠ gb235)) k_ ∧ some k_ ≠ (u6 : Value).ownBlock)) (Kd.V_drewN (HL239_3.out) _) (fun k_ hk => ⟨⟨hk.1, hk.2.2⟩, hk.2.1⟩))))); (case aB => exact (bws HB.out)); (case aF => exact (fun k_ hk => ⟨(.inr (Nat.le_trans (below_size (bws HB.out)) hk)), Kd.freshB (g := gb235) (o := .cells #[.int .i64 a1_0, .int .i64 a1_1, .string a1_2, .slice A1_3 l1_3.length c1_3] 52 (0, 0)) (bk BK235.out) k_ hk⟩)); (case aO => exact (kN HO_6.out)); (case aS => exact (below_size (bws HB.out))); (case aL => have := LMc17.out; omega); intro v241 w19 ho hb hg hat; rw [← Ny240.out] at ho; have n0_ := am (Kd.V_afterv (ok := (fun k_ => ((P0_ k_ ∨ P1_3_ k_) ∨ w.heap.size ≤ k_) ∧ k_ ≠ gb235)) (by (with_reducible repeat (first | apply Kd.V_alloc | apply Kd.V_drewN | apply Kd.V_drew)); exact Kd.V_mono HO_0.out (fun _ hk => ⟨⟨hk.1, hk.2.2⟩, hk.2.1⟩)) hg hat); have n1_ := am (Kd.V_afterv (ok := (fun k_ => ((P0_ k_ ∨ P1_3_ k_) ∨ w.heap.size ≤ k_) ∧ k_ ≠ gb235)) (by (with_reducible repeat (first | apply Kd.V_alloc | apply Kd.V_drewN | apply Kd.V_drew)); exact Kd.V_mono HO_236003.out (fun _ hk => ⟨⟨hk.1, hk.2.2⟩, hk.2.1⟩)) hg hat); have n2_ := am (blk_grown (g := gb235) (o := .cells #[.int .i64 a1_0, .int .i64 a1_1, .string a1_2, .slice A1_3 l1_3.length c1_3] 52 (0, 0)) (bk BK235.out) hg (Kd.N_away HO_6.out (fun _ hk => hk.2))); have n3_ := am (Kd.V_afterv (ok := (fun k_ => ((P0_ k_ ∨ P1_3_ k_) ∨ w.heap.size ≤ k_) ∧ k_ ≠ gb235)) (by (with_reducible repeat (first | apply Kd.V_alloc | apply Kd.V_drewN | apply Kd.V_drew)); exact Kd.V_mono HL238_3.out (fun _ hk => ⟨⟨hk.1, hk.2.2⟩, hk.2.1⟩)) hg hat); have n4_ := am (Kd.V_afterv (ok := (fun k_ => ((P0_ k_ ∨ P1_3_ k_) ∨ w.heap.size ≤ k_) ∧ k_ ≠ gb235)) (by (with_reducible repeat (first | apply Kd.V_alloc | apply Kd.V_drewN | apply Kd.V_drew)); exact Kd.V_mono HL239_3.out (fun _ hk => ⟨⟨hk.1, hk.2.2⟩, hk.2.1⟩)) hg hat); have n5_ := am (hb); have n6_ := am (ho); clear HO_0; clear HO_236003; clear BK235; clear HL238_3; clear HL239_3; clear HB; clear HO_6; have HO_0 := n0_; have HO_236003 := n1_; have BK235 := n2_; have HL238_3 := n3_; have HL239_3 := n4_; have HB := n5_; have HO242 := n6_; clear n0_ n1_ n2_ n3_ n4_ n5_ n6_; clear ho hb hg hat)); try go_wp2_with (first | ((with_reducible refine gate_builtin (b := .append) (xs := #[.tmp 33, .tmp 38]) rfl ?_); at_builtin; refine Kd.N_append k52 (w0 := w) w.heap.size rfl (.tmp 33) (.tmp 38) 35 52 (.agg #[(.int .i64 0), (.int .i64 0), (.string ⟨#[]⟩), (.slice none 0 0)]) 56 rfl Tryd.underlying35 info52 rfl (by decide) (by omega) u6 x6_2 (⟨(rd_T52 l0 x7_2).f0, (rd_T52 l0 x7_2).f1, (rd_T52 l0 x7_2).f2, (rd_T52 l0 x7_2).f3⟩ : S52) [.int .i64 ((rd_T52 l0 x7_2).f0), .int .i64 ((rd_T52 l0 x7_2).f1), .string ((rd_T52 l0 x7_2).f2), .slice A238_3 ((rd_T52 l0 x7_2).f3).length c238_3] (fun k_ => ((P0_ k_ ∨ P1_3_ k_) ∨ w.heap.size ≤ k_) ∧ k_ ≠ gb235) (fun k_ => ((fun k_ => ((P0_ k_ ∨ P1_3_ k_) ∨ w.heap.size ≤ k_) ∧ k_ ≠ gb235)) k_ ∧ some k_ ≠ (u6 : Value).ownBlock) rfl rfl ?aP (fun _ hk => hk) ?aF ?aO ?aB ?aS ?aL ?_; (case aP => first | exact (k52_mkF _ _ (⟨(rd_T52 l0 x7_2).f0, (rd_T52 l0 x7_2).f1, (rd_T52 l0 x7_2).f2, (rd_T52 l0 x7_2).f3⟩ : S52) (Kd.V_reads' (Kd.V_mono (ok' := (fun k_ => ((fun k_ => ((P0_ k_ ∨ P1_3_ k_) ∨ w.heap.size ≤ k_) ∧ k_ ≠ gb235)) k_ ∧ some k_ ≠ (u6 : Value).ownBlock)) (HL239_3.out) (fun k_ hk => ⟨⟨hk.1, hk.2.2⟩, hk.2.1⟩))).2.1 (Kd.V_F (Kd.V_mono (ok' := (fun k_ => ((fun k_ => ((P0_ k_ ∨ P1_3_ k_) ∨ w.heap.size ≤ k_) ∧ k_ ≠ gb235)) k_ ∧ some k_ ≠ (u6 : Value).ownBlock)) (HL239_3.out) (fun k_ hk => ⟨⟨hk.1, hk.2.2⟩, hk.2.1⟩)))) | exact (k52_mkF _ _ (⟨(rd_T52 l0 x7_2).f0, (rd_T52 l0 x7_2).f1, (rd_T52 l0 x7_2).f2, (rd_T52 l0 x7_2).f3⟩ : S52) (Kd.V_reads' (Kd.V_mono (ok' := (fun k_ => ((fun k_ => ((P0_ k_ ∨ P1_3_ k_) ∨ w.heap.size ≤ k_) ∧ k_ ≠ gb235)) k_ ∧ some k_ ≠ (u6 : Value).ownBlock)) (HL239_3.out) (fun k_ hk => ⟨⟨hk.1, hk.2.2⟩, hk.2.1⟩))).2.1 (Kd.V_F (Kd.V_mono (ok' := (fun k_ => ((fun k_ => ((P0_ k_ ∨ P1_3_ k_) ∨ w.heap.size ≤ k_) ∧ k_ ≠ gb235)) k_ ∧ some k_ ≠ (u6 : Value).ownBlock)) (Kd.V_drewN (HL239_3.out) _) (fun k_ hk => ⟨⟨hk.1, hk.2.2⟩, hk.2.1⟩))))); (case aB => exact (bws HB.out)); (case aF => exact (fun k_ hk => ⟨(.inr (Nat.le_trans (below_size (bws HB.out)) hk)), Kd.freshB (g := gb235) (o := .cells #[.int .i64 a1_0, .int .i64 a1_1, .string a1_2, .slice A1_3 l1_3.length c1_3] 52 (0, 0)) (bk BK235.out) k_ hk⟩)); (case aO => exact (kN HO_6.out)); (case aS => exact (below_size (bws HB.out))); (case aL => have := LMc17.out; omega); intro v241 w19 ho hb hg hat; rw [← Ny240.out] at ho; have n0_ := am (Kd.V_afterv (ok := (fun k_ => ((P0_ k_ ∨ P1_3_ k_) ∨ w.heap.size ≤ k_) ∧ k_ ≠ gb235)) (by (with_reducible repeat (first | apply Kd.V_alloc | apply Kd.V_drewN | apply Kd.V_drew)); exact Kd.V_mono HO_0.out (fun _ hk => ⟨⟨hk.1, hk.2.2⟩, hk.2.1⟩)) hg hat); have n1_ := am (Kd.V_afterv (ok := (fun k_ => ((P0_ k_ ∨ P1_3_ k_) ∨ w.heap.size ≤ k_) ∧ k_ ≠ gb235)) (by (with_reducible repeat (first | apply Kd.V_alloc | apply Kd.V_drewN | apply Kd.V_drew)); exact Kd.V_mono HO_236003.out (fun _ hk => ⟨⟨hk.1, hk.2.2⟩, hk.2.1⟩)) hg hat); have n2_ := am (blk_grown (g := gb235) (o := .cells #[.int .i64 a1_0, .int .i64 a1_1, .string a1_2, .slice A1_3 l1_3.length c1_3] 52 (0, 0)) (bk BK235.out) hg (Kd.N_away HO_6.out (fun _ hk => hk.2))); have n3_ := am (Kd.V_afterv (ok := (fun k_ => ((P0_ k_ ∨ P1_3_ k_) ∨ w.heap.size ≤ k_) ∧ k_ ≠ gb235)) (by (with_reducible repeat (first | apply Kd.V_alloc | apply Kd.V_drewN | apply Kd.V_drew)); exact Kd.V_mono HL238_3.out (fun _ hk => ⟨⟨hk.1, hk.2.2⟩, hk.2.1⟩)) hg hat); have n4_ := am (Kd.V_afterv (ok := (fun k_ => ((P0_ k_ ∨ P1_3_ k_) ∨ w.heap.size ≤ k_) ∧ k_ ≠ gb235)) (by (with_reducible repeat (first | apply Kd.V_alloc | apply Kd.V_drewN | apply Kd.V_drew)); exact Kd.V_mono HL239_3.out (fun _ hk => ⟨⟨hk.1, hk.2.2⟩, hk.2.1⟩)) hg hat); have n5_ := am (hb); have n6_ := am (ho); clear HO_0; clear HO_236003; clear BK235; clear HL238_3; clear HL239_3; clear HB; clear HO_6; have HO_0 := n0_; have HO_236003 := n1_; have BK235 := n2_; have HL238_3 := n3_; have HL239_3 := n4_; have HB := n5_; have HO242 := n6_; clear n0_ n1_ n2_ n3_ n4_ n5_ n6_; clear ho hb hg hat)))
           go_roundg k2
           case measure => have := HJ2.out; have := HK2.out; omega
           case rel => exact ⟨(y240), (wrap64 (x7_2 + 1)), rs, H', ⟨by have := HJ2.out; have := HK2.out; omega⟩, ⟨by (with_reducible repeat (first | apply Kd.V_alloc | apply Kd.V_drewN | apply Kd.V_drew)); exact Kd.V_mono HO_0.out (fun _ hk => ⟨hk.1.1, ⟨hk.2, hk.1.2⟩⟩)⟩, ⟨kN HO242.out⟩, ⟨by (with_reducible repeat (first | apply Kd.V_alloc | apply Kd.V_drewN | apply Kd.V_drew)); exact Kd.V_mono HO_236003.out (fun _ hk => ⟨hk.1.1, ⟨hk.2, hk.1.2⟩⟩)⟩, ⟨bk BK235.out⟩, ⟨bws HB.out⟩⟩
          ·
           rw [if_neg c17] at H
           exact absurd H (by simp)
         ·
          have H' := am H
          clear H
          have p238 := pz x7_2
          have q238 := pl x7_2 (l0.length : Int)
          obtain ⟨ad238, A238_3, c238_3, e238, hx238_0, hx238_1, hx238_2, hx238_3, hl238_3, hi238_3⟩ := at_T52 (Kd.V_reads' HO_0.out).2.2 x7_2 (of_eq_true p238) (of_eq_true q238)
          cases e238
          obtain ⟨ce238, hce238, hMe238, hcc238⟩ := Kd.V_get HO_0.out z52 x7_2 (of_eq_true p238) (by first | exact (of_eq_true q238) | exact of_decide_eq_true asm | (have e_ := (Kd.V_reads' HO_0.out).1; omega))
          obtain ⟨ua238_3, uc238_3, rfl, ul238_3, ge238_3⟩ := k52_openF hMe238
          have hv238_3 := hcc238 3 _ rfl
          rw [add_field _ _ 3 (by omega)] at hv238_3
          replace hv238_3 := Option.some.inj (hv238_3.symm.trans hx238_3)
          injection hv238_3 with hva_ hvn_ hvc_
          rw [hva_] at ge238_3
          rw [hvc_] at ul238_3
          have HL238_3 := am (show Kd.V k85 85 _ w.heap.size _ _ ((rd_T52 l0 x7_2).f3) from Kd.V_mk ul238_3 ge238_3)
          clear hva_ hvn_ hvc_ ge238_3 ul238_3
          clear hcc238 hce238
          have HR238_3 := am hi238_3
          have HC238_3 := am hl238_3
          clear hi238_3 hl238_3
          obtain ⟨hcz20_0, hcz20_1, hcz20_2, hcz20_3, hfz20_0, hfz20_1, hfz20_2, hfz20_3⟩ := cz4 BK235.out
          go_wp2
          repeat (go_quiet (fail); try go_wp2)
          go_meet
          case rel => exact ⟨_, (x6_2), H', ⟨by have := HJ2.out; have := HK2.out; first | omega | exact Nat.le_refl _⟩, ⟨kV HO_0.out⟩, ⟨kN HO_6.out⟩, ⟨kV HO_236003.out⟩, ⟨bk BK235.out⟩, ⟨bws HB.out⟩⟩
        ·
         exact absurd H (by simp)
       ·
        (first | rw [c14b0] | (simp only [i64_w, i32_w]; rw [c14b0]) | skip)
        have H' := am H
        clear H
        go_wp2
        repeat (go_quiet (fail); try go_wp2)
        go_meet
        case rel => exact ⟨_, (x6_2), H', ⟨by have := HJ2.out; have := HK2.out; first | omega | exact Nat.le_refl _⟩, ⟨kV HO_0.out⟩, ⟨kN HO_6.out⟩, ⟨kV HO_236003.out⟩, ⟨bk BK235.out⟩, ⟨bws HB.out⟩⟩
    case rest =>
     clear HC13
     try clear c12
     obtain ⟨kq, x6_12, HA, HJ12, HO_0, HO_6, HO_236003, BK235, HB⟩ := hcut
     cases kq with
     | zero => exact absurd HA.out (by simp [stowageref14_Put.j2])
     | succ kj12 =>
      have H := HA.out
      clear HA
      simp only [stowageref14_Put.j2] at H
      by_cases c21 : x6_12.length < 2513169434916
      ·
       rw [if_pos c21] at H
       have LMc21 := am c21
       clear c21
       obtain ⟨y243, hy243⟩ : ∃ y_ : List (S52), y_ = (x6_12 ++ [(⟨a1_0, a1_1, a1_2, l1_3⟩ : S52)]) := ⟨_, rfl⟩
       replace H : (stowageref14_Put.l1 kj12 l0 y243 0 a1_0 a1_1 a1_2 l1_3) = some (r1, r2) := by first | (rw [hy243]; with_reducible exact H) | (have H2_ := (Option.bind_some _ _).symm.trans H; rw [hy243]; with_reducible exact H2_) | (have H2_ := (Option.bind_some _ _).symm.trans H; with_reducible exact H2_) | with_reducible exact H | (rw [hy243]; exact H) | exact H
       have Ny243 := am hy243
       clear hy243
       have H' := am H
       clear H
       obtain ⟨hcz22_0, hcz22_1, hcz22_2, hcz22_3, hfz22_0, hfz22_1, hfz22_2, hfz22_3⟩ := cz4 BK235.out
       go_wp2_with (first | ((with_reducible refine gate_builtin (b := .append) (xs := #[.tmp 40, .tmp 42]) rfl ?_); at_builtin; refine Kd.N_append k52 (w0 := w) w.heap.size rfl (.tmp 40) (.tmp 42) 35 52 (.agg #[(.int .i64 0), (.int .i64 0), (.string ⟨#[]⟩), (.slice none 0 0)]) 56 rfl Tryd.underlying35 info52 rfl (by decide) (by omega) u6 x6_12 (⟨a1_0, a1_1, a1_2, l1_3⟩ : S52) [.int .i64 a1_0, .int .i64 a1_1, .string a1_2, .slice A1_3 l1_3.length c1_3] (fun k_ => ((P0_ k_ ∨ P1_3_ k_) ∨ w.heap.size ≤ k_) ∧ k_ ≠ gb235) (fun k_ => ((fun k_ => ((P0_ k_ ∨ P1_3_ k_) ∨ w.heap.size ≤ k_) ∧ k_ ≠ gb235)) k_ ∧ some k_ ≠ (u6 : Value).ownBlock) rfl rfl ?aP (fun _ hk => hk) ?aF ?aO ?aB ?aS ?aL ?_; (case aP => exact (k52_mkF _ _ (⟨a1_0, a1_1, a1_2, l1_3⟩ : S52) (Kd.V_reads' (Kd.V_mono (ok' := (fun k_ => ((fun k_ => ((P0_ k_ ∨ P1_3_ k_) ∨ w.heap.size ≤ k_) ∧ k_ ≠ gb235)) k_ ∧ some k_ ≠ (u6 : Value).ownBlock)) (HO_236003.out) (fun k_ hk => ⟨⟨hk.1, hk.2.2⟩, hk.2.1⟩))).2.1 (Kd.V_F (Kd.V_mono (ok' := (fun k_ => ((fun k_ => ((P0_ k_ ∨ P1_3_ k_) ∨ w.heap.size ≤ k_) ∧ k_ ≠ gb235)) k_ ∧ some k_ ≠ (u6 : Value).ownBlock)) (HO_236003.out) (fun k_ hk => ⟨⟨hk.1, hk.2.2⟩, hk.2.1⟩))))); (case aB => exact (bws HB.out)); (case aF => exact (fun k_ hk => ⟨(.inr (Nat.le_trans (below_size (bws HB.out)) hk)), Kd.freshB (g := gb235) (o := .cells #[.int .i64 a1_0, .int .i64 a1_1, .string a1_2, .slice A1_3 l1_3.length c1_3] 52 (0, 0)) (bk BK235.out) k_ hk⟩)); (case aO => exact (kN HO_6.out)); (case aS => exact (below_size (bws HB.out))); (case aL => have := LMc21.out; omega); intro v244 w23 ho hb hg hat; rw [← Ny243.out] at ho; have n0_ := am (Kd.V_afterv (ok := (fun k_ => ((P0_ k_ ∨ P1_3_ k_) ∨ w.heap.size ≤ k_) ∧ k_ ≠ gb235)) (by (with_reducible repeat (first | apply Kd.V_alloc | apply Kd.V_drewN | apply Kd.V_drew)); exact Kd.V_mono HO_0.out (fun _ hk => ⟨⟨hk.1, hk.2.2⟩, hk.2.1⟩)) hg hat); have n1_ := am (Kd.V_afterv (ok := (fun k_ => ((P0_ k_ ∨ P1_3_ k_) ∨ w.heap.size ≤ k_) ∧ k_ ≠ gb235)) (by (with_reducible repeat (first | apply Kd.V_alloc | apply Kd.V_drewN | apply Kd.V_drew)); exact Kd.V_mono HO_236003.out (fun _ hk => ⟨⟨hk.1, hk.2.2⟩, hk.2.1⟩)) hg hat); have n2_ := am (blk_grown (g := gb235) (o := .cells #[.int .i64 a1_0, .int .i64 a1_1, .string a1_2, .slice A1_3 l1_3.length c1_3] 52 (0, 0)) (bk BK235.out) hg (Kd.N_away HO_6.out (fun _ hk => hk.2))); have n3_ := am (hb); have n4_ := am (ho); clear HO_0; clear HO_236003; clear BK235; clear HB; clear HO_6; have HO_0 := n0_; have HO_236003 := n1_; have BK235 := n2_; have HB := n3_; have HO245 := n4_; clear n0_ n1_ n2_ n3_ n4_; clear ho hb hg hat))
       repeat (go_quiet (first | ((with_reducible refine gate_builtin (b := .append) (xs := #[.tmp 40, .tmp 42]) rfl ?_); at_builtin; refine Kd.N_append k52 (w0 := w) w.heap.size rfl (.tmp 40) (.tmp 42) 35 52 (.agg #[(.int .i64 0), (.int .i64 0), (.string ⟨#[]⟩), (.slice none 0 0)]) 56 rfl Tryd.underlying35 info52 rfl (by decide) (by omega) u6 x6_12 (⟨a1_0, a1_1, a1_2, l1_3⟩ : S52) [.int .i64 a1_0, .int .i64 a1_1, .string a1_2, .slice A1_3 l1_3.length c1_3] (fun k_ => ((P0_ k_ ∨ P1_3_ k_) ∨ w.heap.size ≤ k_) ∧ k_ ≠ gb235) (fun k_ => ((fun k_ => ((P0_ k_ ∨ P1_3_ k_) ∨ w.heap.size ≤ k_) ∧ k_ ≠ gb235)) k_ ∧ some k_ ≠ (u6 : Value).ownBlock) rfl rfl ?aP (fun _ hk => hk) ?aF ?aO ?aB ?aS ?aL ?_; (case aP => exact (k52_mkF _ _ (⟨a1_0, a1_1, a1_2, l1_3⟩ : S52) (Kd.V_reads' (Kd.V_mono (ok' := (fun k_ => ((fun k_ => ((P0_ k_ ∨ P1_3_ k_) ∨ w.heap.size ≤ k_) ∧ k_ ≠ gb235)) k_ ∧ some k_ ≠ (u6 : Value).ownBlock)) (HO_236003.out) (fun k_ hk => ⟨⟨hk.1, hk.2.2⟩, hk.2.1⟩))).2.1 (Kd.V_F (Kd.V_mono (ok' := (fun k_ => ((fun k_ => ((P0_ k_ ∨ P1_3_ k_) ∨ w.heap.size ≤ k_) ∧ k_ ≠ gb235)) k_ ∧ some k_ ≠ (u6 : Value).ownBlock)) (HO_236003.out) (fun k_ hk => ⟨⟨hk.1, hk.2.2⟩, hk.2.1⟩))))); (case aB => exact (bws HB.out)); (case aF => exact (fun k_ hk => ⟨(.inr (Nat.le_trans (below_size (bws HB.out)) hk)), Kd.freshB (g := gb235) (o := .cells #[.int .i64 a1_0, .int .i64 a1_1, .string a1_2, .slice A1_3 l1_3.length c1_3] 52 (0, 0)) (bk BK235.out) k_ hk⟩)); (case aO => exact (kN HO_6.out)); (case aS => exact (below_size (bws HB.out))); (case aL => have := LMc21.out; omega); intro v244 w23 ho hb hg hat; rw [← Ny243.out] at ho; have n0_ := am (Kd.V_afterv (ok := (fun k_ => ((P0_ k_ ∨ P1_3_ k_) ∨ w.heap.size ≤ k_) ∧ k_ ≠ gb235)) (by (with_reducible repeat (first | apply Kd.V_alloc | apply Kd.V_drewN | apply Kd.V_drew)); exact Kd.V_mono HO_0.out (fun _ hk => ⟨⟨hk.1, hk.2.2⟩, hk.2.1⟩)) hg hat); have n1_ := am (Kd.V_afterv (ok := (fun k_ => ((P0_ k_ ∨ P1_3_ k_) ∨ w.heap.size ≤ k_) ∧ k_ ≠ gb235)) (by (with_reducible repeat (first | apply Kd.V_alloc | apply Kd.V_drewN | apply Kd.V_drew)); exact Kd.V_mono HO_236003.out (fun _ hk => ⟨⟨hk.1, hk.2.2⟩, hk.2.1⟩)) hg hat); have n2_ := am (blk_grown (g := gb235) (o := .cells #[.int .i64 a1_0, .int .i64 a1_1, .string a1_2, .slice A1_3 l1_3.length c1_3] 52 (0, 0)) (bk BK235.out) hg (Kd.N_away HO_6.out (fun _ hk => hk.2))); have n3_ := am (hb); have n4_ := am (ho); clear HO_0; clear HO_236003; clear BK235; clear HB; clear HO_6; have HO_0 := n0_; have HO_236003 := n1_; have BK235 := n2_; have HB := n3_; have HO245 := n4_; clear n0_ n1_ n2_ n3_ n4_; clear ho hb hg hat)); try go_wp2_with (first | ((with_reducible refine gate_builtin (b := .append) (xs := #[.tmp 40, .tmp 42]) rfl ?_); at_builtin; refine Kd.N_append k52 (w0 := w) w.heap.size rfl (.tmp 40) (.tmp 42) 35 52 (.agg #[(.int .i64 0), (.int .i64 0), (.string ⟨#[]⟩), (.slice none 0 0)]) 56 rfl Tryd.underlying35 info52 rfl (by decide) (by omega) u6 x6_12 (⟨a1_0, a1_1, a1_2, l1_3⟩ : S52) [.int .i64 a1_0, .int .i64 a1_1, .string a1_2, .slice A1_3 l1_3.length c1_3] (fun k_ => ((P0_ k_ ∨ P1_3_ k_) ∨ w.heap.size ≤ k_) ∧ k_ ≠ gb235) (fun k_ => ((fun k_ => ((P0_ k_ ∨ P1_3_ k_) ∨ w.heap.size ≤ k_) ∧ k_ ≠ gb235)) k_ ∧ some k_ ≠ (u6 : Value).ownBlock) rfl rfl ?aP (fun _ hk => hk) ?aF ?aO ?aB ?aS ?aL ?_; (case aP => exact (k52_mkF _ _ (⟨a1_0, a1_1, a1_2, l1_3⟩ : S52) (Kd.V_reads' (Kd.V_mono (ok' := (fun k_ => ((fun k_ => ((P0_ k_ ∨ P1_3_ k_) ∨ w.heap.size ≤ k_) ∧ k_ ≠ gb235)) k_ ∧ some k_ ≠ (u6 : Value).ownBlock)) (HO_236003.out) (fun k_ hk => ⟨⟨hk.1, hk.2.2⟩, hk.2.1⟩))).2.1 (Kd.V_F (Kd.V_mono (ok' := (fun k_ => ((fun k_ => ((P0_ k_ ∨ P1_3_ k_) ∨ w.heap.size ≤ k_) ∧ k_ ≠ gb235)) k_ ∧ some k_ ≠ (u6 : Value).ownBlock)) (HO_236003.out) (fun k_ hk => ⟨⟨hk.1, hk.2.2⟩, hk.2.1⟩))))); (case aB => exact (bws HB.out)); (case aF => exact (fun k_ hk => ⟨(.inr (Nat.le_trans (below_size (bws HB.out)) hk)), Kd.freshB (g := gb235) (o := .cells #[.int .i64 a1_0, .int .i64 a1_1, .string a1_2, .slice A1_3 l1_3.length c1_3] 52 (0, 0)) (bk BK235.out) k_ hk⟩)); (case aO => exact (kN HO_6.out)); (case aS => exact (below_size (bws HB.out))); (case aL => have := LMc21.out; omega); intro v244 w23 ho hb hg hat; rw [← Ny243.out] at ho; have n0_ := am (Kd.V_afterv (ok := (fun k_ => ((P0_ k_ ∨ P1_3_ k_) ∨ w.heap.size ≤ k_) ∧ k_ ≠ gb235)) (by (with_reducible repeat (first | apply Kd.V_alloc | apply Kd.V_drewN | apply Kd.V_drew)); exact Kd.V_mono HO_0.out (fun _ hk => ⟨⟨hk.1, hk.2.2⟩, hk.2.1⟩)) hg hat); have n1_ := am (Kd.V_afterv (ok := (fun k_ => ((P0_ k_ ∨ P1_3_ k_) ∨ w.heap.size ≤ k_) ∧ k_ ≠ gb235)) (by (with_reducible repeat (first | apply Kd.V_alloc | apply Kd.V_drewN | apply Kd.V_drew)); exact Kd.V_mono HO_236003.out (fun _ hk => ⟨⟨hk.1, hk.2.2⟩, hk.2.1⟩)) hg hat); have n2_ := am (blk_grown (g := gb235) (o := .cells #[.int .i64 a1_0, .int .i64 a1_1, .string a1_2, .slice A1_3 l1_3.length c1_3] 52 (0, 0)) (bk BK235.out) hg (Kd.N_away HO_6.out (fun _ hk => hk.2))); have n3_ := am (hb); have n4_ := am (ho); clear HO_0; clear HO_236003; clear BK235; clear HB; clear HO_6; have HO_0 := n0_; have HO_236003 := n1_; have BK235 := n2_; have HB := n3_; have HO245 := n4_; clear n0_ n1_ n2_ n3_ n4_; clear ho hb hg hat)))
       go_loopg [6, 8] kj12 (fun kq v6 v8 w' => ∃ (x6_3 : List (S52)) (x8_3 : Int), v8 = .int .i64 x8_3 ∧ Aside0 (stowageref14_Put.l1 kq l0 x6_3 x8_3 a1_0 a1_1 a1_2 l1_3 = some (r1, r2)) ∧ Aside0 (kq ≤ kj12) ∧ Aside0 (Kd.V k52 52 w' w.heap.size (fun k_ => ((P0_ k_ ∨ P1_3_ k_) ∨ w.heap.size ≤ k_) ∧ some k_ ≠ (v6 : Value).ownBlock ∧ k_ ≠ gb235) (.slice A0 l0.length c0) l0) ∧ Aside0 (Kd.N k52 52 w' w.heap.size (fun k_ => ((P0_ k_ ∨ P1_3_ k_) ∨ w.heap.size ≤ k_) ∧ k_ ≠ gb235) v6 x6_3) ∧ Aside0 (Kd.V k85 85 w' w.heap.size (fun k_ => ((P0_ k_ ∨ P1_3_ k_) ∨ w.heap.size ≤ k_) ∧ some k_ ≠ (v6 : Value).ownBlock ∧ k_ ≠ gb235) (.slice A1_3 l1_3.length c1_3) l1_3) ∧ Aside0 (w'.heap[gb235]? = some (.cells #[.int .i64 a1_0, .int .i64 a1_1, .string a1_2, (.slice A1_3 l1_3.length c1_3)] 52 (0, 0))) ∧ Aside0 (Below w.heap.size w w'))
       case atStart => exact ⟨(y243), (0), rs, H', ⟨Nat.le_refl _⟩, ⟨by (with_reducible repeat (first | apply Kd.V_alloc | apply Kd.V_drewN | apply Kd.V_drew)); exact Kd.V_mono HO_0.out (fun _ hk => ⟨hk.1.1, ⟨hk.2, hk.1.2⟩⟩)⟩, ⟨kN HO245.out⟩, ⟨by (with_reducible repeat (first | apply Kd.V_alloc | apply Kd.V_drewN | apply Kd.V_drew)); exact Kd.V_mono HO_236003.out (fun _ hk => ⟨hk.1.1, ⟨hk.2, hk.1.2⟩⟩)⟩, ⟨bk BK235.out⟩, ⟨bws HB.out⟩⟩
       case round =>
        clear H'
        try clear c12
        try clear c21
        try clear hcz22_0 hcz22_1 hcz22_2 hcz22_3 hfz22_0 hfz22_1 hfz22_2 hfz22_3
        obtain ⟨x6_3, x8_3, rfl, HA, HK3, HO_0, HO_6, HO_236003, BK235, HB⟩ := hrel
        cases gk with
        | zero => exact absurd HA.out (by simp [stowageref14_Put.l1])
        | succ k3 =>
         have H := HA.out
         clear HA
         simp only [stowageref14_Put.l1] at H
         replace H := iteD H
         rcases H with ⟨c24b0, H⟩ | ⟨c24b0, H⟩
         ·
          replace H := iteD H
          rcases H with ⟨c25b0, H⟩ | ⟨_, H⟩
          ·
           replace H := iteD H
           rcases H with ⟨c26b0, H⟩ | ⟨c26b0, H⟩
           ·
            by_cases c27 : x6_3.length < 2513169434916
            ·
             rw [if_pos c27] at H
             have LMc27 := am c27
             clear c27
             obtain ⟨y248, hy248⟩ : ∃ y_ : List (S52), y_ = (x6_3 ++ [(⟨(rd_T52 l0 x8_3).f0, (rd_T52 l0 x8_3).f1, (rd_T52 l0 x8_3).f2, (rd_T52 l0 x8_3).f3⟩ : S52)]) := ⟨_, rfl⟩
             replace H : (stowageref14_Put.l1 k3 l0 y248 (wrap64 (x8_3 + 1)) a1_0 a1_1 a1_2 l1_3) = some (r1, r2) := by first | (rw [hy248]; with_reducible exact H) | (have H2_ := (Option.bind_some _ _).symm.trans H; rw [hy248]; with_reducible exact H2_) | (have H2_ := (Option.bind_some _ _).symm.trans H; with_reducible exact H2_) | with_reducible exact H | (rw [hy248]; exact H) | exact H
             have Ny248 := am hy248
             clear hy248
             have H' := am H
             clear H
             have p246 := pz x8_3
             have q246 := pl x8_3 (l0.length : Int)
             obtain ⟨ad246, A246_3, c246_3, e246, hx246_0, hx246_1, hx246_2, hx246_3, hl246_3, hi246_3⟩ := at_T52 (Kd.V_reads' HO_0.out).2.2 x8_3 (of_eq_true p246) (of_eq_true q246)
             cases e246
             obtain ⟨ce246, hce246, hMe246, hcc246⟩ := Kd.V_get HO_0.out z52 x8_3 (of_eq_true p246) (by first | exact (of_eq_true q246) | exact of_decide_eq_true asm | (have e_ := (Kd.V_reads' HO_0.out).1; omega))
             obtain ⟨ua246_3, uc246_3, rfl, ul246_3, ge246_3⟩ := k52_openF hMe246
             have hv246_3 := hcc246 3 _ rfl
             rw [add_field _ _ 3 (by omega)] at hv246_3
             replace hv246_3 := Option.some.inj (hv246_3.symm.trans hx246_3)
             injection hv246_3 with hva_ hvn_ hvc_
             rw [hva_] at ge246_3
             rw [hvc_] at ul246_3
             have HL246_3 := am (show Kd.V k85 85 _ w.heap.size _ _ ((rd_T52 l0 x8_3).f3) from Kd.V_mk ul246_3 ge246_3)
             clear hva_ hvn_ hvc_ ge246_3 ul246_3
             clear hcc246 hce246
             have HR246_3 := am hi246_3
             have HC246_3 := am hl246_3
             clear hi246_3 hl246_3
             obtain ⟨hcz28_0, hcz28_1, hcz28_2, hcz28_3, hfz28_0, hfz28_1, hfz28_2, hfz28_3⟩ := cz4 BK235.out
             have p247 := pz x8_3
             have q247 := pl x8_3 (l0.length : Int)
             obtain ⟨ad247, A247_3, c247_3, e247, hx247_0, hx247_1, hx247_2, hx247_3, hl247_3, hi247_3⟩ := at_T52 (Kd.V_reads' HO_0.out).2.2 x8_3 (of_eq_true p247) (of_eq_true q247)
             obtain rfl : ad246 = ad247 := (by injection e247)
             obtain ⟨ce247, hce247, hMe247, hcc247⟩ := Kd.V_get HO_0.out z52 x8_3 (of_eq_true p247) (by first | exact (of_eq_true q247) | exact of_decide_eq_true asm | (have e_ := (Kd.V_reads' HO_0.out).1; omega))
             obtain ⟨ua247_3, uc247_3, rfl, ul247_3, ge247_3⟩ := k52_openF hMe247
             have hv247_3 := hcc247 3 _ rfl
             rw [add_field _ _ 3 (by omega)] at hv247_3
             replace hv247_3 := Option.some.inj (hv247_3.symm.trans hx247_3)
             injection hv247_3 with hva_ hvn_ hvc_
             rw [hva_] at ge247_3
             rw [hvc_] at ul247_3
             have HL247_3 := am (show Kd.V k85 85 _ w.heap.size _ _ ((rd_T52 l0 x8_3).f3) from Kd.V_mk ul247_3 ge247_3)
             clear hva_ hvn_ hvc_ ge247_3 ul247_3
             clear hcc247 hce247
             have HR247_3 := am hi247_3
             have HC247_3 := am hl247_3
             clear hi247_3 hl247_3
             have ea_ := Option.some.inj (hx246_3.symm.trans hx247_3)
             injection ea_ with ea_ en_ ec_
             subst ea_
             subst ec_
             clear en_
             go_wp2_with (first | ((with_reducible refine gate_builtin (b := .append) (xs := #[.tmp 58, .tmp 63]) rfl ?_); at_builtin; refine Kd.N_append k52 (w0 := w) w.heap.size rfl (.tmp 58) (.tmp 63) 35 52 (.agg #[(.int .i64 0), (.int .i64 0), (.string ⟨#[]⟩), (.slice none 0 0)]) 56 rfl Tryd.underlying35 info52 rfl (by decide) (by omega) u6 x6_3 (⟨(rd_T52 l0 x8_3).f0, (rd_T52 l0 x8_3).f1, (rd_T52 l0 x8_3).f2, (rd_T52 l0 x8_3).f3⟩ : S52) [.int .i64 ((rd_T52 l0 x8_3).f0), .int .i64 ((rd_T52 l0 x8_3).f1), .string ((rd_T52 l0 x8_3).f2), .slice A246_3 ((rd_T52 l0 x8_3).f3).length c246_3] (fun k_ => ((P0_ k_ ∨ P1_3_ k_) ∨ w.heap.size ≤ k_) ∧ k_ ≠ gb235) (fun k_ => ((fun k_ => ((P0_ k_ ∨ P1_3_ k_) ∨ w.heap.size ≤ k_) ∧ k_ ≠ gb235)) k_ ∧ some k_ ≠ (u6 : Value).ownBlock) rfl rfl ?aP (fun _ hk => hk) ?aF ?aO ?aB ?aS ?aL ?_; (case aP => first | exact (k52_mkF _ _ (⟨(rd_T52 l0 x8_3).f0, (rd_T52 l0 x8_3).f1, (rd_T52 l0 x8_3).f2, (rd_T52 l0 x8_3).f3⟩ : S52) (Kd.V_reads' (Kd.V_mono (ok' := (fun k_ => ((fun k_ => ((P0_ k_ ∨ P1_3_ k_) ∨ w.heap.size ≤ k_) ∧ k_ ≠ gb235)) k_ ∧ some k_ ≠ (u6 : Value).ownBlock)) (HL247_3.out) (fun k_ hk => ⟨⟨hk.1, hk.2.2⟩, hk.2.1⟩))).2.1 (Kd.V_F (Kd.V_mono (ok' := (fun k_ => ((fun k_ => ((P0_ k_ ∨ P1_3_ k_) ∨ w.heap.size ≤ k_) ∧ k_ ≠ gb235)) k_ ∧ some k_ ≠ (u6 : Value).ownBlock)) (HL247_3.out) (fun k_ hk => ⟨⟨hk.1, hk.2.2⟩, hk.2.1⟩)))) | exact (k52_mkF _ _ (⟨(rd_T52 l0 x8_3).f0, (rd_T52 l0 x8_3).f1, (rd_T52 l0 x8_3).f2, (rd_T52 l0 x8_3).f3⟩ : S52) (Kd.V_reads' (Kd.V_mono (ok' := (fun k_ => ((fun k_ => ((P0_ k_ ∨ P1_3_ k_) ∨ w.heap.size ≤ k_) ∧ k_ ≠ gb235)) k_ ∧ some k_ ≠ (u6 : Value).ownBlock)) (HL247_3.out) (fun k_ hk => ⟨⟨hk.1, hk.2.2⟩, hk.2.1⟩))).2.1 (Kd.V_F (Kd.V_mono (ok' := (fun k_ => ((fun k_ => ((P0_ k_ ∨ P1_3_ k_) ∨ w.heap.size ≤ k_) ∧ k_ ≠ gb235)) k_ ∧ some k_ ≠ (u6 : Value).ownBlock)) (Kd.V_drewN (HL247_3.out) _) (fun k_ hk => ⟨⟨hk.1, hk.2.2⟩, hk.2.1⟩))))); (case aB => exact (bws HB.out)); (case aF => exact (fun k_ hk => ⟨(.inr (Nat.le_trans (below_size (bws HB.out)) hk)), Kd.freshB (g := gb235) (o := .cells #[.int .i64 a1_0, .int .i64 a1_1, .string a1_2, .slice A1_3 l1_3.length c1_3] 52 (0, 0)) (bk BK235.out) k_ hk⟩)); (case aO => exact (kN HO_6.out)); (case aS => exact (below_size (bws HB.out))); (case aL => have := LMc27.out; omega); intro v249 w29 ho hb hg hat; rw [← Ny248.out] at ho; have n0_ := am (Kd.V_afterv (ok := (fun k_ => ((P0_ k_ ∨ P1_3_ k_) ∨ w.heap.size ≤ k_) ∧ k_ ≠ gb235)) (by (with_reducible repeat (first | apply Kd.V_alloc | apply Kd.V_drewN | apply Kd.V_drew)); exact Kd.V_mono HO_0.out (fun _ hk => ⟨⟨hk.1, hk.2.2⟩, hk.2.1⟩)) hg hat); have n1_ := am (Kd.V_afterv (ok := (fun k_ => ((P0_ k_ ∨ P1_3_ k_) ∨ w.heap.size ≤ k_) ∧ k_ ≠ gb235)) (by (with_reducible repeat (first | apply Kd.V_alloc | apply Kd.V_drewN | apply Kd.V_drew)); exact Kd.V_mono HO_236003.out (fun _ hk => ⟨⟨hk.1, hk.2.2⟩, hk.2.1⟩)) hg hat); have n2_ := am (blk_grown (g := gb235) (o := .cells #[.int .i64 a1_0, .int .i64 a1_1, .string a1_2, .slice A1_3 l1_3.length c1_3] 52 (0, 0)) (bk BK235.out) hg (Kd.N_away HO_6.out (fun _ hk => hk.2))); have n3_ := am (Kd.V_afterv (ok := (fun k_ => ((P0_ k_ ∨ P1_3_ k_) ∨ w.heap.size ≤ k_) ∧ k_ ≠ gb235)) (by (with_reducible repeat (first | apply Kd.V_alloc | apply Kd.V_drewN | apply Kd.V_drew)); exact Kd.V_mono HL246_3.out (fun _ hk => ⟨⟨hk.1, hk.2.2⟩, hk.2.1⟩)) hg hat); have n4_ := am (Kd.V_afterv (ok := (fun k_ => ((P0_ k_ ∨ P1_3_ k_) ∨ w.heap.size ≤ k_) ∧ k_ ≠ gb235)) (by (with_reducible repeat (first | apply Kd.V_alloc | apply Kd.V_drewN | apply Kd.V_drew)); exact Kd.V_mono HL247_3.out (fun _ hk => ⟨⟨hk.1, hk.2.2⟩, hk.2.1⟩)) hg hat); have n5_ := am (hb); have n6_ := am (ho); clear HO_0; clear HO_236003; clear BK235; clear HL246_3; clear HL247_3; clear HB; clear HO_6; have HO_0 := n0_; have HO_236003 := n1_; have BK235 := n2_; have HL246_3 := n3_; have HL247_3 := n4_; have HB := n5_; have HO250 := n6_; clear n0_ n1_ n2_ n3_ n4_ n5_ n6_; clear ho hb hg hat))
             repeat (go_quiet (first | ((with_reducible refine gate_builtin (b := .append) (xs := #[.tmp 58, .tmp 63]) rfl ?_); at_builtin; refine Kd.N_append k52 (w0 := w) w.heap.size rfl (.tmp 58) (.tmp 63) 35 52 (.agg #[(.int .i64 0), (.int .i64 0), (.string ⟨#[]⟩), (.slice none 0 0)]) 56 rfl Tryd.underlying35 info52 rfl (by decide) (by omega) u6 x6_3 (⟨(rd_T52 l0 x8_3).f0, (rd_T52 l0 x8_3).f1, (rd_T52 l0 x8_3).f2, (rd_T52 l0 x8_3).f3⟩ : S52) [.int .i64 ((rd_T52 l0 x8_3).f0), .int .i64 ((rd_T52 l0 x8_3).f1), .string ((rd_T52 l0 x8_3).f2), .slice A246_3 ((rd_T52 l0 x8_3).f3).length c246_3] (fun k_ => ((P0_ k_ ∨ P1_3_ k_) ∨ w.heap.size ≤ k_) ∧ k_ ≠ gb235) (fun k_ => ((fun k_ => ((P0_ k_ ∨ P1_3_ k_) ∨ w.heap.size ≤ k_) ∧ k_ ≠ gb235)) k_ ∧ some k_ ≠ (u6 : Value).ownBlock) rfl rfl ?aP (fun _ hk => hk) ?aF ?aO ?aB ?aS ?aL ?_; (case aP => first | exact (k52_mkF _ _ (⟨(rd_T52 l0 x8_3).f0, (rd_T52 l0 x8_3).f1, (rd_T52 l0 x8_3).f2, (rd_T52 l0 x8_3).f3⟩ : S52) (Kd.V_reads' (Kd.V_mono (ok' := (fun k_ => ((fun k_ => ((P0_ k_ ∨ P1_3_ k_) ∨ w.heap.size ≤ k_) ∧ k_ ≠ gb235)) k_ ∧ some k_ ≠ (u6 : Value).ownBlock)) (HL247_3.out) (fun k_ hk => ⟨⟨hk.1, hk.2.2⟩, hk.2.1⟩))).2.1 (Kd.V_F (Kd.V_mono (ok' := (fun k_ => ((fun k_ => ((P0_ k_ ∨ P1_3_ k_) ∨ w.heap.size ≤ k_) ∧ k_ ≠ gb235)) k_ ∧ some k_ ≠ (u6 : Value).ownBlock)) (HL247_3.out) (fun k_ hk => ⟨⟨hk.1, hk.2.2⟩, hk.2.1⟩)))) | exact (k52_mkF _ _ (⟨(rd_T52 l0 x8_3).f0, (rd_T52 l0 x8_3).f1, (rd_T52 l0 x8_3).f2, (rd_T52 l0 x8_3).f3⟩ : S52) (Kd.V_reads' (Kd.V_mono (ok' := (fun k_ => ((fun k_ => ((P0_ k_ ∨ P1_3_ k_) ∨ w.heap.size ≤ k_) ∧ k_ ≠ gb235)) k_ ∧ some k_ ≠ (u6 : Value).ownBlock)) (HL247_3.out) (fun k_ hk => ⟨⟨hk.1, hk.2.2⟩, hk.2.1⟩))).2.1 (Kd.V_F (Kd.V_mono (ok' := (fun k_ => ((fun k_ => ((P0_ k_ ∨ P1_3_ k_) ∨ w.heap.size ≤ k_) ∧ k_ ≠ gb235)) k_ ∧ some k_ ≠ (u6 : Value).ownBlock)) (Kd.V_drewN (HL247_3.out) _) (fun k_ hk => ⟨⟨hk.1, hk.2.2⟩, hk.2.1⟩))))); (case aB => exact (bws HB.out)); (case aF => exact (fun k_ hk => ⟨(.inr (Nat.le_trans (below_size (bws HB.out)) hk)), Kd.freshB (g := gb235) (o := .cells #[.int .i64 a1_0, .int .i64 a1_1, .string a1_2, .slice A1_3 l1_3.length c1_3] 52 (0, 0)) (bk BK235.out) k_ hk⟩)); (case aO => exact (kN HO_6.out)); (case aS => exact (below_size (bws HB.out))); (case aL => have := LMc27.out; omega); intro v249 w29 ho hb hg hat; rw [← Ny248.out] at ho; have n0_ := am (Kd.V_afterv (ok := (fun k_ => ((P0_ k_ ∨ P1_3_ k_) ∨ w.heap.size ≤ k_) ∧ k_ ≠ gb235)) (by (with_reducible repeat (first | apply Kd.V_alloc | apply Kd.V_drewN | apply Kd.V_drew)); exact Kd.V_mono HO_0.out (fun _ hk => ⟨⟨hk.1, hk.2.2⟩, hk.2.1⟩)) hg hat); have n1_ := am (Kd.V_afterv (ok := (fun k_ => ((P0_ k_ ∨ P1_3_ k_) ∨ w.heap.size ≤ k_) ∧ k_ ≠ gb235)) (by (with_reducible repeat (first | apply Kd.V_alloc | apply Kd.V_drewN | apply Kd.V_drew)); exact Kd.V_mono HO_236003.out (fun _ hk => ⟨⟨hk.1, hk.2.2⟩, hk.2.1⟩)) hg hat); have n2_ := am (blk_grown (g := gb235) (o := .cells #[.int .i64 a1_0, .int .i64 a1_1, .string a1_2, .slice A1_3 l1_3.length c1_3] 52 (0, 0)) (bk BK235.out) hg (Kd.N_away HO_6.out (fun _ hk => hk.2))); have n3_ := am (Kd.V_afterv (ok := (fun k_ => ((P0_ k_ ∨ P1_3_ k_) ∨ w.heap.size ≤ k_) ∧ k_ ≠ gb235)) (by (with_reducible repeat (first | apply Kd.V_alloc | apply Kd.V_drewN | apply Kd.V_drew)); exact Kd.V_mono HL246_3.out (fun _ hk => ⟨⟨hk.1, hk.2.2⟩, hk.2.1⟩)) hg hat); have n4_ := am (Kd.V_afterv (ok := (fun k_ => ((P0_ k_ ∨ P1_3_ k_) ∨ w.heap.size ≤ k_) ∧ k_ ≠ gb235)) (by (with_reducible repeat (first | apply Kd.V_alloc | apply Kd.V_drewN | apply Kd.V_drew)); exact Kd.V_mono HL247_3.out (fun _ hk => ⟨⟨hk.1, hk.2.2⟩, hk.2.1⟩)) hg hat); have n5_ := am (hb); have n6_ := am (ho); clear HO_0; clear HO_236003; clear BK235; clear HL246_3; clear HL247_3; clear HB; clear HO_6; have HO_0 := n0_; have HO_236003 := n1_; have BK235 := n2_; have HL246_3 := n3_; have HL247_3 := n4_; have HB := n5_; have HO250 := n6_; clear n0_ n1_ n2_ n3_ n4_ n5_ n6_; clear ho hb hg hat)); try go_wp2_with (first | ((with_reducible refine gate_builtin (b := .append) (xs := #[.tmp 58, .tmp 63]) rfl ?_); at_builtin; refine Kd.N_append k52 (w0 := w) w.heap.size rfl (.tmp 58) (.tmp 63) 35 52 (.agg #[(.int .i64 0), (.int .i64 0), (.string ⟨#[]⟩), (.slice none 0 0)]) 56 rfl Tryd.underlying35 info52 rfl (by decide) (by omega) u6 x6_3 (⟨(rd_T52 l0 x8_3).f0, (rd_T52 l0 x8_3).f1, (rd_T52 l0 x8_3).f2, (rd_T52 l0 x8_3).f3⟩ : S52) [.int .i64 ((rd_T52 l0 x8_3).f0), .int .i64 ((rd_T52 l0 x8_3).f1), .string ((rd_T52 l0 x8_3).f2), .slice A246_3 ((rd_T52 l0 x8_3).f3).length c246_3] (fun k_ => ((P0_ k_ ∨ P1_3_ k_) ∨ w.heap.size ≤ k_) ∧ k_ ≠ gb235) (fun k_ => ((fun k_ => ((P0_ k_ ∨ P1_3_ k_) ∨ w.heap.size ≤ k_) ∧ k_ ≠ gb235)) k_ ∧ some k_ ≠ (u6 : Value).ownBlock) rfl rfl ?aP (fun _ hk => hk) ?aF ?aO ?aB ?aS ?aL ?_; (case aP => first | exact (k52_mkF _ _ (⟨(rd_T52 l0 x8_3).f0, (rd_T52 l0 x8_3).f1, (rd_T52 l0 x8_3).f2, (rd_T52 l0 x8_3).f3⟩ : S52) (Kd.V_reads' (Kd.V_mono (ok' := (fun k_ => ((fun k_ => ((P0_ k_ ∨ P1_3_ k_) ∨ w.heap.size ≤ k_) ∧ k_ ≠ gb235)) k_ ∧ some k_ ≠ (u6 : Value).ownBlock)) (HL247_3.out) (fun k_ hk => ⟨⟨hk.1, hk.2.2⟩, hk.2.1⟩))).2.1 (Kd.V_F (Kd.V_mono (ok' := (fun k_ => ((fun k_ => ((P0_ k_ ∨ P1_3_ k_) ∨ w.heap.size ≤ k_) ∧ k_ ≠ gb235)) k_ ∧ some k_ ≠ (u6 : Value).ownBlock)) (HL247_3.out) (fun k_ hk => ⟨⟨hk.1, hk.2.2⟩, hk.2.1⟩)))) | exact (k52_mkF _ _ (⟨(rd_T52 l0 x8_3).f0, (rd_T52 l0 x8_3).f1, (rd_T52 l0 x8_3).f2, (rd_T52 l0 x8_3).f3⟩ : S52) (Kd.V_reads' (Kd.V_mono (ok' := (fun k_ => ((fun k_ => ((P0_ k_ ∨ P1_3_ k_) ∨ w.heap.size ≤ k_) ∧ k_ ≠ gb235)) k_ ∧ some k_ ≠ (u6 : Value).ownBlock)) (HL247_3.out) (fun k_ hk => ⟨⟨hk.1, hk.2.2⟩, hk.2.1⟩))).2.1 (Kd.V_F (Kd.V_mono (ok' := (fun k_ => ((fun k_ => ((P0_ k_ ∨ P1_3_ k_) ∨ w.heap.size ≤ k_) ∧ k_ ≠ gb235)) k_ ∧ some k_ ≠ (u6 : Value).ownBlock)) (Kd.V_drewN (HL247_3.out) _) (fun k_ hk => ⟨⟨hk.1, hk.2.2⟩, hk.2.1⟩))))); (case aB => exact (bws HB.out)); (case aF => exact (fun k_ hk => ⟨(.inr (Nat.le_trans (below_size (bws HB.out)) hk)), Kd.freshB (g := gb235) (o := .cells #[.int .i64 a1_0, .int .i64 a1_1, .string a1_2, .slice A1_3 l1_3.length c1_3] 52 (0, 0)) (bk BK235.out) k_ hk⟩)); (case aO => exact (kN HO_6.out)); (case aS => exact (below_size (bws HB.out))); (case aL => have := LMc27.out; omega); intro v249 w29 ho hb hg hat; rw [← Ny248.out] at ho; have n0_ := am (Kd.V_afterv (ok := (fun k_ => ((P0_ k_ ∨ P1_3_ k_) ∨ w.heap.size ≤ k_) ∧ k_ ≠ gb235)) (by (with_reducible repeat (first | apply Kd.V_alloc | apply Kd.V_drewN | apply Kd.V_drew)); exact Kd.V_mono HO_0.out (fun _ hk => ⟨⟨hk.1, hk.2.2⟩, hk.2.1⟩)) hg hat); have n1_ := am (Kd.V_afterv (ok := (fun k_ => ((P0_ k_ ∨ P1_3_ k_) ∨ w.heap.size ≤ k_) ∧ k_ ≠ gb235)) (by (with_reducible repeat (first | apply Kd.V_alloc | apply Kd.V_drewN | apply Kd.V_drew)); exact Kd.V_mono HO_236003.out (fun _ hk => ⟨⟨hk.1, hk.2.2⟩, hk.2.1⟩)) hg hat); have n2_ := am (blk_grown (g := gb235) (o := .cells #[.int .i64 a1_0, .int .i64 a1_1, .string a1_2, .slice A1_3 l1_3.length c1_3] 52 (0, 0)) (bk BK235.out) hg (Kd.N_away HO_6.out (fun _ hk => hk.2))); have n3_ := am (Kd.V_afterv (ok := (fun k_ => ((P0_ k_ ∨ P1_3_ k_) ∨ w.heap.size ≤ k_) ∧ k_ ≠ gb235)) (by (with_reducible repeat (first | apply Kd.V_alloc | apply Kd.V_drewN | apply Kd.V_drew)); exact Kd.V_mono HL246_3.out (fun _ hk => ⟨⟨hk.1, hk.2.2⟩, hk.2.1⟩)) hg hat); have n4_ := am (Kd.V_afterv (ok := (fun k_ => ((P0_ k_ ∨ P1_3_ k_) ∨ w.heap.size ≤ k_) ∧ k_ ≠ gb235)) (by (with_reducible repeat (first | apply Kd.V_alloc | apply Kd.V_drewN | apply Kd.V_drew)); exact Kd.V_mono HL247_3.out (fun _ hk => ⟨⟨hk.1, hk.2.2⟩, hk.2.1⟩)) hg hat); have n5_ := am (hb); have n6_ := am (ho); clear HO_0; clear HO_236003; clear BK235; clear HL246_3; clear HL247_3; clear HB; clear HO_6; have HO_0 := n0_; have HO_236003 := n1_; have BK235 := n2_; have HL246_3 := n3_; have HL247_3 := n4_; have HB := n5_; have HO250 := n6_; clear n0_ n1_ n2_ n3_ n4_ n5_ n6_; clear ho hb hg hat)))
             go_roundg k3
             case measure => have := HJ2.out; have := HJ12.out; have := HK3.out; omega
             case rel => exact ⟨(y248), (wrap64 (x8_3 + 1)), rs, H', ⟨by have := HJ2.out; have := HJ12.out; have := HK3.out; omega⟩, ⟨by (with_reducible repeat (first | apply Kd.V_alloc | apply Kd.V_drewN | apply Kd.V_drew)); exact Kd.V_mono HO_0.out (fun _ hk => ⟨hk.1.1, ⟨hk.2, hk.1.2⟩⟩)⟩, ⟨kN HO250.out⟩, ⟨by (with_reducible repeat (first | apply Kd.V_alloc | apply Kd.V_drewN | apply Kd.V_drew)); exact Kd.V_mono HO_236003.out (fun _ hk => ⟨hk.1.1, ⟨hk.2, hk.1.2⟩⟩)⟩, ⟨bk BK235.out⟩, ⟨bws HB.out⟩⟩
            ·
             rw [if_neg c27] at H
             exact absurd H (by simp)
           ·
            have H' := am H
            clear H
            have p246 := pz x8_3
            have q246 := pl x8_3 (l0.length : Int)
            obtain ⟨ad246, A246_3, c246_3, e246, hx246_0, hx246_1, hx246_2, hx246_3, hl246_3, hi246_3⟩ := at_T52 (Kd.V_reads' HO_0.out).2.2 x8_3 (of_eq_true p246) (of_eq_true q246)
            cases e246
            obtain ⟨ce246, hce246, hMe246, hcc246⟩ := Kd.V_get HO_0.out z52 x8_3 (of_eq_true p246) (by first | exact (of_eq_true q246) | exact of_decide_eq_true asm | (have e_ := (Kd.V_reads' HO_0.out).1; omega))
            obtain ⟨ua246_3, uc246_3, rfl, ul246_3, ge246_3⟩ := k52_openF hMe246
            have hv246_3 := hcc246 3 _ rfl
            rw [add_field _ _ 3 (by omega)] at hv246_3
            replace hv246_3 := Option.some.inj (hv246_3.symm.trans hx246_3)
            injection hv246_3 with hva_ hvn_ hvc_
            rw [hva_] at ge246_3
            rw [hvc_] at ul246_3
            have HL246_3 := am (show Kd.V k85 85 _ w.heap.size _ _ ((rd_T52 l0 x8_3).f3) from Kd.V_mk ul246_3 ge246_3)
            clear hva_ hvn_ hvc_ ge246_3 ul246_3
            clear hcc246 hce246
            have HR246_3 := am hi246_3
            have HC246_3 := am hl246_3
            clear hi246_3 hl246_3
            obtain ⟨hcz30_0, hcz30_1, hcz30_2, hcz30_3, hfz30_0, hfz30_1, hfz30_2, hfz30_3⟩ := cz4 BK235.out
            go_wp2
            repeat (go_quiet (fail); try go_wp2)
            go_roundg k3
            case measure => have := HJ2.out; have := HJ12.out; have := HK3.out; omega
            case rel => exact ⟨(x6_3), (wrap64 (x8_3 + 1)), rs, H', ⟨by have := HJ2.out; have := HJ12.out; have := HK3.out; omega⟩, ⟨kV HO_0.out⟩, ⟨kN HO_6.out⟩, ⟨kV HO_236003.out⟩, ⟨bk BK235.out⟩, ⟨bws HB.out⟩⟩
          ·
           exact absurd H (by simp)
         ·
          simp only [Option.some.injEq, Prod.mk.injEq] at H
          obtain ⟨rfl, rfl⟩ := H
          go_wp2
          repeat (go_quiet (fail); try go_wp2)
          go_ret2
          exact ⟨_, rf, by (with_reducible repeat (first | apply Kd.N_alloc | apply Kd.N_drewN | apply Kd.N_drew)); exact Kd.N_mono HO_6.out (fun _ hk => hk.1), bws HB.out⟩
      ·
       rw [if_neg c21] at H
       exact absurd H (by simp)
def stowagelaw01_Same.l0 : Nat → List ByteArray → List ByteArray → Int → Option (Bool)
 | 0, _, _, _ => none
 | k + 1, x0, x1, x5 => if x5 < (x0.length : Int) then (if 0 ≤ x5 then (if x5 < (x1.length : Int) then (if (rdOf ByteArray.empty x0 x5).toList = (rdOf ByteArray.empty x1 x5).toList then (stowagelaw01_Same.l0 k x0 x1 (wrap64 (x5 + 1))) else (some false)) else (none)) else (none)) else (some true)
def stowagelaw01_Same.f (k : Nat) (l0 : List ByteArray) (l1 : List ByteArray) : Option (Bool) := if (l0.length : Int) = (l1.length : Int) then (stowagelaw01_Same.l0 k l0 l1 0) else (some false)
theorem stowagelaw01_Same.mono_l : ∀ k, (∀ y0 y1 y2, LeO (stowagelaw01_Same.l0 k y0 y1 y2) (stowagelaw01_Same.l0 (k + 1) y0 y1 y2))
 | 0 => fun _ _ _ r h => by simp [stowagelaw01_Same.l0] at h
 | k + 1 => by
  have ih0 := stowagelaw01_Same.mono_l k
  ·
   intro y0 y1 y2
   unfold stowagelaw01_Same.l0
   repeat' (with_reducible first | exact ih0 _ _ _ | exact LeO.refl _ | exact LeO.none _ | refine LeO.ite ?_ ?_ | refine LeO.bind ?_ (fun _ => ?_))
theorem stowagelaw01_Same.mono : ∀ a0 a1 k, LeO (stowagelaw01_Same.f k a0 a1) (stowagelaw01_Same.f (k + 1) a0 a1) := by
 intro a0 a1 k
 have ih0 := stowagelaw01_Same.mono_l k
 unfold stowagelaw01_Same.f
 repeat' (with_reducible first | exact ih0 _ _ _ | exact LeO.refl _ | exact LeO.none _ | refine LeO.ite ?_ ?_ | refine LeO.bind ?_ (fun _ => ?_))
set_option maxHeartbeats 8000000 in
set_option maxRecDepth 100000 in
theorem stowagelaw01_Same.calls (k : Nat) (A0 : Option Addr) (c0 : Nat) (l0 : List ByteArray) (A1 : Option Addr) (c1 : Nat) (l1 : List ByteArray) (r : Bool) (w : World) (hr0 : Kd.C Kd.string w A0 l0.length l0) (hc0 : l0.length ≤ c0) (hr1 : Kd.C Kd.string w A1 l1.length l1) (hc1 : l1.length ≤ c1) (h : stowagelaw01_Same.f k l0 l1 = some r) :
  Calls Tryd.prog 21 #[.slice A0 l0.length c0, .slice A1 l1.length c1] w fun e w' => e = .returned (.bool r) ∧ Drawn0 w w' := by
 have HR0 := am hr0
 have HC0 := am hc0
 clear hr0 hc0
 have HR1 := am hr1
 have HC1 := am hc1
 clear hr1 hc1
 have H := h
 clear h
 unfold stowagelaw01_Same.f at H
 by_cases c3 : (l0.length : Int) = (l1.length : Int)
 ·
  rw [if_pos c3] at H
  have c3b0 := beq_iff_eq.mpr c3
  have c3b1 := bne_eq_false_iff_eq.mpr c3
  have c3b2 : (l0.length == l1.length) = true := by first | simpa using c3 | (simp at c3 ⊢; omega)
  clear c3
  have H' := am H
  clear H
  go_enter Tryd.func21, Tryd.ntmps21
  go_wp2
  repeat (go_quiet (fail); try go_wp2)
  go_loopg [5] k (fun kq v5 w' => ∃ (x5_1 : Int), v5 = .int .i64 x5_1 ∧ Aside0 (stowagelaw01_Same.l0 kq l0 l1 x5_1 = some r) ∧ Aside0 (kq ≤ k) ∧ Drawn0 w w')
  case atStart => exact ⟨(0), rs, H', ⟨Nat.le_refl _⟩, by repeat (first | exact Drawn0.refl _ | apply Drawn0.step)⟩
  case round =>
   clear H'
   try clear c3
   try clear c3b0
   try clear c3b1
   try clear c3b2
   obtain ⟨x5_1, rfl, HA, HK1, ⟨m1, rfl⟩⟩ := hrel
   cases gk with
   | zero => exact absurd HA.out (by simp [stowagelaw01_Same.l0])
   | succ k1 =>
    have H := HA.out
    clear HA
    simp only [stowagelaw01_Same.l0] at H
    replace H := iteD H
    rcases H with ⟨c4b0, H⟩ | ⟨c4b0, H⟩
    ·
     replace H := iteD H
     rcases H with ⟨c5b0, H⟩ | ⟨_, H⟩
     ·
      replace H := iteD H
      rcases H with ⟨c6b0, H⟩ | ⟨_, H⟩
      ·
       by_cases c7 : (rdOf ByteArray.empty l0 x5_1).toList = (rdOf ByteArray.empty l1 x5_1).toList
       ·
        rw [if_pos c7] at H
        have c7b0 := beq_iff_eq.mpr c7
        have c7b1 := bne_eq_false_iff_eq.mpr c7
        clear c7
        have H' := am H
        clear H
        have p251 := pz x5_1
        have q251 := pl x5_1 (l0.length : Int)
        obtain ⟨ad251, e251, hx251_0⟩ := Kd.at_string HR0.out x5_1 (of_eq_true p251) (of_eq_true q251)
        cases e251
        have p252 := pz x5_1
        have q252 := pl x5_1 (l1.length : Int)
        obtain ⟨ad252, e252, hx252_0⟩ := Kd.at_string HR1.out x5_1 (of_eq_true p252) (of_eq_true q252)
        cases e252
        go_wp2
        repeat (go_quiet (fail); try go_wp2)
        go_roundg k1
        case measure => have := HK1.out; omega
        case rel => exact ⟨(wrap64 (x5_1 + 1)), rs, H', ⟨by have := HK1.out; omega⟩, by repeat (first | exact Drawn0.refl _ | apply Drawn0.step)⟩
       ·
        rw [if_neg c7] at H
        have c7b0 := beq_eq_false_iff_ne.mpr c7
        have c7b1 := bne_iff_ne.mpr c7
        obtain rfl := Option.some.inj H
        have p251 := pz x5_1
        have q251 := pl x5_1 (l0.length : Int)
        obtain ⟨ad251, e251, hx251_0⟩ := Kd.at_string HR0.out x5_1 (of_eq_true p251) (of_eq_true q251)
        cases e251
        have p252 := pz x5_1
        have q252 := pl x5_1 (l1.length : Int)
        obtain ⟨ad252, e252, hx252_0⟩ := Kd.at_string HR1.out x5_1 (of_eq_true p252) (of_eq_true q252)
        cases e252
        go_wp2
        repeat (go_quiet (fail); try go_wp2)
        go_ret
        exact ⟨by first | rfl | (simp; done) | (simp [*]; done), by repeat (first | exact Drawn0.refl _ | apply Drawn0.step)⟩
      ·
       exact absurd H (by simp)
     ·
      exact absurd H (by simp)
    ·
     obtain rfl := Option.some.inj H
     go_wp2
     repeat (go_quiet (fail); try go_wp2)
     go_ret
     exact ⟨by first | rfl | (simp; done) | (simp [*]; done), by repeat (first | exact Drawn0.refl _ | apply Drawn0.step)⟩
 ·
  rw [if_neg c3] at H
  have c3b0 := beq_eq_false_iff_ne.mpr c3
  have c3b1 := bne_iff_ne.mpr c3
  have c3b2 : (l0.length == l1.length) = false := by first | simpa using c3 | (simp at c3 ⊢; omega)
  obtain rfl := Option.some.inj H
  go_enter Tryd.func21, Tryd.ntmps21
  go_wp2
  repeat (go_quiet (fail); try go_wp2)
  go_ret
  exact ⟨by first | rfl | (simp; done) | (simp [*]; done), by repeat (first | exact Drawn0.refl _ | apply Drawn0.step)⟩
end Go.Proofs.YtoiockmmlanimaaDoor.Op
end
section
namespace Go.Proofs.YtoiockmmlanimaaDoor.Op
open Go.RowKit Go.Proofs.YtoiockmmlanimaaDoorW.PrintWords Go.Proofs.YtoiockmmlanimaaDoorW.PrintLast Go.Proofs.YtoiockmmlanimaaDoorW.PrintMore
attribute [local go_sem] max2_int min2_int max_two min_two max_three min_three max_four min_four
set_option linter.unusedVariables false
set_option linter.unusedSimpArgs false
mutual
def parts_Ids.l0 : Nat → List ByteArray → List (S46) → Int → Int → Option (List ByteArray)
 | 0, _, _, _, _ => none
 | k + 1, x3, x10, x11, x12 => if x12 < x11 then (if 0 ≤ x12 then (if x12 < (x10.length : Int) then (parts_Ids.l1 k x3 x10 x11 x12 ((rd_T46 x10 x12).f3) (((rd_T46 x10 x12).f3).length : Int) 0) else (none)) else (none)) else (some x3)
def parts_Ids.l1 : Nat → List ByteArray → List (S46) → Int → Int → List (S63) → Int → Int → Option (List ByteArray)
 | 0, _, _, _, _, _, _, _ => none
 | k + 1, x3, x10, x11, x12, x17, x18, x19 => if x19 < x18 then (if 0 ≤ x19 then (if x19 < (x17.length : Int) then (if x3.length < 8796093022208 then (parts_Ids.l1 k (x3 ++ [(rd_T63 x17 x19).f0]) x10 x11 x12 x17 x18 (wrap64 (x19 + 1))) else (none)) else (none)) else (none)) else (parts_Ids.l0 k x3 x10 x11 (wrap64 (x12 + 1)))
end
def parts_Ids.f (k : Nat) (l0 : List (S46)) : Option (List ByteArray) := (parts_right.f k l0).bind fun t253 => (if t253 = true then (parts_Ids.l0 k ([] : List ByteArray) l0 (l0.length : Int) 0) else (some ([] : List ByteArray)))
theorem parts_Ids.mono_l : ∀ k, (∀ y0 y1 y2 y3, LeO (parts_Ids.l0 k y0 y1 y2 y3) (parts_Ids.l0 (k + 1) y0 y1 y2 y3)) ∧ (∀ y0 y1 y2 y3 y4 y5 y6, LeO (parts_Ids.l1 k y0 y1 y2 y3 y4 y5 y6) (parts_Ids.l1 (k + 1) y0 y1 y2 y3 y4 y5 y6))
 | 0 => ⟨fun _ _ _ _ r h => by simp [parts_Ids.l0] at h, fun _ _ _ _ _ _ _ r h => by simp [parts_Ids.l1] at h⟩
 | k + 1 => by
  obtain ⟨ih0, ih1⟩ := parts_Ids.mono_l k
  refine ⟨?_, ?_⟩
  all_goals intros
  all_goals first | unfold parts_Ids.l0 | unfold parts_Ids.l1
  all_goals repeat' (with_reducible first | exact ih0 _ _ _ _ | exact ih1 _ _ _ _ _ _ _ | exact parts_right.mono _ _ | exact LeO.refl _ | exact LeO.none _ | refine LeO.ite ?_ ?_ | refine LeO.bind ?_ (fun _ => ?_))
theorem parts_Ids.mono : ∀ a0 k, LeO (parts_Ids.f k a0) (parts_Ids.f (k + 1) a0) := by
 intro a0 k
 obtain ⟨ih0, ih1⟩ := parts_Ids.mono_l k
 unfold parts_Ids.f
 repeat' (with_reducible first | exact ih0 _ _ _ _ | exact ih1 _ _ _ _ _ _ _ | exact parts_right.mono _ _ | exact LeO.refl _ | exact LeO.none _ | refine LeO.ite ?_ ?_ | refine LeO.bind ?_ (fun _ => ?_))
set_option maxHeartbeats 8000000 in
set_option maxRecDepth 100000 in
theorem parts_Ids.calls (k : Nat) (A0 : Option Addr) (c0 : Nat) (l0 : List (S46)) (r : List ByteArray) (w : World) (hr0 : Kd.C k46 w A0 l0.length l0) (hc0 : l0.length ≤ c0) (h : parts_Ids.f k l0 = some r) :
  Calls Tryd.prog 22 #[.slice A0 l0.length c0] w fun e w' => ∃ v0_ : Value, e = .returned (v0_) ∧ Kd.R Kd.string 9 w' w.heap.size (fun _ => True) v0_ r ∧ Below w.heap.size w w' := by
 have hu46 := Tryd.underlying46
 have hu63 := Tryd.underlying63
 have HR0 := am hr0
 have HC0 := am hc0
 clear hr0 hc0
 have HB := am (Below.refl w.heap.size w)
 have H := h
 clear h
 unfold parts_Ids.f at H
 replace H := obE H
 obtain ⟨t253, A2, H⟩ := H
 by_cases c3 : t253 = true
 ·
  subst c3
  rw [if_pos rfl] at H
  have H' := am H
  clear H
  go_enter Tryd.func22, Tryd.ntmps22
  go_wp2_with (first | ((with_reducible refine gate_callee (f := 29) rfl ?_); refine goesL_ (some 9) rfl rfl Tryd.func29 (by kernel_rfl) rfl #[.slice A0 l0.length c0] rfl gl ?_; (with_reducible refine (parts_right.calls k _ _ l0 true _ ?side1 ?side2 A2.out).mono ?_); (case side1 => exact kC HR0.out); (case side2 => exact HC0.out); rintro e w4 ⟨rfl, hb⟩; refine ⟨_, rfl, ?_⟩; replace HB := am (below_step (bw HB.out) hb); (try clear hb)))
  go_loopg [3, 12] k (fun kq v3 v12 w' => ∃ (x3_1 : List ByteArray) (x12_1 : Int), v12 = .int .i64 x12_1 ∧ Aside0 (parts_Ids.l0 kq x3_1 l0 (l0.length : Int) x12_1 = some r) ∧ Aside0 (kq ≤ k) ∧ Aside0 (Kd.R Kd.string 9 w' w.heap.size (fun _ => True) v3 x3_1) ∧ Aside0 (Below w.heap.size w w'))
  case atStart => exact ⟨(([] : List ByteArray)), (0), rs, H', ⟨Nat.le_refl _⟩, ⟨niR⟩, ⟨bw HB.out⟩⟩
  case round =>
   clear H'
   try clear c3
   obtain ⟨x3_1, x12_1, rfl, HA, HK1, HO_3, HB⟩ := hrel
   cases gk with
   | zero => exact absurd HA.out (by simp [parts_Ids.l0])
   | succ k1 =>
    have H := HA.out
    clear HA
    simp only [parts_Ids.l0] at H
    replace H := iteD H
    rcases H with ⟨c5b0, H⟩ | ⟨c5b0, H⟩
    ·
     replace H := iteD H
     rcases H with ⟨c6b0, H⟩ | ⟨_, H⟩
     ·
      replace H := iteD H
      rcases H with ⟨c7b0, H⟩ | ⟨_, H⟩
      ·
       have H' := am H
       clear H
       have p254 := pz x12_1
       have q254 := pl x12_1 (l0.length : Int)
       obtain ⟨ad254, A254_3, c254_3, e254, hx254_0, hx254_1, hx254_2, hx254_3, hl254_3, hi254_3⟩ := at_T46 HR0.out x12_1 (of_eq_true p254) (of_eq_true q254)
       cases e254
       replace hx254_0 := bc HB.out hx254_0
       replace hx254_1 := bc HB.out hx254_1
       replace hx254_2 := bc HB.out hx254_2
       replace hx254_3 := bc HB.out hx254_3
       have HR254_3 := am hi254_3
       have HC254_3 := am hl254_3
       clear hi254_3 hl254_3
       go_wp2_with (first | ((with_reducible refine gate_dst (N := 5) rfl ?_); refine bx 5 #[.int .i64 0, .int .i64 0, .string (⟨#[]⟩ : ByteArray), .slice none 0 0] 46 ?_; intro gb255 hg w8 hbox hb; have BK255 := am (hbox); have GW255 := gsz hg HB.out; have GE255 := gsz hg HB.out; replace HO_3 := am (Kd.R_below (kR HO_3.out) hb); replace HB := am (below_step (bw HB.out) hb); clear hb hbox hg; obtain ⟨hcz9_0, hcz9_1, hcz9_2, hcz9_3, hfz9_0, hfz9_1, hfz9_2, hfz9_3⟩ := cz4 BK255.out))
       go_loopg [3, 19] k1 (fun kq v3 v19 w' => ∃ (x3_2 : List ByteArray) (x19_2 : Int), v19 = .int .i64 x19_2 ∧ Aside0 (parts_Ids.l1 kq x3_2 l0 (l0.length : Int) x12_1 ((rd_T46 l0 x12_1).f3) (((rd_T46 l0 x12_1).f3).length : Int) x19_2 = some r) ∧ Aside0 (kq ≤ k1) ∧ Aside0 (Kd.R Kd.string 9 w' w.heap.size (fun _ => True) v3 x3_2) ∧ Aside0 (w'.heap[gb255]? = some (.cells #[.int .i64 ((rd_T46 l0 x12_1).f0), .int .i64 ((rd_T46 l0 x12_1).f1), .string ((rd_T46 l0 x12_1).f2), (.slice A254_3 ((rd_T46 l0 x12_1).f3).length c254_3)] 46 (0, 0))) ∧ Aside0 (Below w.heap.size w w'))
       case atStart => exact ⟨(x3_1), (0), rs, H', ⟨Nat.le_refl _⟩, ⟨by (with_reducible repeat (first | apply Kd.R_alloc | apply Kd.R_drewN | apply Kd.R_drew)); exact Kd.R_mono (Kd.R_far (p := ⟨gb255, 3, none⟩) (Kd.R_far (p := ⟨gb255, 2, none⟩) (Kd.R_far (p := ⟨gb255, 1, none⟩) (Kd.R_far (p := ⟨gb255, 0, none⟩) (Kd.R_types HO_3.out BK255.out (by decide)) (fun _ hk => hk.2) (.int .i64 ((rd_T46 l0 x12_1).f0))) (fun _ hk => hk.2) (.int .i64 ((rd_T46 l0 x12_1).f1))) (fun _ hk => hk.2) (.string ((rd_T46 l0 x12_1).f2))) (fun _ hk => hk.2) (.slice A254_3 ((rd_T46 l0 x12_1).f3).length c254_3)) (fun _ hk => trivial)⟩, ⟨bkp BK255.out⟩, ⟨bws HB.out⟩⟩
       case round =>
        clear H'
        try clear c3
        try clear c5b0
        try clear c6b0
        try clear c7b0
        try clear hcz9_0 hcz9_1 hcz9_2 hcz9_3 hfz9_0 hfz9_1 hfz9_2 hfz9_3
        try clear hx254_0
        try clear hx254_1
        try clear hx254_2
        try clear hx254_3
        try clear p254
        try clear q254
        obtain ⟨x3_2, x19_2, rfl, HA, HK2, HO_3, BK255, HB⟩ := hrel
        cases gk with
        | zero => exact absurd HA.out (by simp [parts_Ids.l1])
        | succ k2 =>
         have H := HA.out
         clear HA
         simp only [parts_Ids.l1] at H
         replace H := iteD H
         rcases H with ⟨c10b0, H⟩ | ⟨c10b0, H⟩
         ·
          replace H := iteD H
          rcases H with ⟨c11b0, H⟩ | ⟨_, H⟩
          ·
           replace H := iteD H
           rcases H with ⟨c12b0, H⟩ | ⟨_, H⟩
           ·
            by_cases c13 : x3_2.length < 8796093022208
            ·
             rw [if_pos c13] at H
             have LMc13 := am c13
             clear c13
             obtain ⟨y258, hy258⟩ : ∃ y_ : List ByteArray, y_ = (x3_2 ++ [(rd_T63 ((rd_T46 l0 x12_1).f3) x19_2).f0]) := ⟨_, rfl⟩
             replace H : (parts_Ids.l1 k2 y258 l0 (l0.length : Int) x12_1 ((rd_T46 l0 x12_1).f3) (((rd_T46 l0 x12_1).f3).length : Int) (wrap64 (x19_2 + 1))) = some r := by first | (rw [hy258]; with_reducible exact H) | (have H2_ := (Option.bind_some _ _).symm.trans H; rw [hy258]; with_reducible exact H2_) | (have H2_ := (Option.bind_some _ _).symm.trans H; with_reducible exact H2_) | with_reducible exact H | (rw [hy258]; exact H) | exact H
             have Ny258 := am hy258
             clear hy258
             have H' := am H
             clear H
             have p256 := pz x19_2
             have q256 := pl x19_2 (((rd_T46 l0 x12_1).f3).length : Int)
             obtain ⟨ad256, e256, hx256_0, hx256_1⟩ := at_T63 HR254_3.out x19_2 (of_eq_true p256) (of_eq_true q256)
             cases e256
             replace hx256_0 := bc HB.out hx256_0
             replace hx256_1 := bc HB.out hx256_1
             go_wp2_with (first | ((with_reducible refine gate_dst (N := 7) rfl ?_); refine bx 7 #[.string (⟨#[]⟩ : ByteArray), .int .i64 0] 63 ?_; intro gb257 hg w14 hbox hb; have BK257 := am (hbox); have GW257 := gsz hg HB.out; have GE257 := gsz hg HB.out; have NB255_257 := nlt (g := gb255) hg BK255.out; have NB257_255 := ngt (g := gb255) hg BK255.out; replace HO_3 := am (Kd.R_below (kR HO_3.out) hb); replace BK255 := bb BK255.out hb; replace HB := am (below_step (bws HB.out) hb); clear hb hbox hg; have hnb15 := NB257_255.out; have hnc15 := NB255_257.out; obtain ⟨hcz16_0, hcz16_1, hfz16_0, hfz16_1⟩ := cz2 BK257.out) | ((with_reducible refine gate_builtin (b := .append) (xs := #[.tmp 23, .tmp 26]) rfl ?_); at_builtin; refine Kd.R_append Kd.string (w0 := w) w.heap.size rfl (.tmp 23) (.tmp 26) 56 9 (.string ⟨#[]⟩) 16 rfl Tryd.underlying56 info9 rfl (by decide) (by omega) u3 x3_2 ((rd_T63 ((rd_T46 l0 x12_1).f3) x19_2).f0) [.string ((rd_T63 ((rd_T46 l0 x12_1).f3) x19_2).f0)] (fun _ => True) (fun _ => False) rfl (by first | (go_simp; done) | (go_simp; rfl)) ?aP (fun _ hk => hk.elim) ?aF ?aO ?aB ?aS ?aL ?_; (case aP => exact rfl); (case aB => exact (bws HB.out)); (case aF => exact (fun _ _ => trivial)); (case aO => exact (by (with_reducible repeat (first | apply Kd.R_alloc | apply Kd.R_drewN | apply Kd.R_drew)); exact Kd.R_mono (Kd.R_far (p := ⟨gb257, 1, none⟩) (Kd.R_far (p := ⟨gb257, 0, none⟩) (Kd.R_types HO_3.out BK257.out (by decide)) (fun _ hk => hk.2) (.string ((rd_T63 ((rd_T46 l0 x12_1).f3) x19_2).f0))) (fun _ hk => hk.2) (.int .i64 ((rd_T63 ((rd_T46 l0 x12_1).f3) x19_2).f1))) (fun _ hk => trivial))); (case aS => exact (below_size (bws HB.out))); (case aL => have := LMc13.out; omega); intro v259 w17 ho hb hg hat; rw [← Ny258.out] at ho; have n0_ := am (blk_grown (g := gb255) (o := .cells #[.int .i64 ((rd_T46 l0 x12_1).f0), .int .i64 ((rd_T46 l0 x12_1).f1), .string ((rd_T46 l0 x12_1).f2), .slice (some ad256) ((rd_T46 l0 x12_1).f3).length c254_3] 46 (0, 0)) (bkf BK255.out) hg (Kd.R_ne HO_3.out BK255.out (by decide))); have n1_ := am (blk_grown (g := gb257) (o := .cells #[.string ((rd_T63 ((rd_T46 l0 x12_1).f3) x19_2).f0), .int .i64 ((rd_T63 ((rd_T46 l0 x12_1).f3) x19_2).f1)] 63 (0, 0)) (bkp BK257.out) hg (Kd.R_ne HO_3.out BK257.out (by decide))); have n2_ := am (hb); have n3_ := am (ho); clear BK255; clear BK257; clear HB; clear HO_3; have BK255 := n0_; have BK257 := n1_; have HB := n2_; have HO260 := n3_; clear n0_ n1_ n2_ n3_; clear ho hb hg hat))
             go_roundg k2
             case measure => have := HK1.out; have := HK2.out; omega
             case rel => exact ⟨(y258), (wrap64 (x19_2 + 1)), rs, H', ⟨by have := HK1.out; have := HK2.out; omega⟩, ⟨kR HO260.out⟩, ⟨bk BK255.out⟩, ⟨bws HB.out⟩⟩
            ·
             rw [if_neg c13] at H
             exact absurd H (by simp)
           ·
            exact absurd H (by simp)
          ·
           exact absurd H (by simp)
         ·
          have H' := am H
          clear H
          go_wp2
          go_roundg k2
          case measure => have := HK1.out; have := HK2.out; omega
          case rel => exact ⟨(x3_2), (wrap64 (x12_1 + 1)), rs, H', ⟨by have := HK1.out; have := HK2.out; omega⟩, ⟨kR HO_3.out⟩, ⟨bws HB.out⟩⟩
      ·
       exact absurd H (by simp)
     ·
      exact absurd H (by simp)
    ·
     obtain rfl := Option.some.inj H
     go_wp2
     go_ret
     exact ⟨_, rf, kR HO_3.out, bw HB.out⟩
 ·
  replace c3 := Bool.eq_false_iff.mpr c3
  subst c3
  rw [if_neg (show ¬ (false = true) by decide)] at H
  obtain rfl := Option.some.inj H
  go_enter Tryd.func22, Tryd.ntmps22
  go_wp2_with (first | ((with_reducible refine gate_callee (f := 29) rfl ?_); refine goesL_ (some 9) rfl rfl Tryd.func29 (by kernel_rfl) rfl #[.slice A0 l0.length c0] rfl gl ?_; (with_reducible refine (parts_right.calls k _ _ l0 false _ ?side1 ?side2 A2.out).mono ?_); (case side1 => exact kC HR0.out); (case side2 => exact HC0.out); rintro e w18 ⟨rfl, hb⟩; refine ⟨_, rfl, ?_⟩; replace HB := am (below_step (bw HB.out) hb); (try clear hb)))
  go_ret
  exact ⟨_, rf, niR, bw HB.out⟩
mutual
def stowageref14_Ids.l0 : Nat → List (S52) → List ByteArray → Int → Option (List ByteArray)
 | 0, _, _, _ => none
 | k + 1, x0, x3, x4 => if x4 < (x0.length : Int) then ((stowageref14_May.f k x0).bind fun t261 => (stowageref14_Ids.j1 k x0 x3 x4 t261)) else (stowageref14_Ids.j1 k x0 x3 x4 false)
def stowageref14_Ids.j1 : Nat → List (S52) → List ByteArray → Int → Bool → Option (List ByteArray)
 | 0, _, _, _, _ => none
 | k + 1, x0, x3, x4, x13 => if x13 = true then (stowageref14_Ids.l1 k x0 x3 x4 0) else (some x3)
def stowageref14_Ids.l1 : Nat → List (S52) → List ByteArray → Int → Int → Option (List ByteArray)
 | 0, _, _, _, _ => none
 | k + 1, x0, x3, x4, x5 => if 0 ≤ x4 then (if x4 < (x0.length : Int) then (if x5 < (((rd_T52 x0 x4).f3).length : Int) then (if 0 ≤ x5 then (if x3.length < 8796093022208 then (stowageref14_Ids.l1 k x0 (x3 ++ [(rd_T85 ((rd_T52 x0 x4).f3) x5).f0]) x4 (wrap64 (x5 + 1))) else (none)) else (none)) else (stowageref14_Ids.l0 k x0 x3 (wrap64 (x4 + 1)))) else (none)) else (none)
end
def stowageref14_Ids.f (k : Nat) (l0 : List (S52)) : Option (List ByteArray) := stowageref14_Ids.l0 k l0 ([] : List ByteArray) 0
theorem stowageref14_Ids.mono_l : ∀ k, (∀ y0 y1 y2, LeO (stowageref14_Ids.l0 k y0 y1 y2) (stowageref14_Ids.l0 (k + 1) y0 y1 y2)) ∧ (∀ y0 y1 y2 y3, LeO (stowageref14_Ids.j1 k y0 y1 y2 y3) (stowageref14_Ids.j1 (k + 1) y0 y1 y2 y3)) ∧ (∀ y0 y1 y2 y3, LeO (stowageref14_Ids.l1 k y0 y1 y2 y3) (stowageref14_Ids.l1 (k + 1) y0 y1 y2 y3))
 | 0 => ⟨fun _ _ _ r h => by simp [stowageref14_Ids.l0] at h, fun _ _ _ _ r h => by simp [stowageref14_Ids.j1] at h, fun _ _ _ _ r h => by simp [stowageref14_Ids.l1] at h⟩
 | k + 1 => by
  obtain ⟨ih0, ih1, ih2⟩ := stowageref14_Ids.mono_l k
  refine ⟨?_, ?_, ?_⟩
  all_goals intros
  all_goals first | unfold stowageref14_Ids.l0 | unfold stowageref14_Ids.j1 | unfold stowageref14_Ids.l1
  all_goals repeat' (with_reducible first | exact ih0 _ _ _ | exact ih1 _ _ _ _ | exact ih2 _ _ _ _ | exact stowageref14_May.mono _ _ | exact LeO.refl _ | exact LeO.none _ | refine LeO.ite ?_ ?_ | refine LeO.bind ?_ (fun _ => ?_))
theorem stowageref14_Ids.mono : ∀ a0 k, LeO (stowageref14_Ids.f k a0) (stowageref14_Ids.f (k + 1) a0) := by
 intro a0 k
 obtain ⟨ih0, ih1, ih2⟩ := stowageref14_Ids.mono_l k
 unfold stowageref14_Ids.f
 repeat' (with_reducible first | exact ih0 _ _ _ | exact ih1 _ _ _ _ | exact ih2 _ _ _ _ | exact stowageref14_May.mono _ _ | exact LeO.refl _ | exact LeO.none _ | refine LeO.ite ?_ ?_ | refine LeO.bind ?_ (fun _ => ?_))
set_option maxHeartbeats 8000000 in
set_option maxRecDepth 100000 in
theorem stowageref14_Ids.calls (k : Nat) (A0 : Option Addr) (c0 : Nat) (l0 : List (S52)) (r : List ByteArray) (w : World) (hr0 : Kd.C k52 w A0 l0.length l0) (hc0 : l0.length ≤ c0) (h : stowageref14_Ids.f k l0 = some r) :
  Calls Tryd.prog 23 #[.slice A0 l0.length c0] w fun e w' => ∃ v0_ : Value, e = .returned (v0_) ∧ Kd.R Kd.string 9 w' w.heap.size (fun _ => True) v0_ r ∧ Below w.heap.size w w' := by
 have HR0 := am hr0
 have HC0 := am hc0
 clear hr0 hc0
 have HB := am (Below.refl w.heap.size w)
 have H := h
 clear h
 unfold stowageref14_Ids.f at H
 have H' := am H
 clear H
 go_enter Tryd.func23, Tryd.ntmps23
 go_wp2
 go_loopg [3, 4] k (fun kq v3 v4 w' => ∃ (x3_1 : List ByteArray) (x4_1 : Int), v4 = .int .i64 x4_1 ∧ Aside0 (stowageref14_Ids.l0 kq l0 x3_1 x4_1 = some r) ∧ Aside0 (kq ≤ k) ∧ Aside0 (Kd.R Kd.string 9 w' w.heap.size (fun _ => True) v3 x3_1) ∧ Aside0 (Below w.heap.size w w'))
 case atStart => exact ⟨(([] : List ByteArray)), (0), rs, H', ⟨Nat.le_refl _⟩, ⟨niR⟩, ⟨bw HB.out⟩⟩
 case round =>
  clear H'
  obtain ⟨x3_1, x4_1, rfl, HA, HK1, HO_3, HB⟩ := hrel
  cases gk with
  | zero => exact absurd HA.out (by simp [stowageref14_Ids.l0])
  | succ k1 =>
   have H := HA.out
   clear HA
   simp only [stowageref14_Ids.l0] at H
   have HC2 := am H
   clear H
   go_upto_region 3 with (fail)
   go_cut [13] (fun v13 wc => ∃ (kq : Nat) (x13_1 : Bool), v13 = .bool x13_1 ∧ Aside0 (stowageref14_Ids.j1 kq l0 x3_1 x4_1 x13_1 = some r) ∧ Aside0 (kq ≤ k1) ∧ Aside0 (Kd.R Kd.string 9 wc w.heap.size (fun _ => True) u3 x3_1) ∧ Aside0 (Below w.heap.size w wc))
   case first =>
    have H := HC2.out
    clear HC2
    replace H := iteD H
    rcases H with ⟨c3b0, H⟩ | ⟨c3b0, H⟩
    ·
     (first | rw [c3b0] | (simp only [i64_w, i32_w]; rw [c3b0]) | skip)
     replace H := obE H
     obtain ⟨t261, A4, H⟩ := H
     have H' := am H
     clear H
     go_wp2_with (first | (go_at_call 33; (with_reducible refine (stowageref14_May.calls k1 _ _ l0 t261 _ ?side1 ?side2 A4.out).mono ?_); (case side1 => exact kC (Kd.C_below HR0.out HB.out)); (case side2 => exact HC0.out); rintro e w5 ⟨rfl, hb⟩; replace HO_3 := am (Kd.R_below (kR HO_3.out) hb); replace HB := am (below_step (bw HB.out) hb); (try clear hb)))
     go_meet
     case rel => exact ⟨_, (t261), rs, H', ⟨by have := HK1.out; first | omega | exact Nat.le_refl _⟩, ⟨kR HO_3.out⟩, ⟨bw HB.out⟩⟩
    ·
     (first | rw [c3b0] | (simp only [i64_w, i32_w]; rw [c3b0]) | skip)
     have H' := am H
     clear H
     go_wp2
     go_meet
     case rel => exact ⟨_, (false), rs, H', ⟨by have := HK1.out; first | omega | exact Nat.le_refl _⟩, ⟨kR HO_3.out⟩, ⟨bw HB.out⟩⟩
   case rest =>
    clear HC2
    obtain ⟨kq, x13_1, rfl, HA, HJ1, HO_3, HB⟩ := hcut
    cases kq with
    | zero => exact absurd HA.out (by simp [stowageref14_Ids.j1])
    | succ kj1 =>
     have H := HA.out
     clear HA
     simp only [stowageref14_Ids.j1] at H
     by_cases c6 : x13_1 = true
     ·
      subst c6
      rw [if_pos rfl] at H
      have H' := am H
      clear H
      go_wp2
      go_loopg [3, 5] kj1 (fun kq v3 v5 w' => ∃ (x3_3 : List ByteArray) (x5_3 : Int), v5 = .int .i64 x5_3 ∧ Aside0 (stowageref14_Ids.l1 kq l0 x3_3 x4_1 x5_3 = some r) ∧ Aside0 (kq ≤ kj1) ∧ Aside0 (Kd.R Kd.string 9 w' w.heap.size (fun _ => True) v3 x3_3) ∧ Aside0 (Below w.heap.size w w'))
      case atStart => exact ⟨(x3_1), (0), rs, H', ⟨Nat.le_refl _⟩, ⟨kR HO_3.out⟩, ⟨bw HB.out⟩⟩
      case round =>
       clear H'
       try clear c6
       obtain ⟨x3_3, x5_3, rfl, HA, HK3, HO_3, HB⟩ := hrel
       cases gk with
       | zero => exact absurd HA.out (by simp [stowageref14_Ids.l1])
       | succ k3 =>
        have H := HA.out
        clear HA
        simp only [stowageref14_Ids.l1] at H
        replace H := iteD H
        rcases H with ⟨c7b0, H⟩ | ⟨_, H⟩
        ·
         replace H := iteD H
         rcases H with ⟨c8b0, H⟩ | ⟨_, H⟩
         ·
          replace H := iteD H
          rcases H with ⟨c9b0, H⟩ | ⟨c9b0, H⟩
          ·
           replace H := iteD H
           rcases H with ⟨c10b0, H⟩ | ⟨_, H⟩
           ·
            by_cases c11 : x3_3.length < 8796093022208
            ·
             rw [if_pos c11] at H
             have LMc11 := am c11
             clear c11
             obtain ⟨y265, hy265⟩ : ∃ y_ : List ByteArray, y_ = (x3_3 ++ [(rd_T85 ((rd_T52 l0 x4_1).f3) x5_3).f0]) := ⟨_, rfl⟩
             replace H : (stowageref14_Ids.l1 k3 l0 y265 x4_1 (wrap64 (x5_3 + 1))) = some r := by first | (rw [hy265]; with_reducible exact H) | (have H2_ := (Option.bind_some _ _).symm.trans H; rw [hy265]; with_reducible exact H2_) | (have H2_ := (Option.bind_some _ _).symm.trans H; with_reducible exact H2_) | with_reducible exact H | (rw [hy265]; exact H) | exact H
             have Ny265 := am hy265
             clear hy265
             have H' := am H
             clear H
             have p262 := pz x4_1
             have q262 := pl x4_1 (l0.length : Int)
             obtain ⟨ad262, A262_3, c262_3, e262, hx262_0, hx262_1, hx262_2, hx262_3, hl262_3, hi262_3⟩ := at_T52 HR0.out x4_1 (of_eq_true p262) (of_eq_true q262)
             cases e262
             replace hx262_0 := bc HB.out hx262_0
             replace hx262_1 := bc HB.out hx262_1
             replace hx262_2 := bc HB.out hx262_2
             replace hx262_3 := bc HB.out hx262_3
             have HR262_3 := am hi262_3
             have HC262_3 := am hl262_3
             clear hi262_3 hl262_3
             have p263 := pz x4_1
             have q263 := pl x4_1 (l0.length : Int)
             obtain ⟨ad263, A263_3, c263_3, e263, hx263_0, hx263_1, hx263_2, hx263_3, hl263_3, hi263_3⟩ := at_T52 HR0.out x4_1 (of_eq_true p263) (of_eq_true q263)
             obtain rfl : ad262 = ad263 := (by injection e263)
             replace hx263_0 := bc HB.out hx263_0
             replace hx263_1 := bc HB.out hx263_1
             replace hx263_2 := bc HB.out hx263_2
             replace hx263_3 := bc HB.out hx263_3
             have HR263_3 := am hi263_3
             have HC263_3 := am hl263_3
             clear hi263_3 hl263_3
             have ea_ := Option.some.inj (hx262_3.symm.trans hx263_3)
             injection ea_ with ea_ en_ ec_
             subst ea_
             subst ec_
             clear en_
             have p264 := pz x5_3
             have q264 := pl x5_3 (((rd_T52 l0 x4_1).f3).length : Int)
             obtain ⟨ad264, e264, hx264_0, hx264_1⟩ := at_T85 HR263_3.out x5_3 (of_eq_true p264) (of_eq_true q264)
             cases e264
             replace hx264_0 := bc HB.out hx264_0
             replace hx264_1 := bc HB.out hx264_1
             go_wp2_with (first | ((with_reducible refine gate_builtin (b := .append) (xs := #[.tmp 26, .tmp 36]) rfl ?_); at_builtin; refine Kd.R_append Kd.string (w0 := w) w.heap.size rfl (.tmp 26) (.tmp 36) 56 9 (.string ⟨#[]⟩) 16 rfl Tryd.underlying56 info9 rfl (by decide) (by omega) u3 x3_3 ((rd_T85 ((rd_T52 l0 x4_1).f3) x5_3).f0) [.string ((rd_T85 ((rd_T52 l0 x4_1).f3) x5_3).f0)] (fun _ => True) (fun _ => False) rfl rfl ?aP (fun _ hk => hk.elim) ?aF ?aO ?aB ?aS ?aL ?_; (case aP => exact rfl); (case aB => exact (bw HB.out)); (case aF => exact (fun _ _ => trivial)); (case aO => exact (kR HO_3.out)); (case aS => exact (below_size (bw HB.out))); (case aL => have := LMc11.out; omega); intro v266 w12 ho hb hg hat; rw [← Ny265.out] at ho; have n0_ := am (hb); have n1_ := am (ho); clear HB; clear HO_3; have HB := n0_; have HO267 := n1_; clear n0_ n1_; clear ho hb hg hat))
             go_roundg k3
             case measure => have := HK1.out; have := HJ1.out; have := HK3.out; omega
             case rel => exact ⟨(y265), (wrap64 (x5_3 + 1)), rs, H', ⟨by have := HK1.out; have := HJ1.out; have := HK3.out; omega⟩, ⟨kR HO267.out⟩, ⟨bw HB.out⟩⟩
            ·
             rw [if_neg c11] at H
             exact absurd H (by simp)
           ·
            exact absurd H (by simp)
          ·
           have H' := am H
           clear H
           have p262 := pz x4_1
           have q262 := pl x4_1 (l0.length : Int)
           obtain ⟨ad262, A262_3, c262_3, e262, hx262_0, hx262_1, hx262_2, hx262_3, hl262_3, hi262_3⟩ := at_T52 HR0.out x4_1 (of_eq_true p262) (of_eq_true q262)
           cases e262
           replace hx262_0 := bc HB.out hx262_0
           replace hx262_1 := bc HB.out hx262_1
           replace hx262_2 := bc HB.out hx262_2
           replace hx262_3 := bc HB.out hx262_3
           have HR262_3 := am hi262_3
           have HC262_3 := am hl262_3
           clear hi262_3 hl262_3
           go_wp2
           go_roundg k3
           case measure => have := HK1.out; have := HJ1.out; have := HK3.out; omega
           case rel => exact ⟨(x3_3), (wrap64 (x4_1 + 1)), rs, H', ⟨by have := HK1.out; have := HJ1.out; have := HK3.out; omega⟩, ⟨kR HO_3.out⟩, ⟨bw HB.out⟩⟩
         ·
          exact absurd H (by simp)
        ·
         exact absurd H (by simp)
     ·
      replace c6 := Bool.eq_false_iff.mpr c6
      subst c6
      rw [if_neg (show ¬ (false = true) by decide)] at H
      obtain rfl := Option.some.inj H
      go_wp2
      go_ret
      exact ⟨_, rf, kR HO_3.out, bw HB.out⟩
-- NOT PRINTED: function 5 (stowagelaw14_PartsPuts)
end Go.Proofs.YtoiockmmlanimaaDoor.Op
end
section
namespace Go.Proofs.YtoiockmmlanimaaDoor.Op
open Go.RowKit Go.Proofs.YtoiockmmlanimaaDoorW.PrintWords Go.Proofs.YtoiockmmlanimaaDoorW.PrintLast Go.Proofs.YtoiockmmlanimaaDoorW.PrintMore
set_option linter.unusedVariables false
set_option linter.unusedSimpArgs false
def stowagelaw14_PartsPuts.f (k : Nat) (l0 : List (S46)) (a1_0 : Int) (a1_1 : Int) (a1_2 : ByteArray) (l1_3 : List (S63)) : Option Bool :=
 (parts_Put.f k l0 a1_0 a1_1 a1_2 l1_3).bind fun a => (stowagelaw14_Refs.f k l0).bind fun rl => (stowagelaw14_Refs.f k [⟨a1_0, a1_1, a1_2, l1_3⟩]).bind fun rp => match rp with
  | [] => none
  | x :: _ => (stowageref14_Put.f k rl x.f0 x.f1 x.f2 x.f3).bind fun b => (stowagelaw14_awake.f k).bind fun v => (parts_Check.f k a1_0 a1_1 a1_2 l1_3).bind fun c => (stowageref14_Check.f k x.f0 x.f1 x.f2 x.f3).bind fun d => (stowagelaw14_Refs.f k a.1).bind fun ra => (stowageref14_Same.f k ra b.1).bind fun s => (parts_Ids.f k l0).bind fun i1 => (stowageref14_Ids.f k rl).bind fun i2 => (stowagelaw01_Same.f k i1 i2).bind fun t => if v = true ∧ c = d ∧ s = true ∧ a.2 = b.2 ∧ t = true then some true else none
set_option maxHeartbeats 8000000 in
set_option maxRecDepth 100000 in
theorem stowagelaw14_PartsPuts_walk (k : Nat) (A0 : Option Addr) (c0 : Nat) (l0 : List (S46)) (a1_0 : Int) (a1_1 : Int) (a1_2 : ByteArray) (A1_3 : Option Addr) (c1_3 : Nat) (l1_3 : List (S63)) (r1 : List (S46)) (r2 : Int) (w : World) (hr0 : Kd.C k46 w A0 l0.length l0) (hc0 : l0.length ≤ c0) (hr1_3 : Kd.C k63 w A1_3 l1_3.length l1_3) (hc1_3 : l1_3.length ≤ c1_3) (h : parts_Put.f k l0 a1_0 a1_1 a1_2 l1_3 = some (r1, r2)) (rl rest r3 : List (S52)) (x : S52) (hrl : stowagelaw14_Refs.f k l0 = some rl) (hrp : stowagelaw14_Refs.f k [⟨a1_0, a1_1, a1_2, l1_3⟩] = some (x :: rest)) (hrq : stowageref14_Put.f k rl x.f0 x.f1 x.f2 x.f3 = some (r3, r2)) (ec : Int) (ra : List (S52)) (i1 i2 : List ByteArray) (h5 : stowagelaw14_awake.f k = some true) (h6 : parts_Check.f k a1_0 a1_1 a1_2 l1_3 = some ec) (h7 : stowageref14_Check.f k x.f0 x.f1 x.f2 x.f3 = some ec) (h8 : stowagelaw14_Refs.f k r1 = some ra) (h9 : stowageref14_Same.f k ra r3 = some true) (h10 : parts_Ids.f k l0 = some i1) (h11 : stowageref14_Ids.f k rl = some i2) (h12 : stowagelaw01_Same.f k i1 i2 = some true) (hG : GG w) :
  Calls Tryd.prog 5 #[.slice A0 l0.length c0, .agg #[.int .i64 a1_0, .int .i64 a1_1, .string a1_2, .slice A1_3 l1_3.length c1_3]] w fun e w' => e = .returned (.bool true) ∧ Below w.heap.size w w' := by
 have HG := am hG
 have HR0 := am hr0
 have HR1 := am hr1_3
 have HC0 := am hc0
 have HC1 := am hc1_3
 clear hG hr0 hr1_3 hc0 hc1_3
 have HB := am (Below.refl w.heap.size w)
 have A1 := am h
 clear h
 go_enter Tryd.func5, Tryd.ntmps5
 go_upto_region 2 with (first
  | ((with_reducible refine gate_dst (N := 3) rfl ?_); (try (refine gate_guard (by rfl) ?_; dsimp only)); refine bx 3 #[.int .i64 a1_0, .int .i64 a1_1, .string a1_2, .slice A1_3 l1_3.length c1_3] 46 ?_; intro gp hg w0 hbox hb; have BP := am (hbox); have GP := am ((by rw [hg]; exact HB.out.size : w.heap.size ≤ gp)); replace HB := am (below_step HB.out hb); clear hb hbox hg; obtain ⟨z0, z1, z2, z3, y0, y1, y2, y3⟩ := cz4 BP.out)
  | (go_at_call 16; (refine (parts_Put.calls k _ _ l0 a1_0 a1_1 a1_2 _ _ l1_3 r1 r2 _ ?s1 HC0.out ?s2 HC1.out A1.out).mono ?_); (case s1 => exact Kd.C_below HR0.out HB.out); (case s2 => exact Kd.C_below HR1.out HB.out); rintro e w1 ⟨va, rfl, ho0, hb⟩; (try dsimp only); have HA := am ho0; have HBp := am hb; replace BP := am (blk_below BP.out hb); clear z0 z1 z2 z3 y0 y1 y2 y3; obtain ⟨z0, z1, z2, z3, y0, y1, y2, y3⟩ := cz4 BP.out; replace HB := am (below_step HB.out hb); clear hb ho0))
 have A2 := am hrl
 have A3 := am hrp
 have A4 := am hrq
 have A5 := am h5
 have A6 := am h6
 have A7 := am h7
 have A8 := am h8
 have A9 := am h9
 have A10 := am h10
 have A11 := am h11
 have A12 := am h12
 clear hrl hrp hrq h5 h6 h7 h8 h9 h10 h11 h12
 have HA := am (Kd.V_mono (Kd.V_lower (base' := 0) HA.out (Nat.zero_le _)) (fun _ _ => trivial : ∀ k, _ → True))
 refine start_ (n := 13) (S := fun w' => w'.cell? ⟨gp, 0, none⟩ = some (.int .i64 a1_0) ∧ w'.cell? ⟨gp, 1, none⟩ = some (.int .i64 a1_1) ∧ w'.cell? ⟨gp, 2, none⟩ = some (.string a1_2) ∧ w'.cell? ⟨gp, 3, none⟩ = some (.slice A1_3 l1_3.length c1_3)) (ds := []) #[false, false, false, false, false, false, false, false, false, false, false, false, false] (by kernel_rfl) rfl rfl ⟨z0, z1, z2, z3⟩ (fun hHeld => ?_)
 replace BP := am (blk_drew BP.out)
 replace HB := am HB.out.drew
 replace HA := am (Kd.V_drew HA.out)
 clear z0 z1 z2 z3 y0 y1 y2 y3
 generalize w1.drew = W1 at BP HB HA hHeld ⊢
 refine hp 0 (some 16) ?_
 refine ht 2 (some 18) hHeld ?_
 have SH : ∀ W : World, W.heap[gp]? = some (.cells #[.int .i64 a1_0, .int .i64 a1_1, .string a1_2, .slice A1_3 l1_3.length c1_3] 46 (0, 0)) → W.cell? ⟨gp, 0, none⟩ = some (.int .i64 a1_0) ∧ W.cell? ⟨gp, 1, none⟩ = some (.int .i64 a1_1) ∧ W.cell? ⟨gp, 2, none⟩ = some (.string a1_2) ∧ W.cell? ⟨gp, 3, none⟩ = some (.slice A1_3 l1_3.length c1_3) := fun W h => ⟨(blk_cell h 0).trans rfl, (blk_cell h 1).trans rfl, (blk_cell h 2).trans rfl, (blk_cell h 3).trans rfl⟩
 have SH := am SH
 refine join_ (σ := Value × Nat) 9 #[true, true, true, true, false, false, false, false, false, false, false, false, false] (fun s => [(17, s.1), (19, .slice (some ⟨s.2, 0, none⟩) 1 1)]) (fun s W => Aside0 (W.heap[gp]? = some (.cells #[.int .i64 a1_0, .int .i64 a1_1, .string a1_2, .slice A1_3 l1_3.length c1_3] 46 (0, 0))) ∧ Aside0 (Below w.heap.size w W) ∧ Aside0 (Kd.V k46 46 W 0 (fun _ => True) va r1) ∧ Aside0 (Kd.V k52 52 W 0 (fun _ => True) s.1 rl) ∧ Aside0 (Kd.C k46 W (some ⟨s.2, 0, none⟩) 1 [⟨a1_0, a1_1, a1_2, l1_3⟩])) ?_ (fun hJ => ?_)
 ·
  rintro ⟨vL, g⟩ W ⟨BP, HB, HA, HL, HP⟩
  clear hHeld
  refine norm_ (a' := ?_) ?_ ?_
  rotate_left
  ·
   simp only [putAll, Act.put, List.setIfInBounds_toArray, List.set_cons_zero, List.set_cons_succ]
   rfl
  obtain ⟨AL, cL, rfl⟩ := Kd.V_slice HL.out
  refine hcall 4 (some 20) 11 #[.slice (some ⟨g, 0, none⟩) 1 1] (stowagelaw14_Refs.calls k (some ⟨g, 0, none⟩) 1 [⟨a1_0, a1_1, a1_2, l1_3⟩] (x :: rest) W HP.out (Nat.le_refl _) A3.out) ?_
  rintro e W3 ⟨vR, rfl, ho, hb⟩
  replace BP := am (blk_below BP.out hb)
  replace HB := am (below_step HB.out hb)
  replace HA := am (Kd.V_below HA.out hb)
  replace HL := am (Kd.V_below HL.out hb)
  obtain ⟨g2, cR, rfl, -, -, -⟩ := Kd.S_form ho (Nat.succ_pos _)
  have HR := Kd.S_V (base' := 0) ho
  clear HP hb ho
  obtain ⟨ad, cs, e1, hcl, hK, hcc, -⟩ := Kd.F_get (Kd.V_F HR) z52 0 (Int.le_refl 0) (by rw [List.length_cons]; omega)
  obtain rfl := Option.some.inj e1
  replace hK : Kd.FK k52 W3 (fun _ => True) x cs := hK
  obtain ⟨A3_, c3_, rfl, l3, g3⟩ := k52_openF hK
  have k0 : W3.cell? ⟨g2, 0, none⟩ = some (.int .i64 x.f0) := hcc 0 _ rfl
  have k1 : W3.cell? ⟨g2, 1, none⟩ = some (.int .i64 x.f1) := hcc 1 _ rfl
  have k2 : W3.cell? ⟨g2, 2, none⟩ = some (.string x.f2) := hcc 2 _ rfl
  have k3 : W3.cell? ⟨g2, 3, none⟩ = some (.slice A3_ x.f3.length c3_) := hcc 3 _ rfl
  have HX := am (Kd.V_mk (e := 85) (base := W3.heap.size) l3 g3)
  clear hcl hK hcc e1 HR l3 g3
  refine ⟨_, _, rfl, SH.out _ BP.out, by simp only [Act.put, List.setIfInBounds_toArray, List.set_cons_zero, List.set_cons_succ]; rfl, ?_⟩
  refine hp 5 (some 21) ?_
  refine hval 6 (some 22) (.agg #[.int .i64 x.f0, .int .i64 x.f1, .string x.f2, .slice A3_ x.f3.length c3_]) W3 (SH.out _ BP.out) ?_
  refine hcall 7 (some 23) 18 #[.slice AL rl.length cL, .agg #[.int .i64 x.f0, .int .i64 x.f1, .string x.f2, .slice A3_ x.f3.length c3_]] (stowageref14_Put.calls k (fun _ => True) AL cL rl x.f0 x.f1 x.f2 (fun _ => True) A3_ c3_ x.f3 r3 r2 W3 HL.out HX.out A4.out) ?_
  rintro e W4 ⟨vB, rfl, ho, hb⟩
  replace BP := am (blk_below BP.out hb)
  replace HB := am (below_step HB.out hb)
  replace HA := am (Kd.V_below HA.out hb)
  have HBv := am (Kd.V_mono (Kd.N_V (base' := 0) ho) (fun _ _ => trivial : ∀ k, _ → True))
  clear hb ho HX HL k0 k1 k2 k3 A4
  refine ⟨_, _, rfl, SH.out _ BP.out, by simp only [Act.put, List.setIfInBounds_toArray, List.set_cons_zero, List.set_cons_succ]; rfl, ?_⟩
  refine hp 8 (some 15) ?_
  refine hp 9 (some 24) ?_
  refine hp 10 (some 25) ?_
  refine hp 11 (some 7) ?_
  refine hp 12 (some 8) ?_
  refine done_ (by kernel_rfl) ?_
  obtain ⟨Aa, ca, rfl⟩ := Kd.V_slice HA.out
  obtain ⟨Ab, cb, rfl⟩ := Kd.V_slice HBv.out
  go_upto_region 3 with (fail)
  refine start_ (n := 32) (S := fun w' => w'.cell? ⟨gp, 0, none⟩ = some (.int .i64 a1_0) ∧ w'.cell? ⟨gp, 1, none⟩ = some (.int .i64 a1_1) ∧ w'.cell? ⟨gp, 2, none⟩ = some (.string a1_2) ∧ w'.cell? ⟨gp, 3, none⟩ = some (.slice A1_3 l1_3.length c1_3)) (ds := []) #[false, false, false, false, false, false, false, false, false, false, false, false, false, false, false, false, false, false, false, false, false, false, false, false, false, false, false, false, false, false, false, false] (by kernel_rfl) rfl rfl (SH.out _ BP.out) (fun hHeld => ?_)
  replace BP := am (blk_drew BP.out)
  replace HB := am HB.out.drew
  replace HA := am (Kd.V_drew HA.out)
  replace HBv := am (Kd.V_drew HBv.out)
  generalize W4.drew = V0 at BP HB HA HBv hHeld ⊢
  refine hcall 0 (some 26) 13 #[] (stowagelaw14_awake.calls k true V0 A5.out (gg_below HG.out HB.out)) ?_
  rintro e V1 ⟨rfl, hb⟩
  replace BP := am (blk_below BP.out hb)
  replace HB := am (below_step HB.out hb)
  replace HA := am (Kd.V_below HA.out hb)
  replace HBv := am (Kd.V_below HBv.out hb)
  clear hb hHeld A5
  have hHeld := SH.out _ BP.out
  refine ⟨_, _, rfl, hHeld, by simp only [Act.put, List.setIfInBounds_toArray, List.set_cons_zero, List.set_cons_succ]; rfl, ?_⟩
  refine hp 1 (some 27) ?_
  refine ht 2 (some 28) hHeld ?_
  refine ht 4 (some 30) hHeld ?_
  refine join_ (σ := Nat) 26 #[true, true, true, true, true, true, false, false, false, false, false, false, false, false, false, false, false, false, false, false, false, false, false, false, false, false, false, false, false, false, false, false] (fun g => [(29, .int .i64 ec), (31, .slice (some ⟨g, 0, none⟩) 1 1)]) (fun g W => Aside0 (W.heap[gp]? = some (.cells #[.int .i64 a1_0, .int .i64 a1_1, .string a1_2, .slice A1_3 l1_3.length c1_3] 46 (0, 0))) ∧ Aside0 (Below w.heap.size w W) ∧ Aside0 (Kd.V k46 46 W 0 (fun _ => True) (.slice Aa r1.length ca) r1) ∧ Aside0 (Kd.V k52 52 W 0 (fun _ => True) (.slice Ab r3.length cb) r3) ∧ Aside0 (Kd.C k46 W (some ⟨g, 0, none⟩) 1 [(⟨a1_0, a1_1, a1_2, l1_3⟩ : S46)])) ?_ (fun hJ => ?_)
  ·
   rintro g W ⟨BP, HB, HA, HBv, HP⟩
   clear hHeld
   refine norm_ (a' := ?_) ?_ ?_
   rotate_left
   ·
    simp only [putAll, Act.put, List.setIfInBounds_toArray, List.set_cons_zero, List.set_cons_succ]
    rfl
   refine hcall 6 (some 32) 11 #[.slice (some ⟨g, 0, none⟩) 1 1] (stowagelaw14_Refs.calls k (some ⟨g, 0, none⟩) 1 [⟨a1_0, a1_1, a1_2, l1_3⟩] (x :: rest) W HP.out (Nat.le_refl _) A3.out) ?_
   rintro e W3 ⟨vR, rfl, ho, hb⟩
   replace BP := am (blk_below BP.out hb)
   replace HB := am (below_step HB.out hb)
   replace HA := am (Kd.V_below HA.out hb)
   replace HBv := am (Kd.V_below HBv.out hb)
   obtain ⟨g2, cR, rfl, -, -, -⟩ := Kd.S_form ho (Nat.succ_pos _)
   have HR := Kd.S_V (base' := 0) ho
   clear HP hb ho
   obtain ⟨ad, cs, e1, hcl, hK, hcc, -⟩ := Kd.F_get (Kd.V_F HR) z52 0 (Int.le_refl 0) (by rw [List.length_cons]; omega)
   obtain rfl := Option.some.inj e1
   replace hK : Kd.FK k52 W3 (fun _ => True) x cs := hK
   obtain ⟨A3_, c3_, rfl, l3, g3⟩ := k52_openF hK
   have k0 : W3.cell? ⟨g2, 0, none⟩ = some (.int .i64 x.f0) := hcc 0 _ rfl
   have k1 : W3.cell? ⟨g2, 1, none⟩ = some (.int .i64 x.f1) := hcc 1 _ rfl
   have k2 : W3.cell? ⟨g2, 2, none⟩ = some (.string x.f2) := hcc 2 _ rfl
   have k3 : W3.cell? ⟨g2, 3, none⟩ = some (.slice A3_ x.f3.length c3_) := hcc 3 _ rfl
   have LX := am l3
   have HX := am (Kd.F_now g3)
   clear hcl hK hcc e1 HR l3 g3
   refine ⟨_, _, rfl, SH.out _ BP.out, by simp only [Act.put, List.setIfInBounds_toArray, List.set_cons_zero, List.set_cons_succ]; rfl, ?_⟩
   refine hp 7 (some 33) ?_
   refine hval 8 (some 34) (.agg #[.int .i64 x.f0, .int .i64 x.f1, .string x.f2, .slice A3_ x.f3.length c3_]) W3 (SH.out _ BP.out) ?_
   refine hcall 9 (some 35) 20 #[.agg #[.int .i64 x.f0, .int .i64 x.f1, .string x.f2, .slice A3_ x.f3.length c3_]] (stowageref14_Check.calls k x.f0 x.f1 x.f2 A3_ c3_ x.f3 ec W3 HX.out LX.out A7.out) ?_
   rintro e W4 ⟨rfl, hb⟩
   replace BP := am (blk_below BP.out hb)
   replace HB := am (below_step HB.out hb)
   replace HA := am (Kd.V_below HA.out hb)
   replace HBv := am (Kd.V_below HBv.out hb)
   clear hb HX k0 k1 k2 k3
   refine ⟨_, _, rfl, SH.out _ BP.out, by simp only [Act.put, List.setIfInBounds_toArray, List.set_cons_zero, List.set_cons_succ]; rfl, ?_⟩
   refine hp 10 (some 36) (v := .bool true) ?_ (hy := by intro w'; go_simp; try rfl)
   refine hp 11 (some 37) ?_
   refine hp 12 (some 38) ?_
   refine hp 13 (some 39) ?_
   refine hp 15 (some 41) ?_
   refine hcall 14 (some 40) 11 #[.slice Aa r1.length ca] (stowagelaw14_Refs.calls k Aa ca r1 ra W4 (Kd.V_reads' HA.out).2.2 (Kd.V_reads' HA.out).2.1 A8.out) ?_
   rintro e W5 ⟨vC, rfl, ho, hb⟩
   replace BP := am (blk_below BP.out hb)
   replace HB := am (below_step HB.out hb)
   replace HA := am (Kd.V_below HA.out hb)
   replace HBv := am (Kd.V_below HBv.out hb)
   have HCv := am (Kd.S_V (base' := 0) ho)
   clear hb ho
   obtain ⟨Ac, cc, rfl⟩ := Kd.V_slice HCv.out
   refine ⟨_, _, rfl, SH.out _ BP.out, by simp only [Act.put, List.setIfInBounds_toArray, List.set_cons_zero, List.set_cons_succ]; rfl, ?_⟩
   refine hcall 16 (some 42) 17 #[.slice Ac ra.length cc, .slice Ab r3.length cb] (stowageref14_Same.calls k Ac cc ra Ab cb r3 true W5 (Kd.V_reads' HCv.out).2.2 (Kd.V_reads' HCv.out).2.1 (Kd.V_reads' HBv.out).2.2 (Kd.V_reads' HBv.out).2.1 A9.out) ?_
   rintro e W6 ⟨rfl, hb⟩
   replace BP := am (blk_below BP.out hb)
   replace HB := am (below_step HB.out hb)
   replace HA := am (Kd.V_below HA.out hb)
   replace HBv := am (Kd.V_below HBv.out hb)
   clear hb HCv
   refine ⟨_, _, rfl, SH.out _ BP.out, by simp only [Act.put, List.setIfInBounds_toArray, List.set_cons_zero, List.set_cons_succ]; rfl, ?_⟩
   refine hp 17 (some 43) ?_
   refine hp 18 (some 44) ?_
   refine hp 19 (some 45) ?_
   refine hp 20 (some 46) ?_
   refine hp 21 (some 47) (v := .bool true) ?_ (hy := by intro w'; go_simp; try rfl)
   refine hp 22 (some 48) ?_
   refine hp 23 (some 49) ?_
   refine hp 24 (some 50) ?_
   refine hp 26 (some 52) ?_
   refine hcall 25 (some 51) 22 #[.slice A0 l0.length c0] (parts_Ids.calls k A0 c0 l0 i1 W6 (Kd.C_below HR0.out HB.out) HC0.out A10.out) ?_
   rintro e W7 ⟨vI, rfl, ho, hb⟩
   replace BP := am (blk_below BP.out hb)
   replace HB := am (below_step HB.out hb)
   replace HA := am (Kd.V_below HA.out hb)
   replace HBv := am (Kd.V_below HBv.out hb)
   have HI := am (Kd.R_V (base' := 0) ho)
   clear hb ho
   obtain ⟨Ai, ci, rfl⟩ := Kd.V_slice HI.out
   refine ⟨_, _, rfl, SH.out _ BP.out, by simp only [Act.put, List.setIfInBounds_toArray, List.set_cons_zero, List.set_cons_succ]; rfl, ?_⟩
   refine hcall 27 (some 53) 11 #[.slice A0 l0.length c0] (stowagelaw14_Refs.calls k A0 c0 l0 rl W7 (Kd.C_below HR0.out HB.out) HC0.out A2.out) ?_
   rintro e W8 ⟨vD, rfl, ho, hb⟩
   replace BP := am (blk_below BP.out hb)
   replace HB := am (below_step HB.out hb)
   replace HA := am (Kd.V_below HA.out hb)
   replace HBv := am (Kd.V_below HBv.out hb)
   replace HI := am (Kd.V_below HI.out hb)
   have HD := am (Kd.S_V (base' := 0) ho)
   clear hb ho
   obtain ⟨Ad, cd, rfl⟩ := Kd.V_slice HD.out
   refine ⟨_, _, rfl, SH.out _ BP.out, by simp only [Act.put, List.setIfInBounds_toArray, List.set_cons_zero, List.set_cons_succ]; rfl, ?_⟩
   refine hcall 28 (some 54) 23 #[.slice Ad rl.length cd] (stowageref14_Ids.calls k Ad cd rl i2 W8 (Kd.V_reads' HD.out).2.2 (Kd.V_reads' HD.out).2.1 A11.out) ?_
   rintro e W9 ⟨vE, rfl, ho, hb⟩
   replace BP := am (blk_below BP.out hb)
   replace HB := am (below_step HB.out hb)
   replace HA := am (Kd.V_below HA.out hb)
   replace HBv := am (Kd.V_below HBv.out hb)
   replace HI := am (Kd.V_below HI.out hb)
   have HE := am (Kd.R_V (base' := 0) ho)
   clear hb ho
   obtain ⟨Ae, ce, rfl⟩ := Kd.V_slice HE.out
   refine ⟨_, _, rfl, SH.out _ BP.out, by simp only [Act.put, List.setIfInBounds_toArray, List.set_cons_zero, List.set_cons_succ]; rfl, ?_⟩
   refine hcall 29 (some 55) 21 #[.slice Ai i1.length ci, .slice Ae i2.length ce] (stowagelaw01_Same.calls k Ai ci i1 Ae ce i2 true W9 (Kd.V_reads' HI.out).2.2 (Kd.V_reads' HI.out).2.1 (Kd.V_reads' HE.out).2.2 (Kd.V_reads' HE.out).2.1 A12.out) ?_
   rintro e W10 ⟨rfl, ⟨nd, rfl⟩⟩
   have hb := pw_below_drewN (Below.refl W9.heap.size W9) nd
   replace BP := am (blk_below BP.out hb)
   replace HB := am (below_step HB.out hb)
   replace HA := am (Kd.V_below HA.out hb)
   replace HBv := am (Kd.V_below HBv.out hb)
   clear hb
   refine ⟨_, _, rfl, SH.out _ BP.out, by simp only [Act.put, List.setIfInBounds_toArray, List.set_cons_zero, List.set_cons_succ]; rfl, ?_⟩
   refine hp 30 (some 56) ?_
   refine hp 31 (some 4) ?_
   refine done_ (by kernel_rfl) ?_
   go_wp2
   go_ret
   exact ⟨rfl, HB.out⟩
  ·
   refine two_ (i := 3) (j := 5) (Ni := some 29) (Nj := some 31) #[true, true, true, true, true, false, false, false, false, false, false, false, false, false, false, false, false, false, false, false, false, false, false, false, false, false, false, false, false, false, false, false] #[true, true, true, false, true, true, false, false, false, false, false, false, false, false, false, false, false, false, false, false, false, false, false, false, false, false, false, false, false, false, false, false] rfl rfl rfl rfl (by kernel_rfl) (by decide) (by decide) (fun K hK => ?_) (fun K hK => ?_)
   ·
    refine goes_ Tryd.func19 (by kernel_rfl) rfl #[.agg #[.int .i64 a1_0, .int .i64 a1_1, .string a1_2, .slice A1_3 l1_3.length c1_3]] rfl rfl rfl gl ?_
    refine (parts_Check.calls k a1_0 a1_1 a1_2 A1_3 c1_3 l1_3 ec V1 (Kd.C_below HR1.out HB.out) HC1.out A6.out).mono ?_
    rintro e W2 ⟨rfl, hb⟩
    replace BP := am (blk_below BP.out hb)
    replace HB := am (below_step HB.out hb)
    replace HA := am (Kd.V_below HA.out hb)
    replace HBv := am (Kd.V_below HBv.out hb)
    refine ⟨_, rfl, hK.out _ _ (SH.out _ BP.out) (fun _ => ?_)⟩
    clear hK K hb
    refine norm_ (a' := ?_) ?_ ?_
    rotate_left
    ·
     simp only [Act.put, List.setIfInBounds_toArray, List.set_cons_zero, List.set_cons_succ]
     rfl
    have BA := am (below_alloc (Below.refl W2.heap.size W2) (.cells #[.int .i64 a1_0, .int .i64 a1_1, .string a1_2, .slice A1_3 l1_3.length c1_3] 46 (0, 0)))
    refine hval 5 (some 31) (.slice (some ⟨W2.heap.size, 0, none⟩) 1 1) (W2.alloc (.cells #[.int .i64 a1_0, .int .i64 a1_1, .string a1_2, .slice A1_3 l1_3.length c1_3] 46 (0, 0))) (SH.out _ (blk_below BP.out BA.out)) ?_
    exact hJ W2.heap.size _ ⟨am (blk_below BP.out BA.out), am (below_step HB.out BA.out), am (Kd.V_below HA.out BA.out), am (Kd.V_below HBv.out BA.out), am (parts_Put_one_C (⟨a1_0, a1_1, a1_2, l1_3⟩ : S46) HC1.out (Kd.C_below HR1.out HB.out))⟩
   ·
    have BA := am (below_alloc (Below.refl V1.heap.size V1) (.cells #[.int .i64 a1_0, .int .i64 a1_1, .string a1_2, .slice A1_3 l1_3.length c1_3] 46 (0, 0)))
    refine value_ (v := .slice (some ⟨V1.heap.size, 0, none⟩) 1 1) (w1 := V1.alloc (.cells #[.int .i64 a1_0, .int .i64 a1_1, .string a1_2, .slice A1_3 l1_3.length c1_3] 46 (0, 0))) rfl rfl (by first | (go_simp; done) | (go_simp; rfl) | (go_simp; constructor <;> rfl)) ?_
    refine hK.out _ _ (SH.out _ (blk_below BP.out BA.out)) (fun _ => ?_)
    clear hK K
    have HP1 := am (parts_Put_one_C (⟨a1_0, a1_1, a1_2, l1_3⟩ : S46) HC1.out (Kd.C_below HR1.out HB.out))
    replace BP := am (blk_below BP.out BA.out)
    replace HB := am (below_step HB.out BA.out)
    replace HA := am (Kd.V_below HA.out BA.out)
    replace HBv := am (Kd.V_below HBv.out BA.out)
    generalize hX : (V1.alloc (.cells #[.int .i64 a1_0, .int .i64 a1_1, .string a1_2, .slice A1_3 l1_3.length c1_3] 46 (0, 0))) = X at HB BP HP1 HA HBv ⊢
    clear hX BA
    refine norm_ (a' := ?_) ?_ ?_
    rotate_left
    ·
     simp only [Act.put, List.setIfInBounds_toArray, List.set_cons_zero, List.set_cons_succ]
     rfl
    refine hcall 3 (some 29) 19 #[.agg #[.int .i64 a1_0, .int .i64 a1_1, .string a1_2, .slice A1_3 l1_3.length c1_3]] (parts_Check.calls k a1_0 a1_1 a1_2 A1_3 c1_3 l1_3 ec X (Kd.C_below HR1.out HB.out) HC1.out A6.out) ?_
    rintro e W2 ⟨rfl, hb⟩
    replace BP := am (blk_below BP.out hb)
    replace HB := am (below_step HB.out hb)
    replace HA := am (Kd.V_below HA.out hb)
    replace HBv := am (Kd.V_below HBv.out hb)
    replace HP1 := am (Kd.C_below HP1.out hb)
    refine ⟨_, _, rfl, SH.out _ BP.out, rfl, ?_⟩
    exact hJ V1.heap.size _ ⟨BP, HB, HA, HBv, HP1⟩
 ·
  refine two_ (i := 1) (j := 3) (Ni := some 17) (Nj := some 19) #[true, true, true, false, false, false, false, false, false, false, false, false, false] #[true, false, true, true, false, false, false, false, false, false, false, false, false] rfl rfl rfl rfl (by kernel_rfl) (by decide) (by decide) (fun K hK => ?_) (fun K hK => ?_)
  ·
   refine goes_ Tryd.func11 (by kernel_rfl) rfl #[.slice A0 l0.length c0] rfl rfl rfl gl ?_
   refine (stowagelaw14_Refs.calls k A0 c0 l0 rl W1 (Kd.C_below HR0.out HB.out) HC0.out A2.out).mono ?_
   rintro e W2 ⟨vL, rfl, ho, hb⟩
   have HV := am (Kd.S_V (base' := 0) ho)
   have HB' := am (below_step HB.out hb)
   have BP' := am (blk_below BP.out hb)
   refine ⟨_, rfl, hK.out _ _ (SH.out _ BP'.out) (fun _ => ?_)⟩
   clear hK K
   refine norm_ (a' := ?_) ?_ ?_
   rotate_left
   ·
    simp only [Act.put, List.setIfInBounds_toArray, List.set_cons_zero, List.set_cons_succ]
    rfl
   have BA := am (below_alloc (Below.refl W2.heap.size W2) (.cells #[.int .i64 a1_0, .int .i64 a1_1, .string a1_2, .slice A1_3 l1_3.length c1_3] 46 (0, 0)))
   refine hval 3 (some 19) (.slice (some ⟨W2.heap.size, 0, none⟩) 1 1) (W2.alloc (.cells #[.int .i64 a1_0, .int .i64 a1_1, .string a1_2, .slice A1_3 l1_3.length c1_3] 46 (0, 0))) (SH.out _ (blk_below BP'.out BA.out)) ?_
   exact hJ (vL, W2.heap.size) _ ⟨am (blk_below BP'.out BA.out), am (below_step HB'.out BA.out), am (Kd.V_below (Kd.V_below HA.out hb) BA.out), am (Kd.V_below HV.out BA.out), am (parts_Put_one_C (⟨a1_0, a1_1, a1_2, l1_3⟩ : S46) HC1.out (Kd.C_below HR1.out HB'.out))⟩
  ·
   have BA := am (below_alloc (Below.refl W1.heap.size W1) (.cells #[.int .i64 a1_0, .int .i64 a1_1, .string a1_2, .slice A1_3 l1_3.length c1_3] 46 (0, 0)))
   refine value_ (v := .slice (some ⟨W1.heap.size, 0, none⟩) 1 1) (w1 := W1.alloc (.cells #[.int .i64 a1_0, .int .i64 a1_1, .string a1_2, .slice A1_3 l1_3.length c1_3] 46 (0, 0))) rfl rfl (by first | (go_simp; done) | (go_simp; rfl) | (go_simp; constructor <;> rfl)) ?_
   refine hK.out _ _ (SH.out _ (blk_below BP.out BA.out)) (fun _ => ?_)
   clear hK K
   have HB1 := am (below_step HB.out BA.out)
   have BP1 := am (blk_below BP.out BA.out)
   have HP1 := am (parts_Put_one_C (⟨a1_0, a1_1, a1_2, l1_3⟩ : S46) HC1.out (Kd.C_below HR1.out HB.out))
   have HA1 := am (Kd.V_below HA.out BA.out)
   generalize hX : (W1.alloc (.cells #[.int .i64 a1_0, .int .i64 a1_1, .string a1_2, .slice A1_3 l1_3.length c1_3] 46 (0, 0))) = X at HB1 BP1 HP1 HA1 ⊢
   clear hX BA
   refine norm_ (a' := ?_) ?_ ?_
   rotate_left
   ·
    simp only [Act.put, List.setIfInBounds_toArray, List.set_cons_zero, List.set_cons_succ]
    rfl
   refine hcall 1 (some 17) 11 #[.slice A0 l0.length c0] (stowagelaw14_Refs.calls k A0 c0 l0 rl X (Kd.C_below HR0.out HB1.out) HC0.out A2.out) ?_
   rintro e W2 ⟨vL, rfl, ho, hb⟩
   have HV := am (Kd.S_V (base' := 0) ho)
   refine ⟨_, _, rfl, SH.out _ (blk_below BP1.out hb), rfl, ?_⟩
   exact hJ (vL, W1.heap.size) _ ⟨am (blk_below BP1.out hb), am (below_step HB1.out hb), am (Kd.V_below HA1.out hb), am HV.out, am (Kd.C_below HP1.out hb)⟩
theorem stowagelaw14_PartsPuts.calls (k : Nat) (A0 : Option Addr) (c0 : Nat) (l0 : List (S46)) (a1_0 : Int) (a1_1 : Int) (a1_2 : ByteArray) (A1_3 : Option Addr) (c1_3 : Nat) (l1_3 : List (S63)) (r : Bool) (w : World) (hr0 : Kd.C k46 w A0 l0.length l0) (hc0 : l0.length ≤ c0) (hr1_3 : Kd.C k63 w A1_3 l1_3.length l1_3) (hc1_3 : l1_3.length ≤ c1_3) (h : stowagelaw14_PartsPuts.f k l0 a1_0 a1_1 a1_2 l1_3 = some r) (hG : GG w) :
  Calls Tryd.prog 5 #[.slice A0 l0.length c0, .agg #[.int .i64 a1_0, .int .i64 a1_1, .string a1_2, .slice A1_3 l1_3.length c1_3]] w fun e w' => e = .returned (.bool r) ∧ Below w.heap.size w w' := by
 unfold stowagelaw14_PartsPuts.f at h
 obtain ⟨⟨r1, r2⟩, h1, h⟩ := Option.bind_eq_some_iff.mp h
 obtain ⟨rl, hrl, h⟩ := Option.bind_eq_some_iff.mp h
 obtain ⟨rp, hrp, h⟩ := Option.bind_eq_some_iff.mp h
 cases rp with
 | nil => cases h
 | cons x rest =>
  obtain ⟨⟨r3, r4⟩, hrq, h⟩ := Option.bind_eq_some_iff.mp h
  obtain ⟨v, h5, h⟩ := Option.bind_eq_some_iff.mp h
  obtain ⟨c, h6, h⟩ := Option.bind_eq_some_iff.mp h
  obtain ⟨d, h7, h⟩ := Option.bind_eq_some_iff.mp h
  obtain ⟨ra, h8, h⟩ := Option.bind_eq_some_iff.mp h
  obtain ⟨s, h9, h⟩ := Option.bind_eq_some_iff.mp h
  obtain ⟨i1, h10, h⟩ := Option.bind_eq_some_iff.mp h
  obtain ⟨i2, h11, h⟩ := Option.bind_eq_some_iff.mp h
  obtain ⟨t, h12, h⟩ := Option.bind_eq_some_iff.mp h
  by_cases hc : v = true ∧ c = d ∧ s = true ∧ r2 = r4 ∧ t = true
  ·
   obtain ⟨rfl, rfl, rfl, rfl, rfl⟩ := hc
   rw [if_pos ⟨rfl, rfl, rfl, rfl, rfl⟩] at h
   obtain rfl := Option.some.inj h
   exact stowagelaw14_PartsPuts_walk k A0 c0 l0 a1_0 a1_1 a1_2 A1_3 c1_3 l1_3 r1 r2 w hr0 hc0 hr1_3 hc1_3 h1 rl rest r3 x hrl hrp hrq c ra i1 i2 h5 h6 h7 h8 h9 h10 h11 h12 hG
  ·
   rw [if_neg hc] at h
   cases h
end Go.Proofs.YtoiockmmlanimaaDoor.Op
end
section
namespace Go.Proofs.YtoiockmmlanimaaDoor.Pure
open Go.RowKit Go.Proofs.YtoiockmmlanimaaDoor.Op Go.Proofs.YtoiockmmlanimaaDoorW.PrintWords Go.Proofs.YtoiockmmlanimaaDoorW.PrintLast Go.Proofs.YtoiockmmlanimaaDoorW.PrintMore
set_option linter.unusedVariables false
set_option linter.unusedSimpArgs false
theorem own_go (l : List Part) (hl : l.length ≤ 1048576) (hp : ∀ p ∈ l, p.f3.length ≤ 1048576) : ∀ n i k (acc : List Part), i + n = l.length → n < k → acc.length ≤ i → parts_own.l0 k acc l (l.length : Int) (i : Int) = some (acc ++ l.drop i) := by
 intro n
 induction n with
 | zero =>
  intro i k acc hi hk ha
  obtain ⟨k, rfl⟩ : ∃ j, k = j + 1 := ⟨k - 1, by omega⟩
  rw [parts_own.l0, if_neg (by omega), List.drop_of_length_le (by omega), List.append_nil]
 | succ n ih =>
  intro i k acc hi hk ha
  obtain ⟨k, rfl⟩ : ∃ j, k = j + 1 := ⟨k - 1, by omega⟩
  have hc : api_Piece.f (rdP l i).f3 = some (rdP l i).f3 := by
   unfold api_Piece.f
   rw [if_pos (by have := hp _ (memP l i (by omega)); omega)]
  rw [parts_own.l0, if_pos (by omega), if_pos (by omega), if_pos (by omega)]
  show (api_Piece.f (rdP l i).f3).bind _ = _
  rw [hc, Option.bind_some, if_pos (by omega), w1 i (by omega), ih (i + 1) k _ (by omega) (by omega) (by rw [List.length_append, List.length_singleton]; omega), dropP l i (by omega), List.append_assoc]
  rfl
theorem own_eq (l : List Part) (hl : l.length ≤ 1048576) (hp : ∀ p ∈ l, p.f3.length ≤ 1048576) (k : Nat) (hk : 1048577 ≤ k) : parts_own.f k l = some l := by
 unfold parts_own.f
 exact (own_go l hl hp l.length 0 k [] (by omega) (by omega) (Nat.le_refl _)).trans rfl
theorem rd_get (l : List Part) (q : Nat) (hq : q < l.length) : rdP l q = l[q] := by
 show l.getD (q : Int).toNat _ = _
 rw [Int.toNat_natCast, List.getD_eq_getElem?_getD, List.getElem?_eq_getElem hq]
 rfl
theorem find_at (l : List Part) (h : Good l) (t : Int) (h1 : 1 ≤ t) (h2 : t ≤ 100) : ∃ R, R ≤ l.length ∧ (∀ m, m < R → (rdP l m).f0 < t) ∧ (∀ m, R ≤ m → m < l.length → t ≤ (rdP l m).f0) ∧ parts_find.f l t = some ((R : Int), decide (R < l.length ∧ (rdP l R).f0 = t)) := by
 have hll := h.small.len
 obtain ⟨b1, b2, b3⟩ := bs_spec l h t h1 h2 l.length 0 l.length (Nat.zero_le _) (Nat.le_refl _) (Nat.le_refl _) (fun q hq => absurd hq (Nat.not_lt_zero _)) (fun q hq hq2 => absurd hq (by omega))
 obtain ⟨R, hR⟩ : ∃ R, parts_find_bs l t l.length 0 l.length = R := ⟨_, rfl⟩
 rw [hR] at b1 b2 b3
 refine ⟨R, b1, b2, b3, ?_⟩
 unfold parts_find.f
 rw [if_pos (by omega), hR]
 congr 2
 by_cases hl : R < l.length
 ·
  have hc := chk_parts (h.chk _ (memP l R hl))
  rw [decide_eq_true hl, Bool.true_and]
  show (wrap64 ((rdP l R).f0 - t) == 0) = _
  rw [IntWalk.wrap64_in _ (by omega)]
  by_cases he : (rdP l R).f0 = t
  ·
   rw [he, Int.sub_self, decide_eq_true ⟨hl, rfl⟩]
   rfl
  ·
   rw [decide_eq_false (fun hh => he hh.2)]
   simp
   omega
 ·
  rw [decide_eq_false hl, Bool.false_and, decide_eq_false (fun hh => hl hh.1)]
def ins (l : List Part) (p : Part) : List Part := l.filter (fun q => decide (q.f0 < p.f0)) ++ p :: l.filter (fun q => decide (p.f0 < q.f0))
theorem rB_of : ∀ (l : List Part) (o : Option Int), (∀ p ∈ l, chk p = true) → l.Pairwise (fun x y => x.f0 < y.f0) → (∀ n, o = some n → ∀ p ∈ l, n < p.f0) → rB o l = true
 | [], _, _, _, _ => rfl
 | p :: r, o, h1, h2, h3 => by
  rw [List.pairwise_cons] at h2
  rw [rB, h1 p List.mem_cons_self, rB_of r (some p.f0) (fun q hq => h1 q (List.mem_cons_of_mem _ hq)) h2.2 (fun n hn q hq => by cases hn; exact h2.1 q hq)]
  cases o with
  | none => rfl
  | some n => simp [okN, h3 n rfl p List.mem_cons_self]
theorem Good.right {l : List Part} (h : Good l) : rB none l = true := rB_of l none h.chk h.asc (fun n hn => by cases hn)
theorem filter_lo (l : List Part) (t : Int) (R : Nat) (hR : R ≤ l.length) (b2 : ∀ m, m < R → (rdP l m).f0 < t) (b3 : ∀ m, R ≤ m → m < l.length → t ≤ (rdP l m).f0) : l.filter (fun q => decide (q.f0 < t)) = l.take R := by
 have e1 : (l.take R).filter (fun q => decide (q.f0 < t)) = l.take R := List.filter_eq_self.2 fun x hx => by
  obtain ⟨m, hm, e⟩ := List.getElem_of_mem hx
  rw [List.length_take] at hm
  rw [List.getElem_take, ← rd_get l m (by omega)] at e
  have := b2 m (by omega)
  rw [e] at this
  exact decide_eq_true this
 have e2 : (l.drop R).filter (fun q => decide (q.f0 < t)) = [] := List.filter_eq_nil_iff.2 fun x hx => by
  obtain ⟨m, hm, e⟩ := List.getElem_of_mem hx
  rw [List.length_drop] at hm
  rw [List.getElem_drop, ← rd_get l (R + m) (by omega)] at e
  have := b3 (R + m) (by omega) (by omega)
  rw [e] at this
  simp
  exact this
 conv => lhs; rw [← List.take_append_drop R l]
 rw [List.filter_append, e1, e2, List.append_nil]
theorem filter_hi (l : List Part) (t : Int) (R : Nat) (hR : R ≤ l.length) (b2 : ∀ m, m < R → (rdP l m).f0 ≤ t) (b3 : ∀ m, R ≤ m → m < l.length → t < (rdP l m).f0) : l.filter (fun q => decide (t < q.f0)) = l.drop R := by
 have e1 : (l.take R).filter (fun q => decide (t < q.f0)) = [] := List.filter_eq_nil_iff.2 fun x hx => by
  obtain ⟨m, hm, e⟩ := List.getElem_of_mem hx
  rw [List.length_take] at hm
  rw [List.getElem_take, ← rd_get l m (by omega)] at e
  have := b2 m (by omega)
  rw [e] at this
  simp
  exact this
 have e2 : (l.drop R).filter (fun q => decide (t < q.f0)) = l.drop R := List.filter_eq_self.2 fun x hx => by
  obtain ⟨m, hm, e⟩ := List.getElem_of_mem hx
  rw [List.length_drop] at hm
  rw [List.getElem_drop, ← rd_get l (R + m) (by omega)] at e
  have := b3 (R + m) (by omega) (by omega)
  rw [e] at this
  exact decide_eq_true this
 conv => lhs; rw [← List.take_append_drop R l]
 rw [List.filter_append, e1, e2, List.nil_append]
theorem put_eq (l : List Part) (h : Good l) (hl : l.length ≤ 100000) (p : Part) (hp : SmallPart p) (hc : chk p = true) (k : Nat) (hk : 2300000 ≤ k) : parts_Put.f k l p.f0 p.f1 p.f2 p.f3 = some (ins l p, 0) := by
 have hcp := chk_parts hc
 obtain ⟨R, b1, b2, b3, hf⟩ := find_at l h p.f0 hcp.1 hcp.2.1
 unfold parts_Put.f
 rw [right_eq l h.small k (by omega), h.right, Option.bind_some, if_pos rfl, check_eq p hp k (by omega), hc, if_pos rfl, Option.bind_some, if_pos rfl,
  own_eq l h.small.len (fun q hq => (h.small.each q hq).len) k (by omega), Option.bind_some, own_eq [(⟨p.f0, p.f1, p.f2, p.f3⟩ : Part)] (by show (1 : Nat) ≤ 1048576; decide) (fun q hq => by
   rw [List.mem_singleton] at hq
   subst hq
   exact hp.len) k (by omega), Option.bind_some, if_pos (show 0 < [(⟨p.f0, p.f1, p.f2, p.f3⟩ : Part)].length from Nat.zero_lt_one), hf, Option.bind_some]
 show parts_Put_put l p (R : Int) (decide (R < l.length ∧ (rdP l R).f0 = p.f0)) = _
 unfold parts_Put_put ins
 by_cases hr : R < l.length ∧ (rdP l R).f0 = p.f0
 ·
  obtain ⟨h1, h2⟩ := hr
  rw [decide_eq_true ⟨h1, h2⟩, if_pos rfl, if_pos (by omega), Int.toNat_natCast, filter_lo l p.f0 R b1 b2 b3, filter_hi l p.f0 (R + 1) (by omega) (fun m hm => by
   rcases Nat.lt_or_ge m R with h3 | h3
   ·
    have := b2 m h3; omega
   ·
    obtain rfl : m = R := by omega
    omega) (fun m hm hm2 => by have := h.lt R m (by omega) hm2; omega), List.set_eq_take_append_cons_drop, if_pos h1]
 ·
  have h3 : ∀ m, R ≤ m → m < l.length → p.f0 < (rdP l m).f0 := fun m hm hm2 => by
   have h4 := b3 m hm hm2
   by_cases he : (rdP l m).f0 = p.f0
   ·
    rcases Nat.eq_or_lt_of_le hm with rfl | hlt
    ·
     exact absurd ⟨hm2, he⟩ hr
    ·
     have := h.lt R m hlt hm2
     have := b3 R (Nat.le_refl _) (by omega)
     omega
   ·
    omega
  rw [decide_eq_false hr, if_neg (by decide), if_pos (by omega), Int.toNat_natCast, filter_lo l p.f0 R b1 b2 b3, filter_hi l p.f0 R b1 (fun m hm => by have := b2 m hm; omega) h3]
theorem put_no (l : List Part) (h : Good l) (p : Part) (hp : SmallPart p) (hc : chk p = false) (k : Nat) (hk : 2300000 ≤ k) : parts_Put.f k l p.f0 p.f1 p.f2 p.f3 = some ([], 1) := by
 unfold parts_Put.f
 rw [right_eq l h.small k (by omega), h.right, Option.bind_some, if_pos rfl, check_eq p hp k (by omega), hc, if_neg (by decide), Option.bind_some, if_neg (by decide)]
theorem mem_ins (l : List Part) (p x : Part) : x ∈ ins l p ↔ x = p ∨ (x ∈ l ∧ x.f0 ≠ p.f0) := by
 unfold ins
 rw [List.mem_append, List.mem_cons, List.mem_filter, List.mem_filter, decide_eq_true_eq, decide_eq_true_eq]
 constructor
 ·
  rintro (⟨h1, h2⟩ | rfl | ⟨h1, h2⟩)
  ·
   exact .inr ⟨h1, by omega⟩
  ·
   exact .inl rfl
  ·
   exact .inr ⟨h1, by omega⟩
 ·
  rintro (rfl | ⟨h1, h2⟩)
  ·
   exact .inr (.inl rfl)
  ·
   rcases Int.lt_or_gt_of_ne h2 with h3 | h3
   ·
    exact .inl ⟨h1, h3⟩
   ·
    exact .inr (.inr ⟨h1, h3⟩)
theorem two_filters (t : Int) : ∀ l : List Part, (l.filter (fun q => decide (q.f0 < t))).length + (l.filter (fun q => decide (t < q.f0))).length ≤ l.length
 | [] => Nat.le_refl _
 | p :: l => by
  have := two_filters t l
  rw [List.filter_cons, List.filter_cons, List.length_cons]
  by_cases h1 : p.f0 < t
  ·
   rw [if_pos (decide_eq_true h1), if_neg (by simp; omega), List.length_cons]; omega
  ·
   rw [if_neg (by simpa using h1)]
   split
   ·
    rw [List.length_cons]; omega
   ·
    omega
theorem len_ins (l : List Part) (p : Part) : (ins l p).length ≤ l.length + 1 := by
 have := two_filters p.f0 l
 unfold ins
 rw [List.length_append, List.length_cons]
 omega
theorem good_ins (l : List Part) (h : Good l) (hl : l.length ≤ 100000) (p : Part) (hp : SmallPart p) (hc : chk p = true) : Good (ins l p) := by
 have hlen := len_ins l p
 refine ⟨⟨by omega, fun x hx => ?_⟩, fun x hx => ?_, ?_⟩
 ·
  rcases (mem_ins l p x).1 hx with rfl | h1
  ·
   exact hp
  ·
   exact h.small.each x h1.1
 ·
  rcases (mem_ins l p x).1 hx with rfl | h1
  ·
   exact hc
  ·
   exact h.chk x h1.1
 ·
  unfold ins
  rw [List.pairwise_append, List.pairwise_cons]
  refine ⟨h.asc.filter _, ⟨fun x hx => ?_, h.asc.filter _⟩, fun x hx y hy => ?_⟩
  ·
   simpa using (List.mem_filter.1 hx).2
  ·
   have h1 : x.f0 < p.f0 := by simpa using (List.mem_filter.1 hx).2
   rcases List.mem_cons.1 hy with rfl | hy
   ·
    exact h1
   ·
    have h2 : p.f0 < y.f0 := by simpa using (List.mem_filter.1 hy).2
    omega
theorem good_nil : Good ([] : List Part) := ⟨⟨by decide, fun x hx => (by cases hx)⟩, fun x hx => (by cases hx), List.Pairwise.nil⟩
abbrev RPiece := S85
abbrev RPart := S52
def refC (c : Piece) : RPiece := ⟨c.f0, c.f1⟩
def refP (p : Part) : RPart := ⟨p.f0, p.f1, p.f2, p.f3.map refC⟩
theorem piece_go (l : List Piece) (hl : l.length ≤ 1048576) : ∀ n i k (acc : List RPiece), i + n = l.length → n < k → acc.length ≤ i → stowagelaw13_Piece.l0 k l acc (i : Int) = some (acc ++ (l.drop i).map refC) := by
 intro n
 induction n with
 | zero =>
  intro i k acc hi hk ha
  obtain ⟨k, rfl⟩ : ∃ j, k = j + 1 := ⟨k - 1, by omega⟩
  rw [stowagelaw13_Piece.l0, if_neg (by omega), List.drop_of_length_le (by omega), List.map_nil, List.append_nil]
 | succ n ih =>
  intro i k acc hi hk ha
  obtain ⟨k, rfl⟩ : ∃ j, k = j + 1 := ⟨k - 1, by omega⟩
  rw [stowagelaw13_Piece.l0, if_pos (by omega), if_pos (by omega), if_pos (by omega), w1 i (by omega), ih (i + 1) k _ (by omega) (by omega) (by rw [List.length_append, List.length_singleton]; omega), dropC l i (by omega), List.map_cons, List.append_assoc]
  rfl
theorem piece_eq (l : List Piece) (hl : l.length ≤ 1048576) (k : Nat) (hk : 1048577 ≤ k) : stowagelaw13_Piece.f k l = some (l.map refC) := by
 unfold stowagelaw13_Piece.f
 exact (piece_go l hl l.length 0 k [] (by omega) (by omega) (Nat.le_refl _)).trans rfl
theorem refs_go (l : List Part) (hl : l.length ≤ 1048576) (hp : ∀ p ∈ l, p.f3.length ≤ 1048576) : ∀ n i k (acc : List RPart), i + n = l.length → n + 1048577 < k → acc.length ≤ i → stowagelaw14_Refs.l0 k l acc (i : Int) = some (acc ++ (l.drop i).map refP) := by
 intro n
 induction n with
 | zero =>
  intro i k acc hi hk ha
  obtain ⟨k, rfl⟩ : ∃ j, k = j + 1 := ⟨k - 1, by omega⟩
  rw [stowagelaw14_Refs.l0, if_neg (by omega), List.drop_of_length_le (by omega), List.map_nil, List.append_nil]
 | succ n ih =>
  intro i k acc hi hk ha
  obtain ⟨k, rfl⟩ : ∃ j, k = j + 1 := ⟨k - 1, by omega⟩
  rw [stowagelaw14_Refs.l0, if_pos (by omega), if_pos (by omega)]
  show (stowagelaw13_Piece.f k (rdP l i).f3).bind _ = _
  rw [piece_eq _ (hp _ (memP l i (by omega))) k (by omega), Option.bind_some, if_pos (by omega), w1 i (by omega), ih (i + 1) k _ (by omega) (by omega) (by rw [List.length_append, List.length_singleton]; omega), dropP l i (by omega), List.map_cons, List.append_assoc]
  rfl
theorem refs_eq (l : List Part) (hl : l.length ≤ 1048576) (hp : ∀ p ∈ l, p.f3.length ≤ 1048576) (k : Nat) (hk : 2200000 ≤ k) : stowagelaw14_Refs.f k l = some (l.map refP) := by
 unfold stowagelaw14_Refs.f
 exact (refs_go l hl hp l.length 0 k [] (by omega) (by omega) (Nat.le_refl _)).trans rfl
theorem same13_go (a : Int) (b : Bool) (c : Int) (s : ByteArray) (l : List RPiece) (hl : l.length ≤ 1048576) : ∀ n i k, i + n = l.length → n < k → stowageref13_Same.l0 k (i : Int) a b c s l a b c s l = some true := by
 intro n
 induction n with
 | zero =>
  intro i k hi hk
  obtain ⟨k, rfl⟩ : ∃ j, k = j + 1 := ⟨k - 1, by omega⟩
  rw [stowageref13_Same.l0, if_neg (by omega)]
 | succ n ih =>
  intro i k hi hk
  obtain ⟨k, rfl⟩ : ∃ j, k = j + 1 := ⟨k - 1, by omega⟩
  rw [stowageref13_Same.l0, if_pos (by omega), if_pos (by omega), if_pos (by omega), if_neg (by simp), w1 i (by omega)]
  exact ih (i + 1) k (by omega) (by omega)
theorem same13_eq (a : Int) (b : Bool) (c : Int) (s : ByteArray) (l : List RPiece) (hl : l.length ≤ 1048576) (k : Nat) (hk : 1048578 ≤ k) : stowageref13_Same.f k a b c s l a b c s l = some true := by
 obtain ⟨k, rfl⟩ : ∃ j, k = j + 1 := ⟨k - 1, by omega⟩
 rw [stowageref13_Same.f, if_pos rfl, if_neg (by simp), if_pos rfl, if_pos rfl, stowageref13_Same.j0, if_neg (by simp)]
 exact same13_go a b c s l hl l.length 0 k (by omega) (by omega)
theorem same_go (l : List RPart) (hl : l.length ≤ 1048576) (hp : ∀ p ∈ l, p.f3.length ≤ 1048576) : ∀ n i k, i + n = l.length → n + 1048578 < k → stowageref14_Same.l0 k l l (i : Int) = some true := by
 intro n
 induction n with
 | zero =>
  intro i k hi hk
  obtain ⟨k, rfl⟩ : ∃ j, k = j + 1 := ⟨k - 1, by omega⟩
  rw [stowageref14_Same.l0, if_neg (by omega)]
 | succ n ih =>
  intro i k hi hk
  obtain ⟨k, rfl⟩ : ∃ j, k = j + 1 := ⟨k - 1, by omega⟩
  have hm : rd_T52 l (i : Int) ∈ l := by
   have e : rd_T52 l (i : Int) = l[i]'(by omega) := by
    show l.getD (i : Int).toNat _ = _
    rw [Int.toNat_natCast, List.getD_eq_getElem?_getD, List.getElem?_eq_getElem (by omega)]
    rfl
   rw [e]
   exact List.getElem_mem _
  rw [stowageref14_Same.l0, if_pos (by omega), if_pos (by omega), if_pos (by omega), same13_eq _ _ _ _ _ (hp _ hm) k (by omega), Option.bind_some, if_pos rfl, w1 i (by omega)]
  exact ih (i + 1) k (by omega) (by omega)
theorem same_eq (l : List RPart) (hl : l.length ≤ 1048576) (hp : ∀ p ∈ l, p.f3.length ≤ 1048576) (k : Nat) (hk : 2200000 ≤ k) : stowageref14_Same.f k l l = some true := by
 rw [stowageref14_Same.f, if_pos rfl]
 exact same_go l hl hp l.length 0 k (by omega) (by omega)
theorem un_j4_bad (k : Nat) (a : ByteArray) (x4 : List Int) (x5 x6 x7 : Int) (h : x7 < 0) : stowageref03_Unhex.j4 (k + 1) a x4 x5 x6 x7 = some ((⟨#[]⟩ : ByteArray), 3) := by rw [stowageref03_Unhex.j4, if_pos h]
theorem un_go (a : ByteArray) (hs : a.size ≤ 1048576) : ∀ n i k (acc : List Int) (h : Int), i + n = a.size → 5 * n + 5 < k → acc.length ≤ i → ∃ b, stowageref03_Unhex.l0 k a acc h (i : Int) = some (b, if (a.data.toList.drop i).all Sha.hb = true then 0 else 3) := by
 intro n
 induction n with
 | zero =>
  intro i k acc h hi hk ha
  obtain ⟨k, rfl⟩ : ∃ j, k = j + 1 := ⟨k - 1, by omega⟩
  refine ⟨strOfNums acc, ?_⟩
  rw [stowageref03_Unhex.l0, if_neg (by omega), List.drop_of_length_le (by rw [len_eq]; omega)]
  rfl
 | succ n ih =>
  intro i k acc h hi hk ha
  obtain ⟨k, rfl⟩ : ∃ j, k = j + 1 + 1 + 1 + 1 + 1 := ⟨k - 5, by omega⟩
  obtain ⟨c, hd, hb⟩ := bt_get a i (by omega)
  have hcn : c.toNat < 256 := c.toNat_lt
  have good : ∀ d : Int, 0 ≤ d → Sha.hb c = true → ∃ b, stowageref03_Unhex.j4 (k + 1) a acc h (i : Int) d = some (b, if (c :: a.data.toList.drop (i + 1)).all Sha.hb = true then 0 else 3) := by
   intro d h0 hc
   rw [stowageref03_Unhex.j4, if_neg (by omega), w1 i (by omega)]
   have e : ((c :: a.data.toList.drop (i + 1)).all Sha.hb) = (a.data.toList.drop (i + 1)).all Sha.hb := by rw [List.all_cons, hc, Bool.true_and]
   rw [e]
   split
   ·
    rw [if_pos (by omega)]
    exact ih (i + 1) k _ _ (by omega) (by omega) (by rw [List.length_append, List.length_singleton]; omega)
   ·
    exact ih (i + 1) k _ _ (by omega) (by omega) (by omega)
  have bad : Sha.hb c = false → ((c :: a.data.toList.drop (i + 1)).all Sha.hb) = false := fun hc => by rw [List.all_cons, hc, Bool.false_and]
  rw [hd]
  have j2 : ∀ d : Int, (¬ (97 ≤ c.toNat ∧ c.toNat ≤ 102)) → stowageref03_Unhex.j2 (k + 1 + 1 + 1) a acc h (i : Int) d = stowageref03_Unhex.j4 (k + 1) a acc h (i : Int) d := by
   intro d hn
   rw [stowageref03_Unhex.j2, if_pos (by omega), if_pos (by omega), hb]
   have e : ∀ q : Bool, q = false → stowageref03_Unhex.j3 (k + 1 + 1) a acc h (i : Int) d q = stowageref03_Unhex.j4 (k + 1) a acc h (i : Int) d := fun q hq => by rw [hq, stowageref03_Unhex.j3, if_neg (by decide)]
   by_cases h1 : (c.toNat : Int) ≥ 97
   ·
    rw [if_pos h1]; exact e _ (decide_eq_false (by omega))
   ·
    rw [if_neg h1]; exact e _ rfl
  rw [stowageref03_Unhex.l0, if_pos (by omega), if_pos (by omega), hb]
  by_cases h1 : 48 ≤ c.toNat ∧ c.toNat ≤ 57
  ·
   rw [if_pos (by omega), decide_eq_true (by omega : (c.toNat : Int) ≤ 57), stowageref03_Unhex.j1, if_pos rfl, if_pos (by omega), if_pos (by omega), hb, IntWalk.wrap64_in (c.toNat : Int) (by omega), IntWalk.wrap64_in _ (by omega), j2 _ (by omega)]
   exact good _ (by omega) (by simp [Sha.hb]; omega)
  ·
   have e1 : ∀ q : Bool, q = false → stowageref03_Unhex.j1 (k + 1 + 1 + 1 + 1) a acc h (i : Int) (-1) q = stowageref03_Unhex.j2 (k + 1 + 1 + 1) a acc h (i : Int) (-1) := fun q hq => by rw [hq, stowageref03_Unhex.j1, if_neg (by decide)]
   have e2 : (if (c.toNat : Int) ≥ 48 then stowageref03_Unhex.j1 (k + 1 + 1 + 1 + 1) a acc h (i : Int) (-1) (decide ((c.toNat : Int) ≤ 57)) else stowageref03_Unhex.j1 (k + 1 + 1 + 1 + 1) a acc h (i : Int) (-1) false) = stowageref03_Unhex.j2 (k + 1 + 1 + 1) a acc h (i : Int) (-1) := by
    by_cases h2 : (c.toNat : Int) ≥ 48
    ·
     rw [if_pos h2]; exact e1 _ (decide_eq_false (by omega))
    ·
     rw [if_neg h2]; exact e1 _ rfl
   rw [e2]
   by_cases h3 : 97 ≤ c.toNat ∧ c.toNat ≤ 102
   ·
    rw [stowageref03_Unhex.j2, if_pos (by omega), if_pos (by omega), hb, if_pos (by omega), decide_eq_true (by omega : (c.toNat : Int) ≤ 102), stowageref03_Unhex.j3, if_pos rfl, if_pos (by omega), if_pos (by omega), hb, IntWalk.wrap64_in (c.toNat : Int) (by omega), IntWalk.wrap64_in _ (by omega)]
    exact good _ (by omega) (by simp [Sha.hb]; omega)
   ·
    rw [j2 _ h3, un_j4_bad k a acc h _ _ (by omega), bad (by simp [Sha.hb]; omega)]
    exact ⟨_, rfl⟩
theorem may06_eq (a : ByteArray) (hs : a.size ≤ 1048576) (k : Nat) (hk : 5300000 ≤ k) : stowageref06_May.f k a = some (D a) := by
 unfold stowageref06_May.f stowageref03_Unhex.f
 by_cases h2 : ((a.size : Int) % 2) = 0
 ·
  rw [if_pos h2]
  obtain ⟨b, hb⟩ := un_go a hs a.size 0 k [] 0 (by omega) (by omega) (Nat.le_refl _)
  rw [show ((0 : Nat) : Int) = 0 from rfl, List.drop_zero] at hb
  rw [hb, Option.bind_some]
  unfold D
  cases hc : a.data.toList.all Sha.hb
  ·
   rfl
  ·
   show (if (0 : Int) = 0 then some ((a.size : Int) == 64) else some false) = _
   rw [if_pos rfl, Bool.true_and]
   congr 1
   by_cases h : a.size = 64
   ·
    simp [h]
   ·
    rw [decide_eq_false h]
    simpa using (show ¬ (a.size : Int) = 64 by omega)
 ·
  rw [if_neg h2, Option.bind_some]
  have h : ¬ a.size = 64 := by omega
  unfold D
  rw [decide_eq_false h, Bool.and_false]
  rfl
theorem rd13 (l : List Piece) (i : Nat) (h : i < l.length) : rd_T85 (l.map refC) (i : Int) = refC (rdC l i) := by
 show (l.map refC).getD (i : Int).toNat _ = refC (l.getD (i : Int).toNat _)
 rw [Int.toNat_natCast, List.getD_eq_getElem?_getD, List.getD_eq_getElem?_getD, List.getElem?_map, List.getElem?_eq_getElem h]
 rfl
theorem rd14 (l : List Part) (i : Nat) (h : i < l.length) : rd_T52 (l.map refP) (i : Int) = refP (rdP l i) := by
 show (l.map refP).getD (i : Int).toNat _ = refP (l.getD (i : Int).toNat _)
 rw [Int.toNat_natCast, List.getD_eq_getElem?_getD, List.getD_eq_getElem?_getD, List.getElem?_map, List.getElem?_eq_getElem h]
 rfl
theorem pieces13_go (l : List Piece) (hl : l.length ≤ 1048576) (hs : ∀ y ∈ l, y.f0.size ≤ 1048576) : ∀ n i k (s : Int), i + n = l.length → n + 5300000 < k → 0 ≤ s → s ≤ 4096 * i → stowageref13_Pieces.l0 k (l.map refC) s (i : Int) = some (if 512 < l.length then (0, 1) else pcs (l.drop i) s) := by
 have hm : (l.map refC).length = l.length := List.length_map _
 intro n
 induction n with
 | zero =>
  intro i k s hi hk h0 h1
  obtain ⟨k, rfl⟩ : ∃ j, k = j + 1 := ⟨k - 1, by omega⟩
  rw [stowageref13_Pieces.l0, hm, if_neg (by omega), List.drop_of_length_le (by omega)]
  by_cases h : 512 < l.length
  ·
   rw [if_pos (by omega), if_pos h]
  ·
   rw [if_neg (by omega), if_neg h]
   rfl
 | succ n ih =>
  intro i k s hi hk h0 h1
  obtain ⟨k, rfl⟩ : ∃ j, k = j + 1 := ⟨k - 1, by omega⟩
  have e : (if 512 < l.length then ((0 : Int), (1 : Int)) else (0, 1)) = (0, 1) := by split <;> rfl
  rw [stowageref13_Pieces.l0, hm, if_pos (by omega), if_pos (by omega), rd13 l i (by omega)]
  show (stowageref06_May.f k (rdC l i).f0).bind (fun t => if t = true then (if (rdC l i).f1 < 1 then some (0, 1) else (if (rdC l i).f1 > 4096 then some (0, 1) else stowageref13_Pieces.l0 k (l.map refC) (wrap64 (s + (rdC l i).f1)) (wrap64 ((i : Int) + 1)))) else some (0, 1)) = _
  rw [may06_eq _ (hs _ (memC l i (by omega))) k (by omega), Option.bind_some, dropC l i (by omega), pcs, w1 i (by omega)]
  by_cases hd : D (rdC l i).f0 = true
  ·
   rw [if_pos hd]
   by_cases h2 : (rdC l i).f1 < 1
   ·
    rw [if_pos h2, if_neg (show ¬ (D (rdC l i).f0 = true ∧ 1 ≤ (rdC l i).f1 ∧ (rdC l i).f1 ≤ 4096) from fun h => by omega), e]
   ·
    rw [if_neg h2]
    by_cases h3 : (rdC l i).f1 > 4096
    ·
     rw [if_pos h3, if_neg (show ¬ (D (rdC l i).f0 = true ∧ 1 ≤ (rdC l i).f1 ∧ (rdC l i).f1 ≤ 4096) from fun h => by omega), e]
    ·
     rw [if_neg h3, if_pos (show D (rdC l i).f0 = true ∧ 1 ≤ (rdC l i).f1 ∧ (rdC l i).f1 ≤ 4096 from ⟨hd, by omega, by omega⟩), IntWalk.wrap64_in _ (by omega), ih (i + 1) k _ (by omega) (by omega) (by omega) (by omega)]
  ·
   rw [if_neg hd, if_neg (show ¬ (D (rdC l i).f0 = true ∧ 1 ≤ (rdC l i).f1 ∧ (rdC l i).f1 ≤ 4096) from fun h => hd h.1), e]
theorem pieces13_eq (l : List Piece) (hl : l.length ≤ 1048576) (hs : ∀ y ∈ l, y.f0.size ≤ 1048576) (k : Nat) (hk : 6400000 ≤ k) : stowageref13_Pieces.f k (l.map refC) = some (Pc l) := by
 unfold stowageref13_Pieces.f Pc
 exact pieces13_go l hl hs l.length 0 k 0 (by omega) (by omega) (by omega) (by omega)
theorem check14_eq (p : Part) (hp : SmallPart p) (k : Nat) (hk : 6400000 ≤ k) : stowageref14_Check.f k p.f0 p.f1 p.f2 (p.f3.map refC) = some (if chk p = true then 0 else 1) := by
 unfold stowageref14_Check.f
 rw [pieces13_eq p.f3 hp.len hp.pcs k hk, Option.bind_some]
 have hno : ∀ h : ¬ (1 ≤ p.f0 ∧ p.f0 ≤ 100 ∧ (Pc p.f3).2 = 0 ∧ (Pc p.f3).1 = p.f1), (some 1 : Option Int) = some (if chk p = true then 0 else 1) := fun h => by
  have : chk p = false := by unfold chk; rw [decide_eq_false h, Bool.false_and]
  rw [this, if_neg (by decide)]
 by_cases h1 : p.f0 < 1
 ·
  rw [if_pos h1]; exact hno (by omega)
 ·
  rw [if_neg h1]
  by_cases h2 : p.f0 > 100
  ·
   rw [if_pos h2]; exact hno (by omega)
  ·
   rw [if_neg h2]
   by_cases h3 : (Pc p.f3).2 = 0
   ·
    rw [if_pos h3]
    by_cases h4 : (Pc p.f3).1 = p.f1
    ·
     have hc : chk p = D p.f2 := by unfold chk; rw [decide_eq_true ⟨by omega, by omega, h3, h4⟩, Bool.true_and]
     rw [if_pos h4, may06_eq p.f2 hp.sum k (by omega), Option.bind_some, hc]
     cases D p.f2 <;> rfl
    ·
     rw [if_neg h4]; exact hno (fun h => h4 h.2.2.2)
   ·
    rw [if_neg h3]; exact hno (fun h => h3 h.2.2.1)
theorem may14_go (l : List Part) (hl : Small l) : ∀ n i k, i + n = l.length → n + 6400000 < k → stowageref14_May.l0 k (l.map refP) (i : Int) = some (rB (prev l i) (l.drop i)) := by
 have hm : (l.map refP).length = l.length := List.length_map _
 intro n
 induction n with
 | zero =>
  intro i k hi hk
  obtain ⟨k, rfl⟩ : ∃ j, k = j + 1 := ⟨k - 1, by omega⟩
  rw [stowageref14_May.l0, hm, if_neg (by omega), List.drop_of_length_le (by omega)]
  rfl
 | succ n ih =>
  intro i k hi hk
  have hll := hl.len
  obtain ⟨k, rfl⟩ : ∃ j, k = j + 1 := ⟨k - 1, by omega⟩
  have hc14 : stowageref14_Check.f k (refP (rdP l i)).f0 (refP (rdP l i)).f1 (refP (rdP l i)).f2 (refP (rdP l i)).f3 = _ := check14_eq (rdP l i) (hl.each _ (memP l i (by omega))) k (by omega)
  rw [stowageref14_May.l0, hm, if_pos (by omega), if_pos (by omega), rd14 l i (by omega), hc14, Option.bind_some, dropP l i (by omega), rB, w1 i (by omega), ih (i + 1) k (by omega) (by omega)]
  have hp : prev l (i + 1) = some (rdP l i).f0 := by unfold prev; rw [if_neg (by omega)]; rfl
  rw [hp]
  cases hc : chk (rdP l i)
  ·
   simp
  ·
   simp only [if_true, Bool.true_and]
   by_cases h0 : i = 0
   ·
    subst h0
    rw [if_neg (by omega)]
    simp [prev, okN]
   ·
    obtain ⟨j, rfl⟩ : ∃ j, i = j + 1 := ⟨i - 1, by omega⟩
    have e : wrap64 (((j + 1 : Nat) : Int) - 1) = (j : Int) := by rw [IntWalk.wrap64_in _ (by omega)]; omega
    rw [if_pos (by omega), e, if_pos (by omega), if_pos (by omega), rd14 l j (by omega)]
    have hp2 : prev l (j + 1) = some (rdP l j).f0 := by unfold prev; rw [if_neg (by omega)]; rfl
    rw [hp2]
    show (if (rdP l j).f0 ≥ (rdP l (j + 1)).f0 then _ else _) = some (decide ((rdP l j).f0 < (rdP l (j + 1)).f0) && _)
    by_cases h2 : (rdP l j).f0 ≥ (rdP l (j + 1)).f0
    ·
     rw [if_pos h2, decide_eq_false (by omega), Bool.false_and]
    ·
     rw [if_neg h2, decide_eq_true (by omega), Bool.true_and]
theorem may14_eq (l : List Part) (hl : Small l) (k : Nat) (hk : 7500000 ≤ k) : stowageref14_May.f k (l.map refP) = some (rB none l) := by
 have := hl.len
 exact may14_go l hl l.length 0 k (by omega) (by omega)
theorem good_few {l : List Part} (h : Good l) : l.length ≤ 100 := by
 have key : ∀ n, n < l.length → (n : Int) + 1 ≤ (rdP l n).f0 := by
  intro n
  induction n with
  | zero => intro hn; have := (chk_parts (h.chk _ (memP l 0 hn))).1; omega
  | succ n ih => intro hn; have h1 := ih (by omega); have h2 := h.lt n (n + 1) (by omega) hn; omega
 rcases Nat.lt_or_ge 100 l.length with hl | hl
 ·
  have h1 := key 100 hl
  have h2 := (chk_parts (h.chk _ (memP l 100 hl))).2.1
  omega
 ·
  exact hl
theorem put_bad (l : List Part) (hl : Small l) (hr : rB none l = false) (p : Part) (k : Nat) (hk : 2300000 ≤ k) : parts_Put.f k l p.f0 p.f1 p.f2 p.f3 = some ([], 1) := by
 unfold parts_Put.f
 rw [right_eq l hl k (by omega), hr, Option.bind_some, if_neg (by decide)]
theorem refp_eta (p : Part) : (⟨(refP p).f0, (refP p).f1, (refP p).f2, (refP p).f3⟩ : RPart) = refP p := rfl
theorem rput_l1 (l : List Part) (hl : l.length ≤ 1048576) (a : Int) (b : Int) (c : ByteArray) (d : List RPiece) : ∀ n i k (acc : List RPart), i + n = l.length → n < k → acc.length ≤ i + 1048577 →
  stowageref14_Put.l1 k (l.map refP) acc (i : Int) a b c d = some (acc ++ ((l.drop i).filter (fun q => decide (a < q.f0))).map refP, 0) := by
 have hm : (l.map refP).length = l.length := List.length_map _
 intro n
 induction n with
 | zero =>
  intro i k acc hi hk ha
  obtain ⟨k, rfl⟩ : ∃ j, k = j + 1 := ⟨k - 1, by omega⟩
  rw [stowageref14_Put.l1, hm, if_neg (by omega), List.drop_of_length_le (by omega)]
  simp
 | succ n ih =>
  intro i k acc hi hk ha
  obtain ⟨k, rfl⟩ : ∃ j, k = j + 1 := ⟨k - 1, by omega⟩
  rw [stowageref14_Put.l1, hm, if_pos (by omega), if_pos (by omega), rd14 l i (by omega), dropP l i (by omega), List.filter_cons]
  show (if (rdP l i).f0 > a then _ else _) = _
  by_cases h : (rdP l i).f0 > a
  ·
   rw [if_pos h, if_pos (by omega), refp_eta, w1 i (by omega), ih (i + 1) k _ (by omega) (by omega) (by rw [List.length_append]; show acc.length + 1 ≤ _; omega), decide_eq_true (show a < (rdP l i).f0 from h), if_pos rfl, List.map_cons, List.append_assoc]
   rfl
  ·
   rw [if_neg h, w1 i (by omega), ih (i + 1) k _ (by omega) (by omega) (by omega), decide_eq_false (show ¬ a < (rdP l i).f0 by omega), if_neg (by decide)]
theorem rput_j2 (l : List Part) (hl : l.length ≤ 1048576) (p : Part) (acc : List RPart) (ha : acc.length ≤ 1048576) (k : Nat) (hk : 1048580 ≤ k) :
  stowageref14_Put.j2 k (l.map refP) acc p.f0 p.f1 p.f2 (p.f3.map refC) = some (acc ++ refP p :: (l.filter (fun q => decide (p.f0 < q.f0))).map refP, 0) := by
 obtain ⟨k, rfl⟩ : ∃ j, k = j + 1 := ⟨k - 1, by omega⟩
 have := rput_l1 l hl p.f0 p.f1 p.f2 (p.f3.map refC) l.length 0 k (acc ++ [refP p]) (by omega) (by omega) (by rw [List.length_append]; show acc.length + 1 ≤ _; omega)
 rw [stowageref14_Put.j2, if_pos (by omega)]
 show stowageref14_Put.l1 k (l.map refP) (acc ++ [refP p]) ((0 : Nat) : Int) p.f0 p.f1 p.f2 (p.f3.map refC) = _
 rw [this, List.append_assoc]
 rfl
theorem rput_l0 (l : List Part) (hl : l.length ≤ 1048576) (p : Part) : ∀ n i k (acc : List RPart), i + n = l.length → n + 1048580 < k → acc.length ≤ i →
  stowageref14_Put.l0 k (l.map refP) acc (i : Int) p.f0 p.f1 p.f2 (p.f3.map refC) = some (acc ++ ((l.drop i).takeWhile (fun q => decide (q.f0 < p.f0))).map refP ++ refP p :: (l.filter (fun q => decide (p.f0 < q.f0))).map refP, 0) := by
 have hm : (l.map refP).length = l.length := List.length_map _
 intro n
 induction n with
 | zero =>
  intro i k acc hi hk ha
  obtain ⟨k, rfl⟩ : ∃ j, k = j + 1 := ⟨k - 1, by omega⟩
  rw [stowageref14_Put.l0, hm, if_neg (by omega), rput_j2 l hl p acc (by omega) k (by omega), List.drop_of_length_le (by omega)]
  simp
 | succ n ih =>
  intro i k acc hi hk ha
  obtain ⟨k, rfl⟩ : ∃ j, k = j + 1 := ⟨k - 1, by omega⟩
  rw [stowageref14_Put.l0, hm, if_pos (by omega), if_pos (by omega), rd14 l i (by omega), dropP l i (by omega), List.takeWhile_cons]
  show (if (rdP l i).f0 < p.f0 then _ else _) = _
  by_cases h : (rdP l i).f0 < p.f0
  ·
   rw [if_pos h, if_pos (by omega), refp_eta, w1 i (by omega), ih (i + 1) k _ (by omega) (by omega) (by rw [List.length_append]; show acc.length + 1 ≤ _; omega), decide_eq_true h, if_pos rfl, List.map_cons]
   simp only [List.append_assoc, List.singleton_append, List.cons_append, List.nil_append]
  ·
   rw [if_neg h, rput_j2 l hl p acc (by omega) k (by omega), decide_eq_false h, if_neg (by decide)]
   simp
theorem take_filter (t : Int) : ∀ l : List Part, l.Pairwise (fun x y => x.f0 < y.f0) → l.takeWhile (fun q => decide (q.f0 < t)) = l.filter (fun q => decide (q.f0 < t))
 | [], _ => rfl
 | q :: l, h => by
  rw [List.pairwise_cons] at h
  rw [List.takeWhile_cons, List.filter_cons]
  by_cases hq : q.f0 < t
  ·
   rw [decide_eq_true hq, if_pos rfl, if_pos rfl, take_filter t l h.2]
  ·
   rw [decide_eq_false hq, if_neg (by decide), if_neg (by decide)]
   refine (List.filter_eq_nil_iff.2 fun x hx => ?_).symm
   have := h.1 x hx
   simp
   omega
theorem rput_no (l : List Part) (hl : Small l) (p : Part) (hp : SmallPart p) (h : rB none l = true → chk p = false) (k : Nat) (hk : 8000000 ≤ k) : stowageref14_Put.f k (l.map refP) p.f0 p.f1 p.f2 (p.f3.map refC) = some ([], 1) := by
 have hj : stowageref14_Put.j0 k (l.map refP) true p.f0 p.f1 p.f2 (p.f3.map refC) = some ([], 1) := by
  obtain ⟨k, rfl⟩ : ∃ j, k = j + 1 := ⟨k - 1, by omega⟩
  rw [stowageref14_Put.j0, if_pos rfl]
 unfold stowageref14_Put.f
 rw [may14_eq l hl k (by omega), Option.bind_some]
 cases hr : rB none l with
 | false => rw [if_neg (by decide), hj]
 | true =>
  rw [if_pos rfl, check14_eq p hp k (by omega), h hr, if_neg (by decide), Option.bind_some]
  exact hj
theorem rput_eq (l : List Part) (h : Good l) (p : Part) (hp : SmallPart p) (hc : chk p = true) (k : Nat) (hk : 8000000 ≤ k) : stowageref14_Put.f k (l.map refP) p.f0 p.f1 p.f2 (p.f3.map refC) = some ((ins l p).map refP, 0) := by
 have hll := h.small.len
 unfold stowageref14_Put.f
 rw [may14_eq l h.small k (by omega), h.right, Option.bind_some, if_pos rfl, check14_eq p hp k (by omega), hc, if_pos rfl, Option.bind_some]
 obtain ⟨k, rfl⟩ : ∃ j, k = j + 1 := ⟨k - 1, by omega⟩
 show stowageref14_Put.j0 (k + 1) (l.map refP) false p.f0 p.f1 p.f2 (p.f3.map refC) = _
 rw [stowageref14_Put.j0, if_neg (by decide)]
 have := rput_l0 l hll p l.length 0 k [] (by omega) (by omega) (Nat.le_refl _)
 rw [List.drop_zero, take_filter p.f0 l h.asc] at this
 show stowageref14_Put.l0 k (l.map refP) [] ((0 : Nat) : Int) p.f0 p.f1 p.f2 (p.f3.map refC) = _
 rw [this]
 unfold ins
 rw [List.nil_append, List.map_append, List.map_cons]
def ids (l : List Part) : List ByteArray := l.flatMap fun p => p.f3.map fun c => c.f0
theorem ids_len : ∀ (l : List Part), (∀ p ∈ l, p.f3.length ≤ 512) → (ids l).length ≤ 512 * l.length
 | [], _ => Nat.le_refl _
 | p :: l, h => by
  have h1 := ids_len l (fun q hq => h q (List.mem_cons_of_mem _ hq))
  have h2 := h p List.mem_cons_self
  have e : ids (p :: l) = (p.f3.map fun c => c.f0) ++ ids l := rfl
  rw [e, List.length_append, List.length_map, List.length_cons]
  omega
theorem ids_l1 (l : List Part) (i : Nat) (q : Part) (hq : q.f3.length ≤ 512) (K : Nat) : ∀ n j k (acc : List ByteArray), j + n = q.f3.length → k = n + 1 + K → acc.length ≤ 1048576 + j →
  parts_Ids.l1 k acc l (l.length : Int) (i : Int) q.f3 (q.f3.length : Int) (j : Int) = parts_Ids.l0 K (acc ++ (q.f3.drop j).map fun c => c.f0) l (l.length : Int) (wrap64 ((i : Int) + 1)) := by
 intro n
 induction n with
 | zero =>
  intro j k acc hj hk ha
  subst hk
  rw [show 0 + 1 + K = K + 1 by omega, parts_Ids.l1, if_neg (by omega), List.drop_of_length_le (by omega), List.map_nil, List.append_nil]
 | succ n ih =>
  intro j k acc hj hk ha
  obtain ⟨k, rfl⟩ : ∃ m, k = m + 1 := ⟨k - 1, by omega⟩
  rw [parts_Ids.l1, if_pos (by omega), if_pos (by omega), if_pos (by omega), if_pos (by omega), w1 j (by omega), ih (j + 1) k _ (by omega) (by omega) (by rw [List.length_append]; show acc.length + 1 ≤ _; omega), dropC q.f3 j (by omega), List.map_cons, List.append_assoc]
  rfl
theorem ids_l0 (l : List Part) (hl : l.length ≤ 100) (hp : ∀ p ∈ l, p.f3.length ≤ 512) : ∀ n i k (acc : List ByteArray), i + n = l.length → 1000 * n + 1 ≤ k → acc.length ≤ 512 * i →
  parts_Ids.l0 k acc l (l.length : Int) (i : Int) = some (acc ++ ids (l.drop i)) := by
 intro n
 induction n with
 | zero =>
  intro i k acc hi hk ha
  obtain ⟨k, rfl⟩ : ∃ m, k = m + 1 := ⟨k - 1, by omega⟩
  rw [parts_Ids.l0, if_neg (by omega), List.drop_of_length_le (by omega)]
  simp [ids]
 | succ n ih =>
  intro i k acc hi hk ha
  obtain ⟨k, rfl⟩ : ∃ m, k = m + 1 := ⟨k - 1, by omega⟩
  have hq := hp _ (memP l i (by omega))
  have hK : k = (rdP l i).f3.length + 1 + (k - (rdP l i).f3.length - 1) := by omega
  have h1 := ids_l1 l i (rdP l i) hq (k - (rdP l i).f3.length - 1) (rdP l i).f3.length 0 k acc (by omega) hK (by omega)
  rw [parts_Ids.l0, if_pos (by omega), if_pos (by omega), if_pos (by omega)]
  show parts_Ids.l1 k acc l (l.length : Int) (i : Int) (rdP l i).f3 ((rdP l i).f3.length : Int) ((0 : Nat) : Int) = _
  rw [h1, w1 i (by omega), ih (i + 1) _ _ (by omega) (by omega) (by rw [List.length_append, List.length_map, List.drop_zero]; omega), dropP l i (by omega), List.drop_zero, List.append_assoc]
  rfl
theorem rids_l1 (l : List Part) (i : Nat) (hi : i < l.length) (hq : (rdP l i).f3.length ≤ 512) (K : Nat) : ∀ n j k (acc : List ByteArray), j + n = (rdP l i).f3.length → k = n + 1 + K → acc.length ≤ 1048576 + j →
  stowageref14_Ids.l1 k (l.map refP) acc (i : Int) (j : Int) = stowageref14_Ids.l0 K (l.map refP) (acc ++ ((rdP l i).f3.drop j).map fun c => c.f0) (wrap64 ((i : Int) + 1)) := by
 have hm : (l.map refP).length = l.length := List.length_map _
 have hlen : (((refP (rdP l i)).f3.length : Nat) : Int) = ((rdP l i).f3.length : Int) := by show (((rdP l i).f3.map refC).length : Int) = _; rw [List.length_map]
 intro n
 induction n with
 | zero =>
  intro j k acc hj hk ha
  subst hk
  rw [show 0 + 1 + K = K + 1 by omega, stowageref14_Ids.l1, if_pos (by omega), hm, if_pos (by omega), rd14 l i hi, hlen, if_neg (by omega), List.drop_of_length_le (by omega), List.map_nil, List.append_nil]
 | succ n ih =>
  intro j k acc hj hk ha
  obtain ⟨k, rfl⟩ : ∃ m, k = m + 1 := ⟨k - 1, by omega⟩
  have hrd : rd_T85 (refP (rdP l i)).f3 (j : Int) = refC (rdC (rdP l i).f3 j) := rd13 (rdP l i).f3 j (by omega)
  rw [stowageref14_Ids.l1, if_pos (by omega), hm, if_pos (by omega), rd14 l i hi, hlen, if_pos (by omega), if_pos (by omega), if_pos (by omega), hrd, w1 j (by omega), ih (j + 1) k _ (by omega) (by omega) (by rw [List.length_append]; show acc.length + 1 ≤ _; omega), dropC (rdP l i).f3 j (by omega), List.map_cons, List.append_assoc]
  rfl
theorem rids_l0 (l : List Part) (h : Good l) (hp : ∀ p ∈ l, p.f3.length ≤ 512) : ∀ n i k (acc : List ByteArray), i + n = l.length → 1000 * n + 8000000 ≤ k → acc.length ≤ 512 * i →
  stowageref14_Ids.l0 k (l.map refP) acc (i : Int) = some (acc ++ ids (l.drop i)) := by
 have hm : (l.map refP).length = l.length := List.length_map _
 have hl := good_few h
 intro n
 induction n with
 | zero =>
  intro i k acc hi hk ha
  obtain ⟨k, rfl⟩ : ∃ m, k = m + 1 + 1 := ⟨k - 2, by omega⟩
  rw [stowageref14_Ids.l0, hm, if_neg (by omega), stowageref14_Ids.j1, if_neg (by decide), List.drop_of_length_le (by omega)]
  simp [ids]
 | succ n ih =>
  intro i k acc hi hk ha
  obtain ⟨k, rfl⟩ : ∃ m, k = m + 1 + 1 := ⟨k - 2, by omega⟩
  have hq := hp _ (memP l i (by omega))
  have hK : k = (rdP l i).f3.length + 1 + (k - (rdP l i).f3.length - 1) := by omega
  have h1 := rids_l1 l i (by omega) hq (k - (rdP l i).f3.length - 1) (rdP l i).f3.length 0 k acc (by omega) hK (by omega)
  rw [stowageref14_Ids.l0, hm, if_pos (by omega), may14_eq l h.small (k + 1) (by omega), h.right, Option.bind_some, stowageref14_Ids.j1, if_pos rfl]
  show stowageref14_Ids.l1 k (l.map refP) acc (i : Int) ((0 : Nat) : Int) = _
  rw [h1, w1 i (by omega), ih (i + 1) _ _ (by omega) (by omega) (by rw [List.length_append, List.length_map, List.drop_zero]; omega), dropP l i (by omega), List.drop_zero, List.append_assoc]
  rfl
theorem same01_go (l : List ByteArray) (hl : l.length ≤ 1048576) : ∀ n i k, i + n = l.length → n < k → stowagelaw01_Same.l0 k l l (i : Int) = some true := by
 intro n
 induction n with
 | zero =>
  intro i k hi hk
  obtain ⟨k, rfl⟩ : ∃ m, k = m + 1 := ⟨k - 1, by omega⟩
  rw [stowagelaw01_Same.l0, if_neg (by omega)]
 | succ n ih =>
  intro i k hi hk
  obtain ⟨k, rfl⟩ : ∃ m, k = m + 1 := ⟨k - 1, by omega⟩
  rw [stowagelaw01_Same.l0, if_pos (by omega), if_pos (by omega), if_pos (by omega), if_pos rfl, w1 i (by omega)]
  exact ih (i + 1) k (by omega) (by omega)
theorem same01_eq (l : List ByteArray) (hl : l.length ≤ 1048576) (k : Nat) (hk : 1048577 ≤ k) : stowagelaw01_Same.f k l l = some true := by
 unfold stowagelaw01_Same.f
 rw [if_pos rfl]
 exact same01_go l hl l.length 0 k (by omega) (by omega)
theorem chk_few {p : Part} (h : chk p = true) : p.f3.length ≤ 512 := by
 have := (chk_parts h).2.2.1
 unfold Pc at this
 by_cases hl : 512 < p.f3.length
 ·
  rw [if_pos hl] at this; exact absurd this (by decide)
 ·
  omega
theorem ids_both (l : List Part) (hl : Small l) (k : Nat) (hk : 20000000 ≤ k) : ∃ i, parts_Ids.f k l = some i ∧ stowageref14_Ids.f k (l.map refP) = some i ∧ i.length ≤ 1048576 := by
 have hm : (l.map refP).length = l.length := List.length_map _
 have hll := hl.len
 cases hr : rB none l with
 | false =>
  refine ⟨[], ?_, ?_, by decide⟩
  ·
   unfold parts_Ids.f
   rw [right_eq l hl k (by omega), hr, Option.bind_some, if_neg (by decide)]
  ·
   unfold stowageref14_Ids.f
   obtain ⟨k, rfl⟩ : ∃ m, k = m + 1 + 1 := ⟨k - 2, by omega⟩
   rw [stowageref14_Ids.l0]
   by_cases h0 : (0 : Int) < ((l.map refP).length : Int)
   ·
    rw [if_pos h0, may14_eq l hl (k + 1) (by omega), hr, Option.bind_some, stowageref14_Ids.j1, if_neg (by decide)]
   ·
    rw [if_neg h0, stowageref14_Ids.j1, if_neg (by decide)]
 | true =>
  have h := Good.of hl hr
  have hf := good_few h
  have hp : ∀ p ∈ l, p.f3.length ≤ 512 := fun p hp => chk_few (h.chk p hp)
  refine ⟨ids l, ?_, ?_, by have := ids_len l hp; omega⟩
  ·
   unfold parts_Ids.f
   rw [right_eq l hl k (by omega), hr, Option.bind_some, if_pos rfl]
   exact ids_l0 l hf hp l.length 0 k [] (by omega) (by omega) (Nat.le_refl _)
  ·
   exact rids_l0 l h hp l.length 0 k [] (by omega) (by omega) (Nat.le_refl _)
theorem PartsPuts_true (l : List Part) (p : Part) (hl : Small l) (hp : SmallPart p) : ∃ k, stowagelaw14_PartsPuts.f k l p.f0 p.f1 p.f2 p.f3 = some true := by
 refine ⟨20000000, ?_⟩
 generalize hk : (20000000 : Nat) = k
 have hll := hl.len
 obtain ⟨i, hi1, hi2, hi3⟩ := ids_both l hl k (by omega)
 have hput : ∃ r e, parts_Put.f k l p.f0 p.f1 p.f2 p.f3 = some (r, e) ∧ stowageref14_Put.f k (l.map refP) p.f0 p.f1 p.f2 (p.f3.map refC) = some (r.map refP, e) ∧ r.length ≤ 1048576 ∧ ∀ q ∈ r, q.f3.length ≤ 1048576 := by
  cases hr : rB none l with
  | false => exact ⟨[], 1, put_bad l hl hr p k (by omega), rput_no l hl p hp (fun h => by rw [hr] at h; cases h) k (by omega), by decide, fun q hq => (by cases hq)⟩
  | true =>
   have h := Good.of hl hr
   have hf := good_few h
   cases hc : chk p with
   | false => exact ⟨[], 1, put_no l h p hp hc k (by omega), rput_no l hl p hp (fun _ => hc) k (by omega), by decide, fun q hq => (by cases hq)⟩
   | true =>
    refine ⟨ins l p, 0, put_eq l h (by omega) p hp hc k (by omega), rput_eq l h p hp hc k (by omega), by have := len_ins l p; omega, fun q hq => ?_⟩
    rcases (mem_ins l p q).1 hq with rfl | hq
    ·
     exact hp.len
    ·
     exact (hl.each q hq.1).len
 obtain ⟨r, e, h1, h2, h3, h4⟩ := hput
 unfold stowagelaw14_PartsPuts.f
 rw [h1, Option.bind_some, refs_eq l hll (fun q hq => (hl.each q hq).len) k (by omega), Option.bind_some, refs_eq [(⟨p.f0, p.f1, p.f2, p.f3⟩ : Part)] (by show (1 : Nat) ≤ _; decide) (fun q hq => by
  rw [List.mem_singleton] at hq
  subst hq
  exact hp.len) k (by omega), Option.bind_some]
 show (stowageref14_Put.f k (l.map refP) p.f0 p.f1 p.f2 (p.f3.map refC)).bind (fun b => (stowagelaw14_awake.f k).bind fun v => (parts_Check.f k p.f0 p.f1 p.f2 p.f3).bind fun c => (stowageref14_Check.f k p.f0 p.f1 p.f2 (p.f3.map refC)).bind fun d => (stowagelaw14_Refs.f k r).bind fun ra => (stowageref14_Same.f k ra b.1).bind fun s => (parts_Ids.f k l).bind fun i1 => (stowageref14_Ids.f k (l.map refP)).bind fun i2 => (stowagelaw01_Same.f k i1 i2).bind fun t => if v = true ∧ c = d ∧ s = true ∧ e = b.2 ∧ t = true then some true else none) = _
 rw [h2, Option.bind_some, awake_true k (by omega), Option.bind_some, check_eq p hp k (by omega), Option.bind_some, check14_eq p hp k (by omega), Option.bind_some, refs_eq r h3 h4 k (by omega), Option.bind_some,
  same_eq (r.map refP) (by rw [List.length_map]; exact h3) (fun q hq => by
   obtain ⟨z, hz, rfl⟩ := List.mem_map.1 hq
   show (z.f3.map refC).length ≤ _
   rw [List.length_map]
   exact h4 z hz) k (by omega), Option.bind_some, hi1, Option.bind_some, hi2, Option.bind_some, same01_eq i hi3 k (by omega), Option.bind_some, if_pos ⟨rfl, rfl, rfl, rfl, rfl⟩]
end Go.Proofs.YtoiockmmlanimaaDoor.Pure
end
section
namespace Go.Proofs.YtoiockmmlanimaaDoor.KO
open Go Go.RowKit Go.Proofs.YtoiockmmlanimaaDoorW.PrintWords Go.Proofs.YtoiockmmlanimaaDoor.Op
theorem opensPiece : Opens Tryd.prog 63 k63 (fun y => y.f0.size ≤ reachBytes ∧ (Lit.int .i64 y.f1).wf = true) (fun y => ((y.f0.size + 1) + 1) + 1) :=
 opens_struct (fun x : S63 => (x.f0, x.f1)) (fun p => ⟨p.1, p.2⟩) (fun _ => rfl) Tryd.underlying63
  (opens_cons (off' := 1) rfl (opens_string Tryd.underlying9) (by kernel_rfl) (opens_last rfl (opens_int Tryd.underlying3) (by kernel_rfl)))
theorem opensPieces : Opens Tryd.prog 24 (Kd.slice 63 k63) (fun ys => ys.length * 24 ≤ reachBytes ∧ ∀ y ∈ ys, y.f0.size ≤ reachBytes ∧ (Lit.int .i64 y.f1).wf = true) (fun ys => (ys.map fun y => ((y.f0.size + 1) + 1) + 1).sum + 1) :=
 opens_slice Tryd.underlying24 opensPiece (by kernel_rfl) (by kernel_rfl)
theorem opensPart : Opens Tryd.prog 46 k46 (fun y => (Lit.int .i64 y.f0).wf = true ∧ (Lit.int .i64 y.f1).wf = true ∧ y.f2.size ≤ reachBytes ∧ (y.f3.length * 24 ≤ reachBytes ∧ ∀ z ∈ y.f3, z.f0.size ≤ reachBytes ∧ (Lit.int .i64 z.f1).wf = true)) (fun y => (1 + (1 + ((y.f2.size + 1) + ((y.f3.map fun z => ((z.f0.size + 1) + 1) + 1).sum + 1)))) + 1) :=
 opens_struct (fun x : S46 => (x.f0, x.f1, x.f2, x.f3)) (fun p => ⟨p.1, p.2.1, p.2.2.1, p.2.2.2⟩) (fun _ => rfl) Tryd.underlying46
  (opens_cons (off' := 1) rfl (opens_int Tryd.underlying3) (by kernel_rfl) (opens_cons (off' := 2) rfl (opens_int Tryd.underlying3) (by kernel_rfl) (opens_cons (off' := 3) rfl (opens_string Tryd.underlying9) (by kernel_rfl) (opens_last rfl opensPieces (by kernel_rfl)))))
theorem opensParts : Opens Tryd.prog 22 (Kd.slice 46 k46) (fun ys => ys.length * 56 ≤ reachBytes ∧ ∀ y ∈ ys, (Lit.int .i64 y.f0).wf = true ∧ (Lit.int .i64 y.f1).wf = true ∧ y.f2.size ≤ reachBytes ∧ (y.f3.length * 24 ≤ reachBytes ∧ ∀ z ∈ y.f3, z.f0.size ≤ reachBytes ∧ (Lit.int .i64 z.f1).wf = true)) (fun ys => (ys.map fun y => (1 + (1 + ((y.f2.size + 1) + ((y.f3.map fun z => ((z.f0.size + 1) + 1) + 1).sum + 1)))) + 1).sum + 1) :=
 opens_slice Tryd.underlying22 opensPart (by kernel_rfl) (by kernel_rfl)
theorem opensPick : Opens Tryd.prog 61 k61 (fun y => (Lit.int .i64 y.f0).wf = true ∧ y.f1.size ≤ reachBytes) (fun y => (1 + (y.f1.size + 1)) + 1) :=
 opens_struct (fun x : S61 => (x.f0, x.f1)) (fun p => ⟨p.1, p.2⟩) (fun _ => rfl) Tryd.underlying61
  (opens_cons (off' := 1) rfl (opens_int Tryd.underlying3) (by kernel_rfl) (opens_last rfl (opens_string Tryd.underlying9) (by kernel_rfl)))
theorem opensPicks : Opens Tryd.prog 23 (Kd.slice 61 k61) (fun ys => ys.length * 24 ≤ reachBytes ∧ ∀ y ∈ ys, (Lit.int .i64 y.f0).wf = true ∧ y.f1.size ≤ reachBytes) (fun ys => (ys.map fun y => (1 + (y.f1.size + 1)) + 1).sum + 1) :=
 opens_slice Tryd.underlying23 opensPick (by kernel_rfl) (by kernel_rfl)
theorem sum_ge {α : Type} (f : α → Nat) (hf : ∀ y, 1 ≤ f y) : ∀ l : List α, l.length ≤ (l.map f).sum ∧ ∀ y ∈ l, f y ≤ (l.map f).sum
 | [] => ⟨Nat.le_refl _, fun y hy => by cases hy⟩
 | z :: l => by
  obtain ⟨h1, h2⟩ := sum_ge f hf l
  have := hf z
  rw [List.map_cons, List.sum_cons]
  refine ⟨by rw [List.length_cons]; omega, fun y hy => ?_⟩
  rcases List.mem_cons.1 hy with rfl | hy
  ·
   omega
  ·
   have := h2 y hy; omega
theorem small_parts (l : List Pure.Part) {B : Nat} (h : (l.map fun y => (1 + (1 + ((y.f2.size + 1) + ((y.f3.map fun z => ((z.f0.size + 1) + 1) + 1).sum + 1)))) + 1).sum + 1 ≤ B) (hB : B ≤ 1048576) : Pure.Small l := by
 obtain ⟨h1, h2⟩ := sum_ge (fun y : Pure.Part => (1 + (1 + ((y.f2.size + 1) + ((y.f3.map fun z => ((z.f0.size + 1) + 1) + 1).sum + 1)))) + 1) (fun y => by omega) l
 refine ⟨by omega, fun p hp => ?_⟩
 have h3 : (1 + (1 + ((p.f2.size + 1) + ((p.f3.map fun z : Pure.Piece => ((z.f0.size + 1) + 1) + 1).sum + 1)))) + 1 ≤ _ := h2 p hp
 clear h1 h2
 obtain ⟨h4, h5⟩ := sum_ge (fun z : Pure.Piece => ((z.f0.size + 1) + 1) + 1) (fun y => by omega) p.f3
 generalize (p.f3.map fun z : Pure.Piece => ((z.f0.size + 1) + 1) + 1).sum = X at h3 h4 h5
 generalize ((l.map fun y : Pure.Part => (1 + (1 + ((y.f2.size + 1) + ((y.f3.map fun z => ((z.f0.size + 1) + 1) + 1).sum + 1)))) + 1)).sum = Z at h h3
 refine ⟨by omega, fun y hy => ?_, by omega⟩
 have := h5 y hy
 omega
theorem small_part (p : Pure.Part) {B : Nat} (h : (1 + (1 + ((p.f2.size + 1) + ((p.f3.map fun z => ((z.f0.size + 1) + 1) + 1).sum + 1)))) + 1 ≤ B) (hB : B ≤ 1048576) : Pure.SmallPart p := by
 obtain ⟨h4, h5⟩ := sum_ge (fun z : Pure.Piece => ((z.f0.size + 1) + 1) + 1) (fun y => by omega) p.f3
 generalize (p.f3.map fun z : Pure.Piece => ((z.f0.size + 1) + 1) + 1).sum = X at h h4 h5
 refine ⟨by omega, fun y hy => ?_, by omega⟩
 have := h5 y hy
 omega
theorem picks_len (l : List Pure.Pick) {B : Nat} (h : (l.map fun y => (1 + (y.f1.size + 1)) + 1).sum + 1 ≤ B) (hB : B ≤ 1048576) : l.length ≤ 1048576 := by
 obtain ⟨h1, _⟩ := sum_ge (fun y : Pure.Pick => (1 + (y.f1.size + 1)) + 1) (fun y => by omega) l
 omega
theorem wf_of {n : Int} (h : (Lit.int .i64 n).wf = true) : Pure.wf n := by
 simp only [Lit.wf, Bool.and_eq_true, decide_eq_true_eq] at h
 exact h
theorem agree_C {α : Type} {d : Kd α} (hK : ∀ (W W' : World) (x : α) (cs : List Value), (∀ k, k < W.heap.size → W'.heap[k]? = W.heap[k]?) → d.K W x cs → d.K W' x cs) {W W' : World} (ha : ∀ k, k < W.heap.size → W'.heap[k]? = W.heap[k]?) {A : Option Addr} {n : Nat} {xs : List α} (h : d.C W A n xs) : d.C W' A n xs := by
 obtain ⟨h1, h2, h3⟩ := h
 refine ⟨h1, h2, fun hp => ?_⟩
 obtain ⟨ad, hA, hr⟩ := h3 hp
 refine ⟨ad, hA, fun j x hx => ?_⟩
 obtain ⟨cs, hl, hk, hc⟩ := hr j x hx
 exact ⟨cs, hl, hK W W' x cs ha hk, fun i u hu => (World.cell?_of_block (ha _ (World.block_lt_of_cell? W _ (hc i u hu)))).trans (hc i u hu)⟩
theorem V_top {W : World} {e base c : Nat} {A : Option Addr} {l : List Pure.Part} (hr : Kd.C k46 W A l.length l) (hc : l.length ≤ c) : Kd.V k46 e W base (fun _ => True) (.slice A l.length c) l :=
 Kd.V_mk hc (fun W' hW => agree_C (fun W W' x cs ha hk => by
  obtain ⟨A3, c3, rfl, hl3, g3⟩ := k46_open hk
  exact k46_mk W' x hl3 (agree_C (fun W W' y cs _ hk => by rw [k63_open hk]; exact k63_mk W' y) ha g3)) (fun k hk => hW k trivial hk) hr)
theorem gg_of_laid {W : World} (h : laidMetH Tryd.prog Rows.partsPutsRow.laid W) : GG W := by
 rw [MakeChecks.laidMetH_plain _ _ _ (by kernel_rfl)] at h
 obtain ⟨ps, ⟨g, t, cs, fuel, p, q, hg, ht, hv, hd, _, _⟩, _, _⟩ := h
 obtain rfl := Option.some.inj ((show Tryd.prog.globalNamed "stowage/digest.rounds" = some 0 by kernel_rfl).symm.trans hg)
 obtain rfl := Option.some.inj ((show (Tryd.prog.globals[0]?).map (·.type) = some 143 by kernel_rfl).symm.trans ht)
 obtain ⟨xs, m, _, ex, _, hl, hel⟩ := DataW.trod_array Tryd.underlying143 hd
 have c5 : Tryd.prog.cellsOf 137 = 1 := by kernel_rfl
 have hdat : (Rows.laid_stowage_digest_rounds : DataW Unit) = .agg (Sha.Ks.map fun x => .lit (.int .u32 (x.toNat : Int))) := by kernel_rfl
 have hlen : Sha.Ks.length = 64 := by kernel_rfl
 have e3 : xs.map (·.1) = Sha.Ks.map fun x => (.lit (.int .u32 (x.toNat : Int)) : DataW Unit) := (DataW.agg.inj (hdat.symm.trans (Prod.mk.inj ex).1)).symm
 have key : ∀ r, r < 64 → W.cell? ⟨0, r, none⟩ = some (Sha.U (Sha.Ks.getD r 0)) := by
  intro r hr
  have hE := hel r hr
  rw [c5, Nat.mul_one, List.getElem?_eq_getElem (by omega)] at hE
  obtain ⟨z, e1, e2, _⟩ := DataW.trod_int Tryd.underlying137 hE
  have e4 : (xs.map (·.1))[r]? = (Sha.Ks.map fun x => (.lit (.int .u32 (x.toNat : Int)) : DataW Unit))[r]? := by rw [e3]
  rw [List.getElem?_map, List.getElem?_map, List.getElem?_eq_getElem (by omega : r < xs.length), List.getElem?_eq_getElem (by omega : r < Sha.Ks.length), e2] at e4
  have hz : z = ((Sha.Ks.getD r 0).toNat : Int) := by
   simp only [Option.map_some, Option.some.injEq, DataW.lit.injEq, Lit.int.injEq, true_and] at e4
   rw [e4, List.getD, List.getElem?_eq_getElem (by omega : r < Sha.Ks.length)]
   rfl
  rw [World.var?_cell hg hv r, Sha.U_def, ← hz]
  have : cs.toList[r]? = some (.int .u32 z) := by
   have h0 : ((cs.toList.drop r).take 1)[0]? = some (.int .u32 z) := by rw [e1]; rfl
   simpa using h0
  simpa using this
 have h0 := key 0 (by omega)
 cases hh : W.heap[0]? with
 | none => simp [World.cell?, hh] at h0
 | some ob =>
  cases ob with
  | cells c t fr =>
   refine ⟨c, t, fr, hh, fun i hi => ?_⟩
   rw [← key i hi, cell_of_row W 0 i c t fr hh]
  | _ => simp [World.cell?, hh] at h0
end Go.Proofs.YtoiockmmlanimaaDoor.KO
end
section
/- PartsPuts, second form: which parts may be; a part is put among others, in the place of the one that was there. Its conditions: those of the given card. -/
namespace Go.Proofs.YtoiockmmlanimaaDoor.partsPuts
open Go.ChangeShapes Go.WideShapes Go.ChangeAt Go.RowKit Go.Proofs.YtoiockmmlanimaaDoor.Op Go.Proofs.YtoiockmmlanimaaDoorW.PrintWords
open Go.ChangeMaps (open_string shut_string)
set_option linter.unusedVariables false
set_option linter.unusedSimpArgs false
theorem own : ownKnob Tryd.prog.godebug = none := by kernel_rfl
theorem laidOut : laidOutB Tryd.prog = true := by kernel_rfl
set_option maxRecDepth 100000 in
/-- What the walk gives, for every argument and every world: the same for both forms. -/
theorem contract (H : Type) (enc : TypeId × Value → H) (W : World) (base : Nat) (args : Array Value) (ds gs : List (DataW H)) (before : List MemPlace)
  (hval : ∀ (j : Nat) t v, Tryd.f5.params[j]? = some t → args[j]? = some v → Value.okWide Tryd.prog W .any base t v)
  (hW : DataW.Whole enc Tryd.prog Tryd.f5.params.toList Rows.partsPutsSpec.vars false W args.toList ds gs before)
  (hsz : (DataW.weightsEach Tryd.prog (Tryd.f5.params.toList ++ (OpenSpec.ofChange Rows.partsPutsSpec).bare.plain.varTypes Tryd.prog) (ds ++ gs)).all (· ≤ reachBytes) = true) (hcond : ∀ k, (Rows.OpenSpec.upto Rows.partsPutsSpec).cond = some k → k H (ds ++ gs) = true) (hG : GG W) :
  Calls Tryd.prog 5 args W fun e W' => ∃ v, e = .returned v ∧ Rows.partsPutsSpec.post enc Tryd.prog Tryd.f5 false true false false W args v W' := by
 have hW' := hW
 obtain ⟨p, q, hA0, hV, rfl, hfz, hnd⟩ := hW
 have hA : DataW.TrodAll enc Tryd.prog W 0 (fun _ => true) true Tryd.f5.params.toList args.toList ds p := hA0
 rw [Tryd.params5] at hA hval hsz
 obtain ⟨v0, vs0, d0, ds0, p0, q0, hargs, rfl, rfl, h0, r0⟩ := trodAll_cons hA
 obtain ⟨v1, vs1, d1, ds1, p1, q1, rfl, rfl, rfl, h1, r1⟩ := trodAll_cons r0
 obtain ⟨rfl, rfl, rfl⟩ := trodAll_nil r1
 obtain rfl : args = #[v0, v1] := by cases args; simp_all
 obtain ⟨rfl, rfl⟩ := trodVars_none hV
 obtain ⟨A0, len0, cap0, rfl⟩ := okWide_slice Tryd.underlying22 (hval 0 22 v0 rfl rfl)
 have k0 := h0
 have lt0 : ∀ x ∈ p0, x.block < W.heap.size := by obtain ⟨m, hm⟩ := k0; exact DataW.trod_lt m _ _ _ hm
 obtain ⟨fuel0, hf0⟩ := h0
 obtain ⟨l0, hK0, wt0, bk0⟩ := (KO.opensParts).out enc W _ _ _ fuel0 _ _ hf0
 obtain ⟨B0, c0, he0, hcap0, hr0⟩ := hK0
 simp only [Value.cells, List.cons.injEq, and_true] at he0
 injection he0 with e1 e2 e3
 subst e1 e2 e3
 have k1 := h1
 have lt1 : ∀ x ∈ p1, x.block < W.heap.size := by obtain ⟨m, hm⟩ := k1; exact DataW.trod_lt m _ _ _ hm
 obtain ⟨fuel1, hf1⟩ := h1
 obtain ⟨x1, hK1, wt1, bk1⟩ := (KO.opensPart).out enc W _ _ _ fuel1 _ _ hf1
 have hc1 := k46_open hK1
 obtain ⟨A1_3, c1_3, hc1, hcap1_3, hr1_3⟩ := hc1
 obtain rfl : v1 = .agg #[.int .i64 x1.f0, .int .i64 x1.f1, .string x1.f2, .slice A1_3 x1.f3.length c1_3] := by cases v1 <;> simp [Value.cells] at hc1 ⊢ <;> first | exact Array.ext' hc1 | (rename_i xs; exact Array.ext' hc1) | (cases hc1)
 have hup := hcond _ rfl
 simp only [Rows.uptoSmall, decide_eq_true_eq, List.cons_append, List.nil_append, Rows.uptoBulkAll, Rows.uptoBulk] at hup
 have hb0 : (l0.map fun y : Pure.Part => (1 + (1 + ((y.f2.size + 1) + ((y.f3.map fun z => ((z.f0.size + 1) + 1) + 1).sum + 1)))) + 1).sum + 1 ≤ Rows.uptoBulk d0 := bk0
 have hs0 := KO.small_parts l0 hb0 (by omega)
 have hb1 : (1 + (1 + ((x1.f2.size + 1) + ((x1.f3.map fun z => ((z.f0.size + 1) + 1) + 1).sum + 1)))) + 1 ≤ Rows.uptoBulk d1 := bk1
 have hs1 := KO.small_part x1 hb1 (by omega)
 obtain ⟨k, hk⟩ := Pure.PartsPuts_true l0 x1 hs0 hs1
 refine (stowagelaw14_PartsPuts.calls k _ _ l0 x1.f0 x1.f1 x1.f2 _ _ x1.f3 true W hr0 hcap0 hr1_3 hcap1_3 hk hG).mono fun e W' ⟨he, bel⟩ => ?_
 subst he
 exact ⟨_, rfl, _, _, _, [], _, [], hW', trodAll_mk1 (shut_bool Tryd.underlying4 _), (trodAll_cons_mk (Below.trod laidOut (by kernel_rfl) (of_decide_eq_true (by kernel_rfl)) k0 bel lt0) (trodAll_cons_mk (Below.trod laidOut (by kernel_rfl) (of_decide_eq_true (by kernel_rfl)) k1 bel lt1) trodAll_mk0)), rfl, bel.frame _, fun h => by cases h⟩
/-- The cells of a datum without pointers. -/
def flat : DataW Unit → List Value
 | .lit (.int k n) => [.int k n]
 | .agg xs => flats xs
 | _ => []
where flats : List (DataW Unit) → List Value
 | [] => []
 | x :: xs => flat x ++ flats xs
def put (cs : List Value) : Obj → Obj
 | .cells _ t z => .cells cs.toArray t z
 | ob => ob
/-- A world for the witness: the listed tables hold what their text lays. -/
noncomputable def laidWorld (os : Os) : World :=
 { World.holding Tryd.prog os ⟨#[], #[], []⟩ with heap := Rows.partsPutsUptoRow.laid.foldl (fun h x => match Tryd.prog.globalNamed x.1 with | some g => h.modify g (put (flat x.2)) | none => h) (World.holding Tryd.prog os ⟨#[], #[], []⟩).heap }
theorem laid_met (os : Os) : laidMet Tryd.prog Rows.partsPutsUptoRow.laid ((laidWorld os).forCall (fun _ _ => 0) ⟨#[], #[.slice none 0 0, .agg #[.int .i64 0, .int .i64 0, .string ByteArray.empty, .slice none 0 0]], []⟩).memory :=
 laidMet_of_run3 8 (by kernel_rfl) (by kernel_rfl) (by kernel_rfl)
theorem reads (os : Os) {H : Type} (enc : TypeId × Value → H) : ∃ places, DataW.whole enc Tryd.prog ((laidWorld os).forCall (fun _ _ => 0) ⟨#[], #[.slice none 0 0, .agg #[.int .i64 0, .int .i64 0, .string ByteArray.empty, .slice none 0 0]], []⟩).memory Tryd.f5.params.toList Rows.partsPutsSpec.vars false (#[.slice none 0 0, .agg #[.int .i64 0, .int .i64 0, .string ByteArray.empty, .slice none 0 0]] : Array Value).toList 8 = some ([.nil, .agg [.lit (.int .i64 0), .lit (.int .i64 0), .lit (.string []), .nil]], [], places) :=
 ⟨[], by kernel_rfl⟩
set_option maxRecDepth 100000 in
theorem lifted (os : Os) (started : os.Started) (H : Type) (enc : TypeId × Value → H) (F : Stop.Interp) :
  ReturnsInHanded {} Tryd.checked os 5 .any ((Rows.OpenSpec.upto Rows.partsPutsSpec).preRow enc Tryd.prog Tryd.f5 Rows.partsPutsUptoRow.domain false Rows.partsPutsUptoRow.laid) (((Rows.OpenSpec.upto Rows.partsPutsSpec).at F).post enc Tryd.prog Tryd.f5 false true false false) := by
 obtain ⟨places, hx⟩ := reads os enc
 refine returnsInHanded_of_row (C := Tryd.checked) (s := (Rows.OpenSpec.upto Rows.partsPutsSpec)) own started (by kernel_rfl) Tryd.func5
  (witness_row_at (enc := enc) (C := Tryd.checked) false (laidWorld os) #[.slice none 0 0, .agg #[.int .i64 0, .int .i64 0, .string ByteArray.empty, .slice none 0 0]] rfl (by kernel_rfl) (by kernel_rfl) (by kernel_rfl)
   (OpenSpec.preRow_of_cond 8 hx (by kernel_rfl) (fun k hk => by cases hk; kernel_rfl) (by kernel_rfl) (laid_met os))) ?_
 intro W base args ds gs before hval hW _ hcond hsz hlaid hsh _
 exact contract H enc W base args ds gs before hval hW hsz hcond (KO.gg_of_laid hlaid)
theorem said : Rows.PartsPutsUptoSaid :=
 OpenClaim.holds_of_cond 5 Tryd.f5 rfl rfl rfl rfl rfl rfl rfl ⟨rfl, rfl, rfl, rfl, rfl⟩ rfl rfl rfl rfl rfl (by kernel_rfl) Tryd.func5 (by kernel_rfl)
  (of_decide_eq_true (by kernel_rfl)) (by unfold Func.isWrapper; first | (rw [if_pos (by decide +kernel)]; kernel_rfl) | (rw [if_neg (by decide +kernel)]; exact ⟨rfl, rfl⟩))
  (fun os started H enc _ F => by rw [OpenClaim.pre_eq_preRow]; exact lifted os started H enc F)
/-- No parameter wants a stand-in; the program's own looks are off: what the card asks. -/
theorem plain (f : FuncId) (fn : Func) (hf : Tryd.pinned.checked.prog.funcNamed "stowage/stowagelaw14.PartsPuts" = some f) (hfn : Tryd.pinned.checked.prog.funcs[f]? = some fn) :
  false = Tryd.pinned.checked.prog.looks [] ∧ ∀ (j : Nat) t, fn.params[j]? = some t → Tryd.pinned.checked.prog.wantsStandIn t = false := by
 obtain rfl : f = 5 := Option.some.inj ((show Tryd.prog.funcNamed "stowage/stowagelaw14.PartsPuts" = some 5 by kernel_rfl).symm.trans hf) |>.symm
 obtain rfl : fn = Tryd.f5 := (Option.some.inj (Tryd.func5.symm.trans hfn)).symm
 refine ⟨by kernel_rfl, fun j t ht => ?_⟩
 rw [Tryd.params5] at ht
 have hm := Array.mem_of_getElem? ht
 simp only [List.mem_toArray, List.mem_cons, List.not_mem_nil, or_false] at hm
 rcases hm with rfl | rfl
 ·
  exact (show Tryd.prog.wantsStandIn 22 = false by kernel_rfl)
 ·
  exact (show Tryd.prog.wantsStandIn 46 = false by kernel_rfl)
/-- The card. -/
theorem card : Rows.PartsPutsUptoCardSaid :=
 Claim7.holds_tied_plain_at .later [] _ _ _ _ said (fun _ h => by cases h) (by kernel_rfl) (fun _ h => by cases h) partsPutsUpto_row_tie rfl ⟨rfl, rfl⟩ (by kernel_rfl) rfl plain (by kernel_rfl)
end Go.Proofs.YtoiockmmlanimaaDoor.partsPuts
namespace Go.Proofs.YtoiockmmlanimaaDoor
theorem partsPuts_cardUpto : Rows.PartsPutsUptoCardSaid := partsPuts.card
end Go.Proofs.YtoiockmmlanimaaDoor
end
