/- Merged of several texts of this session's by merge.py. -/
import Derived.Test.YtoiockmmlanimaaDoorMo3
import Derived.Test.YtoiockmmlanimaaDoorMo5
import Derived.KernelRfl
import Derived.ProofKit
import Derived.LaidMore
import Derived.OpenShut
import Derived.Test.YtoiockmmlanimaaDoorRows
section
-- Written for this claim by hyb.py, a driver of this session's over the kit's printer.
namespace Go.Proofs.YtoiockmmlanimaaDoor.Oo
open Go.RowKit Go.Proofs.YtoiockmmlanimaaDoorW.PrintWords Go.Proofs.YtoiockmmlanimaaDoorW.PrintLast Go.Proofs.YtoiockmmlanimaaDoorW.PrintMore
attribute [local go_sem] max2_int min2_int max_two min_two max_three min_three max_four min_four   -- for this text's walks alone
set_option linter.unusedVariables false
set_option linter.unusedSimpArgs false

attribute [local go_sem high] eqA85
/-! ### stowageref13_Same: function 14 -/
mutual
def stowageref13_Same.j0 : Nat → Bool → Int → Bool → Int → ByteArray → List (S85) → Int → Bool → Int → ByteArray → List (S85) → Option (Bool)
 | 0, _, _, _, _, _, _, _, _, _, _, _ => none
 | k + 1, x40, x203000, x203001, x203002, x203003, x203004, x204000, x204001, x204002, x204003, x204004 => if x40 = true then (some false) else (stowageref13_Same.l0 k 0 x203000 x203001 x203002 x203003 x203004 x204000 x204001 x204002 x204003 x204004)
def stowageref13_Same.l0 : Nat → Int → Int → Bool → Int → ByteArray → List (S85) → Int → Bool → Int → ByteArray → List (S85) → Option (Bool)
 | 0, _, _, _, _, _, _, _, _, _, _, _ => none
 | k + 1, x5, x203000, x203001, x203002, x203003, x203004, x204000, x204001, x204002, x204003, x204004 => if x5 < (x203004.length : Int) then (if 0 ≤ x5 then (if x5 < (x204004.length : Int) then (if (!((((rd_T85 x203004 x5).f0).toList) == (((rd_T85 x204004 x5).f0).toList)) || (!(((rd_T85 x203004 x5).f1) == ((rd_T85 x204004 x5).f1)))) = true then (some false) else (stowageref13_Same.l0 k (wrap64 (x5 + 1)) x203000 x203001 x203002 x203003 x203004 x204000 x204001 x204002 x204003 x204004)) else (none)) else (none)) else (some true)
end
def stowageref13_Same.f (k : Nat) (a0_0 : Int) (a0_1 : Bool) (a0_2 : Int) (a0_3 : ByteArray) (l0_4 : List (S85)) (a1_0 : Int) (a1_1 : Bool) (a1_2 : Int) (a1_3 : ByteArray) (l1_4 : List (S85)) : Option (Bool) := if a0_0 = a1_0 then (if (a0_1 != a1_1) = true then (stowageref13_Same.j0 k true a0_0 a0_1 a0_2 a0_3 l0_4 a1_0 a1_1 a1_2 a1_3 l1_4) else (if a0_2 = a1_2 then (if a0_3.toList = a1_3.toList then (stowageref13_Same.j0 k ((l0_4.length : Int) != (l1_4.length : Int)) a0_0 a0_1 a0_2 a0_3 l0_4 a1_0 a1_1 a1_2 a1_3 l1_4) else (stowageref13_Same.j0 k true a0_0 a0_1 a0_2 a0_3 l0_4 a1_0 a1_1 a1_2 a1_3 l1_4)) else (stowageref13_Same.j0 k true a0_0 a0_1 a0_2 a0_3 l0_4 a1_0 a1_1 a1_2 a1_3 l1_4))) else (stowageref13_Same.j0 k true a0_0 a0_1 a0_2 a0_3 l0_4 a1_0 a1_1 a1_2 a1_3 l1_4)
theorem stowageref13_Same.mono_l : ∀ k, (∀ y0 y1 y2 y3 y4 y5 y6 y7 y8 y9 y10, LeO (stowageref13_Same.j0 k y0 y1 y2 y3 y4 y5 y6 y7 y8 y9 y10) (stowageref13_Same.j0 (k + 1) y0 y1 y2 y3 y4 y5 y6 y7 y8 y9 y10)) ∧ (∀ y0 y1 y2 y3 y4 y5 y6 y7 y8 y9 y10, LeO (stowageref13_Same.l0 k y0 y1 y2 y3 y4 y5 y6 y7 y8 y9 y10) (stowageref13_Same.l0 (k + 1) y0 y1 y2 y3 y4 y5 y6 y7 y8 y9 y10))
 | 0 => ⟨fun _ _ _ _ _ _ _ _ _ _ _ r h => by simp [stowageref13_Same.j0] at h, fun _ _ _ _ _ _ _ _ _ _ _ r h => by simp [stowageref13_Same.l0] at h⟩
 | k + 1 => by
  obtain ⟨ih0, ih1⟩ := stowageref13_Same.mono_l k
  refine ⟨?_, ?_⟩
  ·
   intro y0 y1 y2 y3 y4 y5 y6 y7 y8 y9 y10
   unfold stowageref13_Same.j0
   repeat' first
   | (with_reducible exact ih0 _ _ _ _ _ _ _ _ _ _ _)
   | (with_reducible exact ih1 _ _ _ _ _ _ _ _ _ _ _)
   | (with_reducible exact LeO.refl _)
   | (with_reducible exact LeO.none _)
   | (with_reducible refine LeO.ite ?_ ?_)
   | (with_reducible refine LeO.bind ?_ (fun _ => ?_))
   | exact ih0 _ _ _ _ _ _ _ _ _ _ _
   | exact ih1 _ _ _ _ _ _ _ _ _ _ _
   | exact LeO.none _
   | refine LeO.ite ?_ ?_
   | refine LeO.bind ?_ (fun _ => ?_)
  ·
   intro y0 y1 y2 y3 y4 y5 y6 y7 y8 y9 y10
   unfold stowageref13_Same.l0
   repeat' first
   | (with_reducible exact ih0 _ _ _ _ _ _ _ _ _ _ _)
   | (with_reducible exact ih1 _ _ _ _ _ _ _ _ _ _ _)
   | (with_reducible exact LeO.refl _)
   | (with_reducible exact LeO.none _)
   | (with_reducible refine LeO.ite ?_ ?_)
   | (with_reducible refine LeO.bind ?_ (fun _ => ?_))
   | exact ih0 _ _ _ _ _ _ _ _ _ _ _
   | exact ih1 _ _ _ _ _ _ _ _ _ _ _
   | exact LeO.none _
   | refine LeO.ite ?_ ?_
   | refine LeO.bind ?_ (fun _ => ?_)
theorem stowageref13_Same.mono : ∀ a0 a1 a2 a3 a4 a5 a6 a7 a8 a9 k, LeO (stowageref13_Same.f k a0 a1 a2 a3 a4 a5 a6 a7 a8 a9) (stowageref13_Same.f (k + 1) a0 a1 a2 a3 a4 a5 a6 a7 a8 a9) := by
 intro a0 a1 a2 a3 a4 a5 a6 a7 a8 a9 k
 obtain ⟨ih0, ih1⟩ := stowageref13_Same.mono_l k
 unfold stowageref13_Same.f
 repeat' first
   | (with_reducible exact ih0 _ _ _ _ _ _ _ _ _ _ _)
   | (with_reducible exact ih1 _ _ _ _ _ _ _ _ _ _ _)
   | (with_reducible exact LeO.refl _)
   | (with_reducible exact LeO.none _)
   | (with_reducible refine LeO.ite ?_ ?_)
   | (with_reducible refine LeO.bind ?_ (fun _ => ?_))
   | exact ih0 _ _ _ _ _ _ _ _ _ _ _
   | exact ih1 _ _ _ _ _ _ _ _ _ _ _
   | exact LeO.none _
   | refine LeO.ite ?_ ?_
   | refine LeO.bind ?_ (fun _ => ?_)
set_option maxHeartbeats 8000000 in
set_option maxRecDepth 100000 in
theorem stowageref13_Same.calls (k : Nat) (a0_0 : Int) (a0_1 : Bool) (a0_2 : Int) (a0_3 : ByteArray) (A0_4 : Option Addr) (c0_4 : Nat) (l0_4 : List (S85)) (a1_0 : Int) (a1_1 : Bool) (a1_2 : Int) (a1_3 : ByteArray) (A1_4 : Option Addr) (c1_4 : Nat) (l1_4 : List (S85)) (r : Bool) (w : World) (hr0_4 : Kd.C k85 w A0_4 l0_4.length l0_4) (hc0_4 : l0_4.length ≤ c0_4) (hr1_4 : Kd.C k85 w A1_4 l1_4.length l1_4) (hc1_4 : l1_4.length ≤ c1_4) (h : stowageref13_Same.f k a0_0 a0_1 a0_2 a0_3 l0_4 a1_0 a1_1 a1_2 a1_3 l1_4 = some r) :
  Calls Tryd.prog 14 #[.agg #[.int .i64 a0_0, .bool a0_1, .int .i64 a0_2, .string a0_3, .slice A0_4 l0_4.length c0_4], .agg #[.int .i64 a1_0, .bool a1_1, .int .i64 a1_2, .string a1_3, .slice A1_4 l1_4.length c1_4]] w fun e w' => e = .returned (.bool r) ∧ Below w.heap.size w w' := by
 have hu32 := Tryd.underlying32
 have hu85 := Tryd.underlying85
 have HR0_4 := Aside0.mk hr0_4
 have HC0_4 := Aside0.mk hc0_4
 clear hr0_4 hc0_4
 have HR1_4 := Aside0.mk hr1_4
 have HC1_4 := Aside0.mk hc1_4
 clear hr1_4 hc1_4
 have HB := Aside0.mk (Below.refl w.heap.size w)
 have H : (if a0_0 = a1_0 then (if (a0_1 != a1_1) = true then (stowageref13_Same.j0 k true a0_0 a0_1 a0_2 a0_3 l0_4 a1_0 a1_1 a1_2 a1_3 l1_4) else (if a0_2 = a1_2 then (if a0_3.toList = a1_3.toList then (stowageref13_Same.j0 k ((l0_4.length : Int) != (l1_4.length : Int)) a0_0 a0_1 a0_2 a0_3 l0_4 a1_0 a1_1 a1_2 a1_3 l1_4) else (stowageref13_Same.j0 k true a0_0 a0_1 a0_2 a0_3 l0_4 a1_0 a1_1 a1_2 a1_3 l1_4)) else (stowageref13_Same.j0 k true a0_0 a0_1 a0_2 a0_3 l0_4 a1_0 a1_1 a1_2 a1_3 l1_4))) else (stowageref13_Same.j0 k true a0_0 a0_1 a0_2 a0_3 l0_4 a1_0 a1_1 a1_2 a1_3 l1_4)) = some r := h
 clear h
 have HC3 := Aside0.mk H
 clear H
 go_enter Tryd.func14, Tryd.ntmps14
 go_upto_region 1 with (first | ((with_reducible refine gate_dst (N := 2) rfl ?_); (try (refine gate_guard (by rfl) ?_; dsimp only)); refine box_event ?hg (N := 2) ?hd (cs := #[.int .i64 a0_0, .bool a0_1, .int .i64 a0_2, .string a0_3, .slice A0_4 l0_4.length c0_4]) (t := 32) ?hr ?_; (case hd => rfl); (case hg => rfl); (case hr => first | (go_simp; done) | (go_simp; rfl)); intro gb202 hg w4 hbox hb; have n0_ := Aside0.mk (below_step (bw HB.out) hb); have n1_ := Aside0.mk (hbox); have n2_ := Aside0.mk ((by rw [hg]; exact (below_size (bw HB.out)) : w.heap.size ≤ gb202)); have n3_ := Aside0.mk ((by rw [hg]; exact (below_size (bw HB.out)) : w.heap.size ≤ gb202)); clear HB; have HB := n0_; have BK202 := n1_; have GW202 := n2_; have GE202 := n3_; clear n0_ n1_ n2_ n3_; clear hb hbox hg) | ((with_reducible refine gate_dst (N := 3) rfl ?_); (try (refine gate_guard (by rfl) ?_; dsimp only)); refine box_event ?hg (N := 3) ?hd (cs := #[.int .i64 a1_0, .bool a1_1, .int .i64 a1_2, .string a1_3, .slice A1_4 l1_4.length c1_4]) (t := 32) ?hr ?_; (case hd => rfl); (case hg => rfl); (case hr => first | (go_simp; done) | (go_simp; rfl)); intro gb203 hg w5 hbox hb; have n0_ := Aside0.mk (blk_below (g := gb202) (o := .cells #[.int .i64 a0_0, .bool a0_1, .int .i64 a0_2, .string a0_3, .slice A0_4 l0_4.length c0_4] 32 (0, 0)) (bk BK202.out) hb); have n1_ := Aside0.mk (below_step (bws HB.out) hb); have n2_ := Aside0.mk (hbox); have n3_ := Aside0.mk ((by rw [hg]; exact (below_size (bws HB.out)) : w.heap.size ≤ gb203)); have n4_ := Aside0.mk ((by rw [hg]; exact (below_size (bws HB.out)) : w.heap.size ≤ gb203)); have n5_ := Aside0.mk ((by rw [hg]; exact Nat.ne_of_lt (blk_lt (g := gb202) (o := .cells #[.int .i64 a0_0, .bool a0_1, .int .i64 a0_2, .string a0_3, .slice A0_4 l0_4.length c0_4] 32 (0, 0)) (bk BK202.out)) : gb202 ≠ gb203)); have n6_ := Aside0.mk ((by rw [hg]; exact Nat.ne_of_gt (blk_lt (g := gb202) (o := .cells #[.int .i64 a0_0, .bool a0_1, .int .i64 a0_2, .string a0_3, .slice A0_4 l0_4.length c0_4] 32 (0, 0)) (bk BK202.out)) : gb203 ≠ gb202)); clear BK202; clear HB; have BK202 := n0_; have HB := n1_; have BK203 := n2_; have GW203 := n3_; have GE203 := n4_; have NB202_203 := n5_; have NB203_202 := n6_; clear n0_ n1_ n2_ n3_ n4_ n5_ n6_; clear hb hbox hg))
 repeat (go_quiet (first | ((with_reducible refine gate_dst (N := 2) rfl ?_); (try (refine gate_guard (by rfl) ?_; dsimp only)); refine box_event ?hg (N := 2) ?hd (cs := #[.int .i64 a0_0, .bool a0_1, .int .i64 a0_2, .string a0_3, .slice A0_4 l0_4.length c0_4]) (t := 32) ?hr ?_; (case hd => rfl); (case hg => rfl); (case hr => first | (go_simp; done) | (go_simp; rfl)); intro gb202 hg w4 hbox hb; have n0_ := Aside0.mk (below_step (bw HB.out) hb); have n1_ := Aside0.mk (hbox); have n2_ := Aside0.mk ((by rw [hg]; exact (below_size (bw HB.out)) : w.heap.size ≤ gb202)); have n3_ := Aside0.mk ((by rw [hg]; exact (below_size (bw HB.out)) : w.heap.size ≤ gb202)); clear HB; have HB := n0_; have BK202 := n1_; have GW202 := n2_; have GE202 := n3_; clear n0_ n1_ n2_ n3_; clear hb hbox hg) | ((with_reducible refine gate_dst (N := 3) rfl ?_); (try (refine gate_guard (by rfl) ?_; dsimp only)); refine box_event ?hg (N := 3) ?hd (cs := #[.int .i64 a1_0, .bool a1_1, .int .i64 a1_2, .string a1_3, .slice A1_4 l1_4.length c1_4]) (t := 32) ?hr ?_; (case hd => rfl); (case hg => rfl); (case hr => first | (go_simp; done) | (go_simp; rfl)); intro gb203 hg w5 hbox hb; have n0_ := Aside0.mk (blk_below (g := gb202) (o := .cells #[.int .i64 a0_0, .bool a0_1, .int .i64 a0_2, .string a0_3, .slice A0_4 l0_4.length c0_4] 32 (0, 0)) (bk BK202.out) hb); have n1_ := Aside0.mk (below_step (bws HB.out) hb); have n2_ := Aside0.mk (hbox); have n3_ := Aside0.mk ((by rw [hg]; exact (below_size (bws HB.out)) : w.heap.size ≤ gb203)); have n4_ := Aside0.mk ((by rw [hg]; exact (below_size (bws HB.out)) : w.heap.size ≤ gb203)); have n5_ := Aside0.mk ((by rw [hg]; exact Nat.ne_of_lt (blk_lt (g := gb202) (o := .cells #[.int .i64 a0_0, .bool a0_1, .int .i64 a0_2, .string a0_3, .slice A0_4 l0_4.length c0_4] 32 (0, 0)) (bk BK202.out)) : gb202 ≠ gb203)); have n6_ := Aside0.mk ((by rw [hg]; exact Nat.ne_of_gt (blk_lt (g := gb202) (o := .cells #[.int .i64 a0_0, .bool a0_1, .int .i64 a0_2, .string a0_3, .slice A0_4 l0_4.length c0_4] 32 (0, 0)) (bk BK202.out)) : gb203 ≠ gb202)); clear BK202; clear HB; have BK202 := n0_; have HB := n1_; have BK203 := n2_; have GW203 := n3_; have GE203 := n4_; have NB202_203 := n5_; have NB203_202 := n6_; clear n0_ n1_ n2_ n3_ n4_ n5_ n6_; clear hb hbox hg)); go_upto_region 1 with (first | ((with_reducible refine gate_dst (N := 2) rfl ?_); (try (refine gate_guard (by rfl) ?_; dsimp only)); refine box_event ?hg (N := 2) ?hd (cs := #[.int .i64 a0_0, .bool a0_1, .int .i64 a0_2, .string a0_3, .slice A0_4 l0_4.length c0_4]) (t := 32) ?hr ?_; (case hd => rfl); (case hg => rfl); (case hr => first | (go_simp; done) | (go_simp; rfl)); intro gb202 hg w4 hbox hb; have n0_ := Aside0.mk (below_step (bw HB.out) hb); have n1_ := Aside0.mk (hbox); have n2_ := Aside0.mk ((by rw [hg]; exact (below_size (bw HB.out)) : w.heap.size ≤ gb202)); have n3_ := Aside0.mk ((by rw [hg]; exact (below_size (bw HB.out)) : w.heap.size ≤ gb202)); clear HB; have HB := n0_; have BK202 := n1_; have GW202 := n2_; have GE202 := n3_; clear n0_ n1_ n2_ n3_; clear hb hbox hg) | ((with_reducible refine gate_dst (N := 3) rfl ?_); (try (refine gate_guard (by rfl) ?_; dsimp only)); refine box_event ?hg (N := 3) ?hd (cs := #[.int .i64 a1_0, .bool a1_1, .int .i64 a1_2, .string a1_3, .slice A1_4 l1_4.length c1_4]) (t := 32) ?hr ?_; (case hd => rfl); (case hg => rfl); (case hr => first | (go_simp; done) | (go_simp; rfl)); intro gb203 hg w5 hbox hb; have n0_ := Aside0.mk (blk_below (g := gb202) (o := .cells #[.int .i64 a0_0, .bool a0_1, .int .i64 a0_2, .string a0_3, .slice A0_4 l0_4.length c0_4] 32 (0, 0)) (bk BK202.out) hb); have n1_ := Aside0.mk (below_step (bws HB.out) hb); have n2_ := Aside0.mk (hbox); have n3_ := Aside0.mk ((by rw [hg]; exact (below_size (bws HB.out)) : w.heap.size ≤ gb203)); have n4_ := Aside0.mk ((by rw [hg]; exact (below_size (bws HB.out)) : w.heap.size ≤ gb203)); have n5_ := Aside0.mk ((by rw [hg]; exact Nat.ne_of_lt (blk_lt (g := gb202) (o := .cells #[.int .i64 a0_0, .bool a0_1, .int .i64 a0_2, .string a0_3, .slice A0_4 l0_4.length c0_4] 32 (0, 0)) (bk BK202.out)) : gb202 ≠ gb203)); have n6_ := Aside0.mk ((by rw [hg]; exact Nat.ne_of_gt (blk_lt (g := gb202) (o := .cells #[.int .i64 a0_0, .bool a0_1, .int .i64 a0_2, .string a0_3, .slice A0_4 l0_4.length c0_4] 32 (0, 0)) (bk BK202.out)) : gb203 ≠ gb202)); clear BK202; clear HB; have BK202 := n0_; have HB := n1_; have BK203 := n2_; have GW203 := n3_; have GE203 := n4_; have NB202_203 := n5_; have NB203_202 := n6_; clear n0_ n1_ n2_ n3_ n4_ n5_ n6_; clear hb hbox hg)))
 (try simp only [Act.put, List.setIfInBounds_toArray, List.set_cons_zero, List.set_cons_succ])
 go_cut [40] (fun v40 wc => ∃ (kq : Nat) (x40_2 : Bool), v40 = .bool x40_2 ∧ Aside0 (stowageref13_Same.j0 kq x40_2 a0_0 a0_1 a0_2 a0_3 l0_4 a1_0 a1_1 a1_2 a1_3 l1_4 = some r) ∧ Aside0 (kq ≤ k) ∧ Aside0 (wc.heap[gb202]? = some (.cells #[.int .i64 a0_0, .bool a0_1, .int .i64 a0_2, .string a0_3, (.slice A0_4 l0_4.length c0_4)] 32 (0, 0))) ∧ Aside0 (wc.heap[gb203]? = some (.cells #[.int .i64 a1_0, .bool a1_1, .int .i64 a1_2, .string a1_3, (.slice A1_4 l1_4.length c1_4)] 32 (0, 0))) ∧ Aside0 (Below w.heap.size w wc))
 case first =>
  have H := HC3.out
  clear HC3
  by_cases c6 : a0_0 = a1_0
  ·
   rw [if_pos c6] at H
   have c6b0 : (a0_0 == a1_0) = true := beq_iff_eq.mpr c6
   have c6b1 : (a0_0 != a1_0) = false := bne_eq_false_iff_eq.mpr c6
   clear c6
   (first | rw [c6b0] | (simp only [i64_w, i32_w]; rw [c6b0]) | skip)
   by_cases c7 : (a0_1 != a1_1) = true
   ·
    rw [if_pos c7] at H
    have c7b0 : (a0_1 != a1_1) = true := c7
    (try (have c7b1 : decide (a0_1 = a1_1) = false := by simpa using c7))
    (try (have c7b2 : (a0_1 == a1_1) = false := by simpa using c7))
    (try (have c7b3 : ¬ (a0_1 = a1_1) := by simpa using c7))
    clear c7
    have H' := Aside0.mk H
    clear H
    have hnb8 := NB202_203.out
    have hnc8 := NB203_202.out
    have hcz9_0 : w5.cell? ⟨gb202, 0, none⟩ = some (.int .i64 a0_0) := (blk_cell BK202.out 0).trans rfl
    have hcz9_1 : w5.cell? ⟨gb202, 1, none⟩ = some (.bool a0_1) := (blk_cell BK202.out 1).trans rfl
    have hcz9_2 : w5.cell? ⟨gb202, 2, none⟩ = some (.int .i64 a0_2) := (blk_cell BK202.out 2).trans rfl
    have hcz9_3 : w5.cell? ⟨gb202, 3, none⟩ = some (.string a0_3) := (blk_cell BK202.out 3).trans rfl
    have hcz9_4 : w5.cell? ⟨gb202, 4, none⟩ = some (.slice A0_4 l0_4.length c0_4) := (blk_cell BK202.out 4).trans rfl
    have hfz9_0 := blk_frozen BK202.out 0
    have hfz9_1 := blk_frozen BK202.out 1
    have hfz9_2 := blk_frozen BK202.out 2
    have hfz9_3 := blk_frozen BK202.out 3
    have hfz9_4 := blk_frozen BK202.out 4
    have hcz10_0 : w5.cell? ⟨gb203, 0, none⟩ = some (.int .i64 a1_0) := (blk_cell BK203.out 0).trans rfl
    have hcz10_1 : w5.cell? ⟨gb203, 1, none⟩ = some (.bool a1_1) := (blk_cell BK203.out 1).trans rfl
    have hcz10_2 : w5.cell? ⟨gb203, 2, none⟩ = some (.int .i64 a1_2) := (blk_cell BK203.out 2).trans rfl
    have hcz10_3 : w5.cell? ⟨gb203, 3, none⟩ = some (.string a1_3) := (blk_cell BK203.out 3).trans rfl
    have hcz10_4 : w5.cell? ⟨gb203, 4, none⟩ = some (.slice A1_4 l1_4.length c1_4) := (blk_cell BK203.out 4).trans rfl
    have hfz10_0 := blk_frozen BK203.out 0
    have hfz10_1 := blk_frozen BK203.out 1
    have hfz10_2 := blk_frozen BK203.out 2
    have hfz10_3 := blk_frozen BK203.out 3
    have hfz10_4 := blk_frozen BK203.out 4
    go_wp2
    repeat (go_quiet (fail); try go_wp2)
    go_meet
    case rel => exact ⟨_, (true), (by first | rfl | (simp; done) | (simp [*]; done)), H', ⟨by first | omega | exact Nat.le_refl _⟩, ⟨bk BK202.out⟩, ⟨bk BK203.out⟩, ⟨bws HB.out⟩⟩
   ·
    rw [if_neg c7] at H
    have c7b0 : (a0_1 != a1_1) = false := by simpa using c7
    (try (have c7b1 : decide (a0_1 = a1_1) = true := by simpa using c7))
    (try (have c7b2 : (a0_1 == a1_1) = true := by simpa using c7))
    clear c7
    by_cases c11 : a0_2 = a1_2
    ·
     rw [if_pos c11] at H
     have c11b0 : (a0_2 == a1_2) = true := beq_iff_eq.mpr c11
     have c11b1 : (a0_2 != a1_2) = false := bne_eq_false_iff_eq.mpr c11
     clear c11
     by_cases c12 : a0_3.toList = a1_3.toList
     ·
      rw [if_pos c12] at H
      have c12b0 : (a0_3.toList == a1_3.toList) = true := beq_iff_eq.mpr c12
      have c12b1 : (a0_3.toList != a1_3.toList) = false := bne_eq_false_iff_eq.mpr c12
      clear c12
      have H' := Aside0.mk H
      clear H
      have hnb13 := NB202_203.out
      have hnc13 := NB203_202.out
      have hcz14_0 : w5.cell? ⟨gb202, 0, none⟩ = some (.int .i64 a0_0) := (blk_cell BK202.out 0).trans rfl
      have hcz14_1 : w5.cell? ⟨gb202, 1, none⟩ = some (.bool a0_1) := (blk_cell BK202.out 1).trans rfl
      have hcz14_2 : w5.cell? ⟨gb202, 2, none⟩ = some (.int .i64 a0_2) := (blk_cell BK202.out 2).trans rfl
      have hcz14_3 : w5.cell? ⟨gb202, 3, none⟩ = some (.string a0_3) := (blk_cell BK202.out 3).trans rfl
      have hcz14_4 : w5.cell? ⟨gb202, 4, none⟩ = some (.slice A0_4 l0_4.length c0_4) := (blk_cell BK202.out 4).trans rfl
      have hfz14_0 := blk_frozen BK202.out 0
      have hfz14_1 := blk_frozen BK202.out 1
      have hfz14_2 := blk_frozen BK202.out 2
      have hfz14_3 := blk_frozen BK202.out 3
      have hfz14_4 := blk_frozen BK202.out 4
      have hcz15_0 : w5.cell? ⟨gb203, 0, none⟩ = some (.int .i64 a1_0) := (blk_cell BK203.out 0).trans rfl
      have hcz15_1 : w5.cell? ⟨gb203, 1, none⟩ = some (.bool a1_1) := (blk_cell BK203.out 1).trans rfl
      have hcz15_2 : w5.cell? ⟨gb203, 2, none⟩ = some (.int .i64 a1_2) := (blk_cell BK203.out 2).trans rfl
      have hcz15_3 : w5.cell? ⟨gb203, 3, none⟩ = some (.string a1_3) := (blk_cell BK203.out 3).trans rfl
      have hcz15_4 : w5.cell? ⟨gb203, 4, none⟩ = some (.slice A1_4 l1_4.length c1_4) := (blk_cell BK203.out 4).trans rfl
      have hfz15_0 := blk_frozen BK203.out 0
      have hfz15_1 := blk_frozen BK203.out 1
      have hfz15_2 := blk_frozen BK203.out 2
      have hfz15_3 := blk_frozen BK203.out 3
      have hfz15_4 := blk_frozen BK203.out 4
      go_wp2
      repeat (go_quiet (fail); try go_wp2)
      go_meet
      case rel => exact ⟨_, (((l0_4.length : Int) != (l1_4.length : Int))), (by first | rfl | (simp; done) | (simp [*]; done)), H', ⟨by first | omega | exact Nat.le_refl _⟩, ⟨bk BK202.out⟩, ⟨bk BK203.out⟩, ⟨bws HB.out⟩⟩
     ·
      rw [if_neg c12] at H
      have c12b0 : (a0_3.toList == a1_3.toList) = false := beq_eq_false_iff_ne.mpr c12
      have c12b1 : (a0_3.toList != a1_3.toList) = true := bne_iff_ne.mpr c12
      have H' := Aside0.mk H
      clear H
      have hnb16 := NB202_203.out
      have hnc16 := NB203_202.out
      have hcz17_0 : w5.cell? ⟨gb202, 0, none⟩ = some (.int .i64 a0_0) := (blk_cell BK202.out 0).trans rfl
      have hcz17_1 : w5.cell? ⟨gb202, 1, none⟩ = some (.bool a0_1) := (blk_cell BK202.out 1).trans rfl
      have hcz17_2 : w5.cell? ⟨gb202, 2, none⟩ = some (.int .i64 a0_2) := (blk_cell BK202.out 2).trans rfl
      have hcz17_3 : w5.cell? ⟨gb202, 3, none⟩ = some (.string a0_3) := (blk_cell BK202.out 3).trans rfl
      have hcz17_4 : w5.cell? ⟨gb202, 4, none⟩ = some (.slice A0_4 l0_4.length c0_4) := (blk_cell BK202.out 4).trans rfl
      have hfz17_0 := blk_frozen BK202.out 0
      have hfz17_1 := blk_frozen BK202.out 1
      have hfz17_2 := blk_frozen BK202.out 2
      have hfz17_3 := blk_frozen BK202.out 3
      have hfz17_4 := blk_frozen BK202.out 4
      have hcz18_0 : w5.cell? ⟨gb203, 0, none⟩ = some (.int .i64 a1_0) := (blk_cell BK203.out 0).trans rfl
      have hcz18_1 : w5.cell? ⟨gb203, 1, none⟩ = some (.bool a1_1) := (blk_cell BK203.out 1).trans rfl
      have hcz18_2 : w5.cell? ⟨gb203, 2, none⟩ = some (.int .i64 a1_2) := (blk_cell BK203.out 2).trans rfl
      have hcz18_3 : w5.cell? ⟨gb203, 3, none⟩ = some (.string a1_3) := (blk_cell BK203.out 3).trans rfl
      have hcz18_4 : w5.cell? ⟨gb203, 4, none⟩ = some (.slice A1_4 l1_4.length c1_4) := (blk_cell BK203.out 4).trans rfl
      have hfz18_0 := blk_frozen BK203.out 0
      have hfz18_1 := blk_frozen BK203.out 1
      have hfz18_2 := blk_frozen BK203.out 2
      have hfz18_3 := blk_frozen BK203.out 3
      have hfz18_4 := blk_frozen BK203.out 4
      go_wp2
      repeat (go_quiet (fail); try go_wp2)
      go_meet
      case rel => exact ⟨_, (true), (by first | rfl | (simp; done) | (simp [*]; done)), H', ⟨by first | omega | exact Nat.le_refl _⟩, ⟨bk BK202.out⟩, ⟨bk BK203.out⟩, ⟨bws HB.out⟩⟩
    ·
     rw [if_neg c11] at H
     have c11b0 : (a0_2 == a1_2) = false := beq_eq_false_iff_ne.mpr c11
     have c11b1 : (a0_2 != a1_2) = true := bne_iff_ne.mpr c11
     have H' := Aside0.mk H
     clear H
     have hnb19 := NB202_203.out
     have hnc19 := NB203_202.out
     have hcz20_0 : w5.cell? ⟨gb202, 0, none⟩ = some (.int .i64 a0_0) := (blk_cell BK202.out 0).trans rfl
     have hcz20_1 : w5.cell? ⟨gb202, 1, none⟩ = some (.bool a0_1) := (blk_cell BK202.out 1).trans rfl
     have hcz20_2 : w5.cell? ⟨gb202, 2, none⟩ = some (.int .i64 a0_2) := (blk_cell BK202.out 2).trans rfl
     have hcz20_3 : w5.cell? ⟨gb202, 3, none⟩ = some (.string a0_3) := (blk_cell BK202.out 3).trans rfl
     have hcz20_4 : w5.cell? ⟨gb202, 4, none⟩ = some (.slice A0_4 l0_4.length c0_4) := (blk_cell BK202.out 4).trans rfl
     have hfz20_0 := blk_frozen BK202.out 0
     have hfz20_1 := blk_frozen BK202.out 1
     have hfz20_2 := blk_frozen BK202.out 2
     have hfz20_3 := blk_frozen BK202.out 3
     have hfz20_4 := blk_frozen BK202.out 4
     have hcz21_0 : w5.cell? ⟨gb203, 0, none⟩ = some (.int .i64 a1_0) := (blk_cell BK203.out 0).trans rfl
     have hcz21_1 : w5.cell? ⟨gb203, 1, none⟩ = some (.bool a1_1) := (blk_cell BK203.out 1).trans rfl
     have hcz21_2 : w5.cell? ⟨gb203, 2, none⟩ = some (.int .i64 a1_2) := (blk_cell BK203.out 2).trans rfl
     have hcz21_3 : w5.cell? ⟨gb203, 3, none⟩ = some (.string a1_3) := (blk_cell BK203.out 3).trans rfl
     have hcz21_4 : w5.cell? ⟨gb203, 4, none⟩ = some (.slice A1_4 l1_4.length c1_4) := (blk_cell BK203.out 4).trans rfl
     have hfz21_0 := blk_frozen BK203.out 0
     have hfz21_1 := blk_frozen BK203.out 1
     have hfz21_2 := blk_frozen BK203.out 2
     have hfz21_3 := blk_frozen BK203.out 3
     have hfz21_4 := blk_frozen BK203.out 4
     go_wp2
     repeat (go_quiet (fail); try go_wp2)
     go_meet
     case rel => exact ⟨_, (true), (by first | rfl | (simp; done) | (simp [*]; done)), H', ⟨by first | omega | exact Nat.le_refl _⟩, ⟨bk BK202.out⟩, ⟨bk BK203.out⟩, ⟨bws HB.out⟩⟩
  ·
   rw [if_neg c6] at H
   have c6b0 : (a0_0 == a1_0) = false := beq_eq_false_iff_ne.mpr c6
   have c6b1 : (a0_0 != a1_0) = true := bne_iff_ne.mpr c6
   (first | rw [c6b0] | (simp only [i64_w, i32_w]; rw [c6b0]) | skip)
   have H' := Aside0.mk H
   clear H
   have hnb22 := NB202_203.out
   have hnc22 := NB203_202.out
   have hcz23_0 : w5.cell? ⟨gb202, 0, none⟩ = some (.int .i64 a0_0) := (blk_cell BK202.out 0).trans rfl
   have hcz23_1 : w5.cell? ⟨gb202, 1, none⟩ = some (.bool a0_1) := (blk_cell BK202.out 1).trans rfl
   have hcz23_2 : w5.cell? ⟨gb202, 2, none⟩ = some (.int .i64 a0_2) := (blk_cell BK202.out 2).trans rfl
   have hcz23_3 : w5.cell? ⟨gb202, 3, none⟩ = some (.string a0_3) := (blk_cell BK202.out 3).trans rfl
   have hcz23_4 : w5.cell? ⟨gb202, 4, none⟩ = some (.slice A0_4 l0_4.length c0_4) := (blk_cell BK202.out 4).trans rfl
   have hfz23_0 := blk_frozen BK202.out 0
   have hfz23_1 := blk_frozen BK202.out 1
   have hfz23_2 := blk_frozen BK202.out 2
   have hfz23_3 := blk_frozen BK202.out 3
   have hfz23_4 := blk_frozen BK202.out 4
   have hcz24_0 : w5.cell? ⟨gb203, 0, none⟩ = some (.int .i64 a1_0) := (blk_cell BK203.out 0).trans rfl
   have hcz24_1 : w5.cell? ⟨gb203, 1, none⟩ = some (.bool a1_1) := (blk_cell BK203.out 1).trans rfl
   have hcz24_2 : w5.cell? ⟨gb203, 2, none⟩ = some (.int .i64 a1_2) := (blk_cell BK203.out 2).trans rfl
   have hcz24_3 : w5.cell? ⟨gb203, 3, none⟩ = some (.string a1_3) := (blk_cell BK203.out 3).trans rfl
   have hcz24_4 : w5.cell? ⟨gb203, 4, none⟩ = some (.slice A1_4 l1_4.length c1_4) := (blk_cell BK203.out 4).trans rfl
   have hfz24_0 := blk_frozen BK203.out 0
   have hfz24_1 := blk_frozen BK203.out 1
   have hfz24_2 := blk_frozen BK203.out 2
   have hfz24_3 := blk_frozen BK203.out 3
   have hfz24_4 := blk_frozen BK203.out 4
   go_wp2
   repeat (go_quiet (fail); try go_wp2)
   go_meet
   case rel => exact ⟨_, (true), (by first | rfl | (simp; done) | (simp [*]; done)), H', ⟨by first | omega | exact Nat.le_refl _⟩, ⟨bk BK202.out⟩, ⟨bk BK203.out⟩, ⟨bws HB.out⟩⟩
 case rest =>
  clear HC3
  try clear c1
  try clear c2
  try clear p2
  try clear c6
  try clear c6b0
  try clear c6b1
  try clear c7
  try clear c7b0
  try clear c7b1
  try clear c7b2
  try clear c8
  try clear c11
  try clear c11b0
  try clear c11b1
  try clear c12
  try clear c12b0
  try clear c12b1
  try clear c13
  try clear c14
  try clear c16
  try clear c19
  try clear c22
  try clear hcz10_0
  try clear hcz10_1
  try clear hcz10_2
  try clear hcz10_3
  try clear hcz10_4
  try clear hcz14_0
  try clear hcz14_1
  try clear hcz14_2
  try clear hcz14_3
  try clear hcz14_4
  try clear hcz15_0
  try clear hcz15_1
  try clear hcz15_2
  try clear hcz15_3
  try clear hcz15_4
  try clear hcz17_0
  try clear hcz17_1
  try clear hcz17_2
  try clear hcz17_3
  try clear hcz17_4
  try clear hcz18_0
  try clear hcz18_1
  try clear hcz18_2
  try clear hcz18_3
  try clear hcz18_4
  try clear hcz20_0
  try clear hcz20_1
  try clear hcz20_2
  try clear hcz20_3
  try clear hcz20_4
  try clear hcz21_0
  try clear hcz21_1
  try clear hcz21_2
  try clear hcz21_3
  try clear hcz21_4
  try clear hcz23_0
  try clear hcz23_1
  try clear hcz23_2
  try clear hcz23_3
  try clear hcz23_4
  try clear hcz24_0
  try clear hcz24_1
  try clear hcz24_2
  try clear hcz24_3
  try clear hcz24_4
  try clear hcz9_0
  try clear hcz9_1
  try clear hcz9_2
  try clear hcz9_3
  try clear hcz9_4
  try clear hfz10_0
  try clear hfz10_1
  try clear hfz10_2
  try clear hfz10_3
  try clear hfz10_4
  try clear hfz14_0
  try clear hfz14_1
  try clear hfz14_2
  try clear hfz14_3
  try clear hfz14_4
  try clear hfz15_0
  try clear hfz15_1
  try clear hfz15_2
  try clear hfz15_3
  try clear hfz15_4
  try clear hfz17_0
  try clear hfz17_1
  try clear hfz17_2
  try clear hfz17_3
  try clear hfz17_4
  try clear hfz18_0
  try clear hfz18_1
  try clear hfz18_2
  try clear hfz18_3
  try clear hfz18_4
  try clear hfz20_0
  try clear hfz20_1
  try clear hfz20_2
  try clear hfz20_3
  try clear hfz20_4
  try clear hfz21_0
  try clear hfz21_1
  try clear hfz21_2
  try clear hfz21_3
  try clear hfz21_4
  try clear hfz23_0
  try clear hfz23_1
  try clear hfz23_2
  try clear hfz23_3
  try clear hfz23_4
  try clear hfz24_0
  try clear hfz24_1
  try clear hfz24_2
  try clear hfz24_3
  try clear hfz24_4
  try clear hfz9_0
  try clear hfz9_1
  try clear hfz9_2
  try clear hfz9_3
  try clear hfz9_4
  obtain ⟨kq, x40_2, rfl, HA, HJ2, BK202, BK203, HB⟩ := hcut
  cases kq with
  | zero => exact absurd HA.out (by simp [stowageref13_Same.j0])
  | succ kj2 =>
   have H := HA.out
   clear HA
   simp only [stowageref13_Same.j0] at H
   by_cases c25 : x40_2 = true
   ·
    subst c25
    have H1 : (some false) = some r := by rw [if_pos rfl] at H; exact H
    clear H
    have H := H1
    clear H1
    obtain rfl := Option.some.inj H
    go_wp2
    repeat (go_quiet (fail); try go_wp2)
    go_ret
    exact ⟨by first | rfl | (simp [errW_none, errW_some] <;> rfl) | (simp [*, errW_none, errW_some] <;> rfl), by repeat (first | (with_reducible first | exact HB.out | apply below_alloc | apply pw_below_drewN | apply below_drew1 | refine below_set ?_ GE202.out | refine below_set ?_ GE203.out) | exact HB.out)⟩
   ·
    replace c25 := Bool.eq_false_iff.mpr c25
    subst c25
    have H1 : (stowageref13_Same.l0 kj2 0 a0_0 a0_1 a0_2 a0_3 l0_4 a1_0 a1_1 a1_2 a1_3 l1_4) = some r := by rw [if_neg (show ¬ (false = true) by decide)] at H; exact H
    clear H
    have H := H1
    clear H1
    have H' := Aside0.mk H
    clear H
    go_wp2
    repeat (go_quiet (fail); try go_wp2)
    go_loopg [5] kj2 (fun kq v5 w' => ∃ (x5_2 : Int), v5 = .int .i64 x5_2 ∧ Aside0 (stowageref13_Same.l0 kq x5_2 a0_0 a0_1 a0_2 a0_3 l0_4 a1_0 a1_1 a1_2 a1_3 l1_4 = some r) ∧ Aside0 (kq ≤ kj2) ∧ Aside0 (w'.heap[gb202]? = some (.cells #[.int .i64 a0_0, .bool a0_1, .int .i64 a0_2, .string a0_3, (.slice A0_4 l0_4.length c0_4)] 32 (0, 0))) ∧ Aside0 (w'.heap[gb203]? = some (.cells #[.int .i64 a1_0, .bool a1_1, .int .i64 a1_2, .string a1_3, (.slice A1_4 l1_4.length c1_4)] 32 (0, 0))) ∧ Aside0 (Below w.heap.size w w'))
    case atStart => exact ⟨(0), (by first | rfl | (simp; done) | (simp [*]; done)), H', ⟨Nat.le_refl _⟩, ⟨bk BK202.out⟩, ⟨bk BK203.out⟩, ⟨bws HB.out⟩⟩
    case round =>
     clear H'
     try clear c1
     try clear c2
     try clear p2
     try clear c6
     try clear c6b0
     try clear c6b1
     try clear c7
     try clear c7b0
     try clear c7b1
     try clear c7b2
     try clear c8
     try clear c11
     try clear c11b0
     try clear c11b1
     try clear c12
     try clear c12b0
     try clear c12b1
     try clear c13
     try clear c14
     try clear c16
     try clear c19
     try clear c22
     try clear c25
     try clear hcz10_0
     try clear hcz10_1
     try clear hcz10_2
     try clear hcz10_3
     try clear hcz10_4
     try clear hcz14_0
     try clear hcz14_1
     try clear hcz14_2
     try clear hcz14_3
     try clear hcz14_4
     try clear hcz15_0
     try clear hcz15_1
     try clear hcz15_2
     try clear hcz15_3
     try clear hcz15_4
     try clear hcz17_0
     try clear hcz17_1
     try clear hcz17_2
     try clear hcz17_3
     try clear hcz17_4
     try clear hcz18_0
     try clear hcz18_1
     try clear hcz18_2
     try clear hcz18_3
     try clear hcz18_4
     try clear hcz20_0
     try clear hcz20_1
     try clear hcz20_2
     try clear hcz20_3
     try clear hcz20_4
     try clear hcz21_0
     try clear hcz21_1
     try clear hcz21_2
     try clear hcz21_3
     try clear hcz21_4
     try clear hcz23_0
     try clear hcz23_1
     try clear hcz23_2
     try clear hcz23_3
     try clear hcz23_4
     try clear hcz24_0
     try clear hcz24_1
     try clear hcz24_2
     try clear hcz24_3
     try clear hcz24_4
     try clear hcz9_0
     try clear hcz9_1
     try clear hcz9_2
     try clear hcz9_3
     try clear hcz9_4
     try clear hfz10_0
     try clear hfz10_1
     try clear hfz10_2
     try clear hfz10_3
     try clear hfz10_4
     try clear hfz14_0
     try clear hfz14_1
     try clear hfz14_2
     try clear hfz14_3
     try clear hfz14_4
     try clear hfz15_0
     try clear hfz15_1
     try clear hfz15_2
     try clear hfz15_3
     try clear hfz15_4
     try clear hfz17_0
     try clear hfz17_1
     try clear hfz17_2
     try clear hfz17_3
     try clear hfz17_4
     try clear hfz18_0
     try clear hfz18_1
     try clear hfz18_2
     try clear hfz18_3
     try clear hfz18_4
     try clear hfz20_0
     try clear hfz20_1
     try clear hfz20_2
     try clear hfz20_3
     try clear hfz20_4
     try clear hfz21_0
     try clear hfz21_1
     try clear hfz21_2
     try clear hfz21_3
     try clear hfz21_4
     try clear hfz23_0
     try clear hfz23_1
     try clear hfz23_2
     try clear hfz23_3
     try clear hfz23_4
     try clear hfz24_0
     try clear hfz24_1
     try clear hfz24_2
     try clear hfz24_3
     try clear hfz24_4
     try clear hfz9_0
     try clear hfz9_1
     try clear hfz9_2
     try clear hfz9_3
     try clear hfz9_4
     try clear p2
     obtain ⟨x5_2, rfl, HA, HK2, BK202, BK203, HB⟩ := hrel
     cases gk with
     | zero => exact absurd HA.out (by simp [stowageref13_Same.l0])
     | succ k2 =>
      have H := HA.out
      clear HA
      simp only [stowageref13_Same.l0] at H
      by_cases c26 : x5_2 < (l0_4.length : Int)
      ·
       rw [if_pos c26] at H
       have c26b0 : decide (x5_2 < (l0_4.length : Int)) = true := decide_eq_true c26
       clear c26
       by_cases c27 : 0 ≤ x5_2
       ·
        rw [if_pos c27] at H
        have c27b0 : decide (0 ≤ x5_2) = true := decide_eq_true c27
        clear c27
        by_cases c28 : x5_2 < (l1_4.length : Int)
        ·
         rw [if_pos c28] at H
         have c28b0 : decide (x5_2 < (l1_4.length : Int)) = true := decide_eq_true c28
         clear c28
         by_cases c29 : (!((((rd_T85 l0_4 x5_2).f0).toList) == (((rd_T85 l1_4 x5_2).f0).toList)) || (!(((rd_T85 l0_4 x5_2).f1) == ((rd_T85 l1_4 x5_2).f1)))) = true
         ·
          rw [if_pos c29] at H
          have c29b0 : (!((((rd_T85 l0_4 x5_2).f0).toList) == (((rd_T85 l1_4 x5_2).f0).toList)) || (!(((rd_T85 l0_4 x5_2).f1) == ((rd_T85 l1_4 x5_2).f1)))) = true := c29
          clear c29
          obtain rfl := Option.some.inj H
          have hnb30 := NB202_203.out
          have hnc30 := NB203_202.out
          have hcz31_0 : wr.cell? ⟨gb202, 0, none⟩ = some (.int .i64 a0_0) := (blk_cell BK202.out 0).trans rfl
          have hcz31_1 : wr.cell? ⟨gb202, 1, none⟩ = some (.bool a0_1) := (blk_cell BK202.out 1).trans rfl
          have hcz31_2 : wr.cell? ⟨gb202, 2, none⟩ = some (.int .i64 a0_2) := (blk_cell BK202.out 2).trans rfl
          have hcz31_3 : wr.cell? ⟨gb202, 3, none⟩ = some (.string a0_3) := (blk_cell BK202.out 3).trans rfl
          have hcz31_4 : wr.cell? ⟨gb202, 4, none⟩ = some (.slice A0_4 l0_4.length c0_4) := (blk_cell BK202.out 4).trans rfl
          have hfz31_0 := blk_frozen BK202.out 0
          have hfz31_1 := blk_frozen BK202.out 1
          have hfz31_2 := blk_frozen BK202.out 2
          have hfz31_3 := blk_frozen BK202.out 3
          have hfz31_4 := blk_frozen BK202.out 4
          have p204 : 0 ≤ (x5_2 : Int) := of_decide_eq_true asm
          have q204 : x5_2 < (l0_4.length : Int) := of_decide_eq_true asm
          obtain ⟨ad204, e204, hx204_0, hx204_1⟩ := at_T85 HR0_4.out x5_2 p204 q204
          cases e204
          replace hx204_0 := bc HB.out hx204_0
          replace hx204_1 := bc HB.out hx204_1
          replace p204 := eq_true p204
          replace q204 := eq_true q204
          have hcz32_0 : wr.cell? ⟨gb203, 0, none⟩ = some (.int .i64 a1_0) := (blk_cell BK203.out 0).trans rfl
          have hcz32_1 : wr.cell? ⟨gb203, 1, none⟩ = some (.bool a1_1) := (blk_cell BK203.out 1).trans rfl
          have hcz32_2 : wr.cell? ⟨gb203, 2, none⟩ = some (.int .i64 a1_2) := (blk_cell BK203.out 2).trans rfl
          have hcz32_3 : wr.cell? ⟨gb203, 3, none⟩ = some (.string a1_3) := (blk_cell BK203.out 3).trans rfl
          have hcz32_4 : wr.cell? ⟨gb203, 4, none⟩ = some (.slice A1_4 l1_4.length c1_4) := (blk_cell BK203.out 4).trans rfl
          have hfz32_0 := blk_frozen BK203.out 0
          have hfz32_1 := blk_frozen BK203.out 1
          have hfz32_2 := blk_frozen BK203.out 2
          have hfz32_3 := blk_frozen BK203.out 3
          have hfz32_4 := blk_frozen BK203.out 4
          have p205 : 0 ≤ (x5_2 : Int) := of_decide_eq_true asm
          have q205 : x5_2 < (l1_4.length : Int) := of_decide_eq_true asm
          obtain ⟨ad205, e205, hx205_0, hx205_1⟩ := at_T85 HR1_4.out x5_2 p205 q205
          cases e205
          replace hx205_0 := bc HB.out hx205_0
          replace hx205_1 := bc HB.out hx205_1
          replace p205 := eq_true p205
          replace q205 := eq_true q205
          go_wp2
          repeat (go_quiet (fail); try go_wp2)
          go_ret
          exact ⟨by first | rfl | (simp [errW_none, errW_some] <;> rfl) | (simp [*, errW_none, errW_some] <;> rfl), by repeat (first | (with_reducible first | exact HB.out | apply below_alloc | apply pw_below_drewN | apply below_drew1 | refine below_set ?_ GE202.out | refine below_set ?_ GE203.out) | exact HB.out)⟩
         ·
          rw [if_neg c29] at H
          have c29b0 : (!((((rd_T85 l0_4 x5_2).f0).toList) == (((rd_T85 l1_4 x5_2).f0).toList)) || (!(((rd_T85 l0_4 x5_2).f1) == ((rd_T85 l1_4 x5_2).f1)))) = false := by simpa using c29
          clear c29
          have H' := Aside0.mk H
          clear H
          have hnb33 := NB202_203.out
          have hnc33 := NB203_202.out
          have hcz34_0 : wr.cell? ⟨gb202, 0, none⟩ = some (.int .i64 a0_0) := (blk_cell BK202.out 0).trans rfl
          have hcz34_1 : wr.cell? ⟨gb202, 1, none⟩ = some (.bool a0_1) := (blk_cell BK202.out 1).trans rfl
          have hcz34_2 : wr.cell? ⟨gb202, 2, none⟩ = some (.int .i64 a0_2) := (blk_cell BK202.out 2).trans rfl
          have hcz34_3 : wr.cell? ⟨gb202, 3, none⟩ = some (.string a0_3) := (blk_cell BK202.out 3).trans rfl
          have hcz34_4 : wr.cell? ⟨gb202, 4, none⟩ = some (.slice A0_4 l0_4.length c0_4) := (blk_cell BK202.out 4).trans rfl
          have hfz34_0 := blk_frozen BK202.out 0
          have hfz34_1 := blk_frozen BK202.out 1
          have hfz34_2 := blk_frozen BK202.out 2
          have hfz34_3 := blk_frozen BK202.out 3
          have hfz34_4 := blk_frozen BK202.out 4
          have p204 : 0 ≤ (x5_2 : Int) := of_decide_eq_true asm
          have q204 : x5_2 < (l0_4.length : Int) := of_decide_eq_true asm
          obtain ⟨ad204, e204, hx204_0, hx204_1⟩ := at_T85 HR0_4.out x5_2 p204 q204
          cases e204
          replace hx204_0 := bc HB.out hx204_0
          replace hx204_1 := bc HB.out hx204_1
          replace p204 := eq_true p204
          replace q204 := eq_true q204
          have hcz35_0 : wr.cell? ⟨gb203, 0, none⟩ = some (.int .i64 a1_0) := (blk_cell BK203.out 0).trans rfl
          have hcz35_1 : wr.cell? ⟨gb203, 1, none⟩ = some (.bool a1_1) := (blk_cell BK203.out 1).trans rfl
          have hcz35_2 : wr.cell? ⟨gb203, 2, none⟩ = some (.int .i64 a1_2) := (blk_cell BK203.out 2).trans rfl
          have hcz35_3 : wr.cell? ⟨gb203, 3, none⟩ = some (.string a1_3) := (blk_cell BK203.out 3).trans rfl
          have hcz35_4 : wr.cell? ⟨gb203, 4, none⟩ = some (.slice A1_4 l1_4.length c1_4) := (blk_cell BK203.out 4).trans rfl
          have hfz35_0 := blk_frozen BK203.out 0
          have hfz35_1 := blk_frozen BK203.out 1
          have hfz35_2 := blk_frozen BK203.out 2
          have hfz35_3 := blk_frozen BK203.out 3
          have hfz35_4 := blk_frozen BK203.out 4
          have p205 : 0 ≤ (x5_2 : Int) := of_decide_eq_true asm
          have q205 : x5_2 < (l1_4.length : Int) := of_decide_eq_true asm
          obtain ⟨ad205, e205, hx205_0, hx205_1⟩ := at_T85 HR1_4.out x5_2 p205 q205
          cases e205
          replace hx205_0 := bc HB.out hx205_0
          replace hx205_1 := bc HB.out hx205_1
          replace p205 := eq_true p205
          replace q205 := eq_true q205
          go_wp2
          repeat (go_quiet (fail); try go_wp2)
          go_roundg k2
          case measure => have := HJ2.out; have := HK2.out; omega
          case rel => exact ⟨(wrap64 (x5_2 + 1)), (by first | rfl | (simp; done) | (simp [*]; done)), H', ⟨by have := HJ2.out; have := HK2.out; omega⟩, ⟨bk BK202.out⟩, ⟨bk BK203.out⟩, ⟨bws HB.out⟩⟩
        ·
         rw [if_neg c28] at H
         exact absurd H (by simp)
       ·
        rw [if_neg c27] at H
        exact absurd H (by simp)
      ·
       rw [if_neg c26] at H
       have c26b0 : decide (x5_2 < (l0_4.length : Int)) = false := decide_eq_false c26
       clear c26
       obtain rfl := Option.some.inj H
       have hnb36 := NB202_203.out
       have hnc36 := NB203_202.out
       have hcz37_0 : wr.cell? ⟨gb202, 0, none⟩ = some (.int .i64 a0_0) := (blk_cell BK202.out 0).trans rfl
       have hcz37_1 : wr.cell? ⟨gb202, 1, none⟩ = some (.bool a0_1) := (blk_cell BK202.out 1).trans rfl
       have hcz37_2 : wr.cell? ⟨gb202, 2, none⟩ = some (.int .i64 a0_2) := (blk_cell BK202.out 2).trans rfl
       have hcz37_3 : wr.cell? ⟨gb202, 3, none⟩ = some (.string a0_3) := (blk_cell BK202.out 3).trans rfl
       have hcz37_4 : wr.cell? ⟨gb202, 4, none⟩ = some (.slice A0_4 l0_4.length c0_4) := (blk_cell BK202.out 4).trans rfl
       have hfz37_0 := blk_frozen BK202.out 0
       have hfz37_1 := blk_frozen BK202.out 1
       have hfz37_2 := blk_frozen BK202.out 2
       have hfz37_3 := blk_frozen BK202.out 3
       have hfz37_4 := blk_frozen BK202.out 4
       go_wp2
       repeat (go_quiet (fail); try go_wp2)
       go_ret
       exact ⟨by first | rfl | (simp [errW_none, errW_some] <;> rfl) | (simp [*, errW_none, errW_some] <;> rfl), by repeat (first | (with_reducible first | exact HB.out | apply below_alloc | apply pw_below_drewN | apply below_drew1 | refine below_set ?_ GE202.out | refine below_set ?_ GE203.out) | exact HB.out)⟩

end Go.Proofs.YtoiockmmlanimaaDoor.Oo
end
section
-- Written for this claim by hyb.py, a driver of this session's over the kit's printer.
namespace Go.Proofs.YtoiockmmlanimaaDoor.Oo
open Go.RowKit Go.Proofs.YtoiockmmlanimaaDoorW.PrintWords Go.Proofs.YtoiockmmlanimaaDoorW.PrintLast Go.Proofs.YtoiockmmlanimaaDoorW.PrintMore
attribute [local go_sem] max2_int min2_int max_two min_two max_three min_three max_four min_four   -- for this text's walks alone
set_option linter.unusedVariables false
set_option linter.unusedSimpArgs false

/-! ### stowageref14_Same: function 17 -/
def stowageref14_Same.l0 : Nat → List (S52) → List (S52) → Int → Option (Bool)
 | 0, _, _, _ => none
 | k + 1, x0, x1, x5 => if x5 < (x0.length : Int) then (if 0 ≤ x5 then (if x5 < (x1.length : Int) then ((stowageref13_Same.f k ((rd_T52 x0 x5).f0) false ((rd_T52 x0 x5).f1) ((rd_T52 x0 x5).f2) ((rd_T52 x0 x5).f3) ((rd_T52 x1 x5).f0) false ((rd_T52 x1 x5).f1) ((rd_T52 x1 x5).f2) ((rd_T52 x1 x5).f3)).bind fun t216 => (if t216 = true then (stowageref14_Same.l0 k x0 x1 (wrap64 (x5 + 1))) else (some false))) else (none)) else (none)) else (some true)
def stowageref14_Same.f (k : Nat) (l0 : List (S52)) (l1 : List (S52)) : Option (Bool) := if (l0.length : Int) = (l1.length : Int) then (stowageref14_Same.l0 k l0 l1 0) else (some false)
theorem stowageref14_Same.mono_l : ∀ k, (∀ y0 y1 y2, LeO (stowageref14_Same.l0 k y0 y1 y2) (stowageref14_Same.l0 (k + 1) y0 y1 y2))
 | 0 => fun _ _ _ r h => by simp [stowageref14_Same.l0] at h
 | k + 1 => by
  have ih0 := stowageref14_Same.mono_l k
  ·
   intro y0 y1 y2
   unfold stowageref14_Same.l0
   repeat' first
   | (with_reducible exact ih0 _ _ _)
   | (with_reducible exact stowageref13_Same.mono _ _ _ _ _ _ _ _ _ _ _)
   | (with_reducible exact LeO.refl _)
   | (with_reducible exact LeO.none _)
   | (with_reducible refine LeO.ite ?_ ?_)
   | (with_reducible refine LeO.bind ?_ (fun _ => ?_))
   | exact ih0 _ _ _
   | exact stowageref13_Same.mono _ _ _ _ _ _ _ _ _ _ _
   | exact LeO.none _
   | refine LeO.ite ?_ ?_
   | refine LeO.bind ?_ (fun _ => ?_)
theorem stowageref14_Same.mono : ∀ a0 a1 k, LeO (stowageref14_Same.f k a0 a1) (stowageref14_Same.f (k + 1) a0 a1) := by
 intro a0 a1 k
 have ih0 := stowageref14_Same.mono_l k
 unfold stowageref14_Same.f
 repeat' first
   | (with_reducible exact ih0 _ _ _)
   | (with_reducible exact stowageref13_Same.mono _ _ _ _ _ _ _ _ _ _ _)
   | (with_reducible exact LeO.refl _)
   | (with_reducible exact LeO.none _)
   | (with_reducible refine LeO.ite ?_ ?_)
   | (with_reducible refine LeO.bind ?_ (fun _ => ?_))
   | exact ih0 _ _ _
   | exact stowageref13_Same.mono _ _ _ _ _ _ _ _ _ _ _
   | exact LeO.none _
   | refine LeO.ite ?_ ?_
   | refine LeO.bind ?_ (fun _ => ?_)
def stowageref14_Same.T6 : Bool × List (List Nat × List Nat) := (true, [([], []), ([], []), ([0, 1], [0, 1]), ([2], [2]), ([3], [3]), ([], []), ([], []), ([5, 6], [5, 6]), ([7], [7]), ([8], [8]), ([], []), ([], []), ([10, 11], [10, 11]), ([12], [12]), ([13], [13]), ([], []), ([], []), ([15, 16], [15, 16]), ([17], [17]), ([18], [18]), ([4, 9, 14, 19], [4, 9, 14, 19]), ([], []), ([21, 20, 0, 1, 2, 3, 4, 5, 6, 7, 8, 9, 10, 11, 12, 13, 14, 15, 16, 17, 18, 19, 20, 21], [20, 21])])
def stowageref14_Same.B6 : List Nat := [0, 0, 3, 7, 15, 0, 0, 96, 224, 480, 0, 0, 3072, 7168, 15360, 0, 0, 98304, 229376, 491520, 1048575, 0, 4194303]
theorem stowageref14_Same.tab6 : rtab .any (opsOf Tryd.f17 6) = stowageref14_Same.T6 := by kernel_rfl
theorem stowageref14_Same.bits6 : waitsOk stowageref14_Same.T6.2 stowageref14_Same.B6 = true := by kernel_rfl
def stowageref14_Same.T7 : Bool × List (List Nat × List Nat) := (true, [([], []), ([], []), ([0, 1], [0, 1]), ([2], [2]), ([3], [3]), ([], []), ([], []), ([5, 6], [5, 6]), ([7], [7]), ([8], [8]), ([], []), ([], []), ([10, 11], [10, 11]), ([12], [12]), ([13], [13]), ([], []), ([], []), ([15, 16], [15, 16]), ([17], [17]), ([18], [18]), ([4, 9, 14, 19], [4, 9, 14, 19]), ([], []), ([21, 20, 0, 1, 2, 3, 4, 5, 6, 7, 8, 9, 10, 11, 12, 13, 14, 15, 16, 17, 18, 19, 20, 21], [20, 21])])
def stowageref14_Same.B7 : List Nat := [0, 0, 3, 7, 15, 0, 0, 96, 224, 480, 0, 0, 3072, 7168, 15360, 0, 0, 98304, 229376, 491520, 1048575, 0, 4194303]
theorem stowageref14_Same.tab7 : rtab .any (opsOf Tryd.f17 7) = stowageref14_Same.T7 := by kernel_rfl
theorem stowageref14_Same.bits7 : waitsOk stowageref14_Same.T7.2 stowageref14_Same.B7 = true := by kernel_rfl
set_option maxHeartbeats 8000000 in
set_option maxRecDepth 100000 in
theorem stowageref14_Same.calls (k : Nat) (A0 : Option Addr) (c0 : Nat) (l0 : List (S52)) (A1 : Option Addr) (c1 : Nat) (l1 : List (S52)) (r : Bool) (w : World) (hr0 : Kd.C k52 w A0 l0.length l0) (hc0 : l0.length ≤ c0) (hr1 : Kd.C k52 w A1 l1.length l1) (hc1 : l1.length ≤ c1) (h : stowageref14_Same.f k l0 l1 = some r) :
  Calls Tryd.prog 17 #[.slice A0 l0.length c0, .slice A1 l1.length c1] w fun e w' => e = .returned (.bool r) ∧ Below w.heap.size w w' := by
 have hu32 := Tryd.underlying32
 have HR0 := Aside0.mk hr0
 have HC0 := Aside0.mk hc0
 clear hr0 hc0
 have HR1 := Aside0.mk hr1
 have HC1 := Aside0.mk hc1
 clear hr1 hc1
 have HB := Aside0.mk (Below.refl w.heap.size w)
 have H : (if (l0.length : Int) = (l1.length : Int) then (stowageref14_Same.l0 k l0 l1 0) else (some false)) = some r := h
 clear h
 by_cases c3 : (l0.length : Int) = (l1.length : Int)
 ·
  rw [if_pos c3] at H
  have c3b0 : ((l0.length : Int) == (l1.length : Int)) = true := beq_iff_eq.mpr c3
  have c3b1 : ((l0.length : Int) != (l1.length : Int)) = false := bne_eq_false_iff_eq.mpr c3
  have c3b2 : (l0.length == l1.length) = true := by first | simpa using c3 | (simp at c3 ⊢; omega)
  clear c3
  have H' := Aside0.mk H
  clear H
  go_enter Tryd.func17, Tryd.ntmps17
  go_wp2
  go_loopg [5] k (fun kq v5 w' => ∃ (x5_1 : Int), v5 = .int .i64 x5_1 ∧ Aside0 (stowageref14_Same.l0 kq l0 l1 x5_1 = some r) ∧ Aside0 (kq ≤ k) ∧ Aside0 (Below w.heap.size w w'))
  case atStart => exact ⟨(0), (by first | rfl | (simp; done) | (simp [*]; done)), H', ⟨Nat.le_refl _⟩, ⟨bw HB.out⟩⟩
  case round =>
   clear H'
   try clear c1
   try clear p2
   try clear c3
   try clear c3b0
   try clear c3b1
   try clear c3b2
   obtain ⟨x5_1, rfl, HA, HK1, HB⟩ := hrel
   cases gk with
   | zero => exact absurd HA.out (by simp [stowageref14_Same.l0])
   | succ k1 =>
    have H := HA.out
    clear HA
    simp only [stowageref14_Same.l0] at H
    by_cases c4 : x5_1 < (l0.length : Int)
    ·
     rw [if_pos c4] at H
     have c4b0 : decide (x5_1 < (l0.length : Int)) = true := decide_eq_true c4
     clear c4
     by_cases c5 : 0 ≤ x5_1
     ·
      rw [if_pos c5] at H
      have c5b0 : decide (0 ≤ x5_1) = true := decide_eq_true c5
      clear c5
      by_cases c6 : x5_1 < (l1.length : Int)
      ·
       rw [if_pos c6] at H
       have c6b0 : decide (x5_1 < (l1.length : Int)) = true := decide_eq_true c6
       clear c6
       replace H := Option.bind_eq_some_iff.mp H
       obtain ⟨t216, A70, H⟩ := H
       replace H : (if t216 = true then (stowageref14_Same.l0 k1 l0 l1 (wrap64 (x5_1 + 1))) else (some false)) = some r := H
       have A7 := Aside0.mk A70
       clear A70
       by_cases c8 : t216 = true
       ·
        subst c8
        have H1 : (stowageref14_Same.l0 k1 l0 l1 (wrap64 (x5_1 + 1))) = some r := by rw [if_pos rfl] at H; exact H
        clear H
        have H := H1
        clear H1
        have H' := Aside0.mk H
        clear H
        try go_wp2
        replace HB := Aside0.mk (below_drew1 HB.out)
        have p206 : 0 ≤ (x5_1 : Int) := of_decide_eq_true asm
        have q206 : x5_1 < (l0.length : Int) := of_decide_eq_true asm
        obtain ⟨ad206, A206_3, c206_3, e206, hx206_0, hx206_1, hx206_2, hx206_3, hl206_3, hi206_3⟩ := at_T52 HR0.out x5_1 p206 q206
        have hw206_3 := hx206_3
        have hw206_2 := hx206_2
        have hw206_1 := hx206_1
        have hw206_0 := hx206_0
        cases e206
        replace hx206_0 := bc HB.out hx206_0
        replace hx206_1 := bc HB.out hx206_1
        replace hx206_2 := bc HB.out hx206_2
        replace hx206_3 := bc HB.out hx206_3
        have HR206_3 := Aside0.mk hi206_3
        have HC206_3 := Aside0.mk hl206_3
        clear hi206_3 hl206_3
        replace p206 := eq_true p206
        replace q206 := eq_true q206
        have p207 : 0 ≤ (x5_1 : Int) := of_decide_eq_true asm
        have q207 : x5_1 < (l0.length : Int) := of_decide_eq_true asm
        obtain ⟨ad207, A207_3, c207_3, e207, hx207_0, hx207_1, hx207_2, hx207_3, hl207_3, hi207_3⟩ := at_T52 HR0.out x5_1 p207 q207
        have hw207_3 := hx207_3
        have hw207_2 := hx207_2
        have hw207_1 := hx207_1
        have hw207_0 := hx207_0
        obtain rfl : ad206 = ad207 := (by injection e207)
        replace hx207_0 := bc HB.out hx207_0
        replace hx207_1 := bc HB.out hx207_1
        replace hx207_2 := bc HB.out hx207_2
        replace hx207_3 := bc HB.out hx207_3
        have HR207_3 := Aside0.mk hi207_3
        have HC207_3 := Aside0.mk hl207_3
        clear hi207_3 hl207_3
        replace p207 := eq_true p207
        replace q207 := eq_true q207
        have ea_ := Option.some.inj (hx206_3.symm.trans hx207_3)
        injection ea_ with ea_ en_ ec_
        subst ea_
        subst ec_
        clear en_
        have p208 : 0 ≤ (x5_1 : Int) := of_decide_eq_true asm
        have q208 : x5_1 < (l0.length : Int) := of_decide_eq_true asm
        obtain ⟨ad208, A208_3, c208_3, e208, hx208_0, hx208_1, hx208_2, hx208_3, hl208_3, hi208_3⟩ := at_T52 HR0.out x5_1 p208 q208
        have hw208_3 := hx208_3
        have hw208_2 := hx208_2
        have hw208_1 := hx208_1
        have hw208_0 := hx208_0
        obtain rfl : ad206 = ad208 := (by injection e208)
        replace hx208_0 := bc HB.out hx208_0
        replace hx208_1 := bc HB.out hx208_1
        replace hx208_2 := bc HB.out hx208_2
        replace hx208_3 := bc HB.out hx208_3
        have HR208_3 := Aside0.mk hi208_3
        have HC208_3 := Aside0.mk hl208_3
        clear hi208_3 hl208_3
        replace p208 := eq_true p208
        replace q208 := eq_true q208
        have ea_ := Option.some.inj (hx206_3.symm.trans hx208_3)
        injection ea_ with ea_ en_ ec_
        subst ea_
        subst ec_
        clear en_
        have p209 : 0 ≤ (x5_1 : Int) := of_decide_eq_true asm
        have q209 : x5_1 < (l0.length : Int) := of_decide_eq_true asm
        obtain ⟨ad209, A209_3, c209_3, e209, hx209_0, hx209_1, hx209_2, hx209_3, hl209_3, hi209_3⟩ := at_T52 HR0.out x5_1 p209 q209
        have hw209_3 := hx209_3
        have hw209_2 := hx209_2
        have hw209_1 := hx209_1
        have hw209_0 := hx209_0
        obtain rfl : ad206 = ad209 := (by injection e209)
        replace hx209_0 := bc HB.out hx209_0
        replace hx209_1 := bc HB.out hx209_1
        replace hx209_2 := bc HB.out hx209_2
        replace hx209_3 := bc HB.out hx209_3
        have HR209_3 := Aside0.mk hi209_3
        have HC209_3 := Aside0.mk hl209_3
        clear hi209_3 hl209_3
        replace p209 := eq_true p209
        replace q209 := eq_true q209
        have ea_ := Option.some.inj (hx206_3.symm.trans hx209_3)
        injection ea_ with ea_ en_ ec_
        subst ea_
        subst ec_
        clear en_
        refine start_ (n := 23) (S := fun w' => w'.cell? (ad206.add ((x5_1).toNat * 4)) = some (.int .i64 ((rd_T52 l0 x5_1).f0)) ∧ w'.cell? ⟨(ad206.add ((x5_1).toNat * 4)).block, (ad206.add ((x5_1).toNat * 4)).off + 1, none⟩ = some (.int .i64 ((rd_T52 l0 x5_1).f1)) ∧ w'.cell? ⟨(ad206.add ((x5_1).toNat * 4)).block, (ad206.add ((x5_1).toNat * 4)).off + 2, none⟩ = some (.string ((rd_T52 l0 x5_1).f2)) ∧ w'.cell? ⟨(ad206.add ((x5_1).toNat * 4)).block, (ad206.add ((x5_1).toNat * 4)).off + 3, none⟩ = some (.slice A206_3 ((rd_T52 l0 x5_1).f3).length c206_3) ∧ w'.cell? (ad206.add ((x5_1).toNat * 4)) = some (.int .i64 ((rd_T52 l0 x5_1).f0)) ∧ w'.cell? ⟨(ad206.add ((x5_1).toNat * 4)).block, (ad206.add ((x5_1).toNat * 4)).off + 1, none⟩ = some (.int .i64 ((rd_T52 l0 x5_1).f1)) ∧ w'.cell? ⟨(ad206.add ((x5_1).toNat * 4)).block, (ad206.add ((x5_1).toNat * 4)).off + 2, none⟩ = some (.string ((rd_T52 l0 x5_1).f2)) ∧ w'.cell? ⟨(ad206.add ((x5_1).toNat * 4)).block, (ad206.add ((x5_1).toNat * 4)).off + 3, none⟩ = some (.slice A206_3 ((rd_T52 l0 x5_1).f3).length c206_3) ∧ w'.cell? (ad206.add ((x5_1).toNat * 4)) = some (.int .i64 ((rd_T52 l0 x5_1).f0)) ∧ w'.cell? ⟨(ad206.add ((x5_1).toNat * 4)).block, (ad206.add ((x5_1).toNat * 4)).off + 1, none⟩ = some (.int .i64 ((rd_T52 l0 x5_1).f1)) ∧ w'.cell? ⟨(ad206.add ((x5_1).toNat * 4)).block, (ad206.add ((x5_1).toNat * 4)).off + 2, none⟩ = some (.string ((rd_T52 l0 x5_1).f2)) ∧ w'.cell? ⟨(ad206.add ((x5_1).toNat * 4)).block, (ad206.add ((x5_1).toNat * 4)).off + 3, none⟩ = some (.slice A206_3 ((rd_T52 l0 x5_1).f3).length c206_3) ∧ w'.cell? (ad206.add ((x5_1).toNat * 4)) = some (.int .i64 ((rd_T52 l0 x5_1).f0)) ∧ w'.cell? ⟨(ad206.add ((x5_1).toNat * 4)).block, (ad206.add ((x5_1).toNat * 4)).off + 1, none⟩ = some (.int .i64 ((rd_T52 l0 x5_1).f1)) ∧ w'.cell? ⟨(ad206.add ((x5_1).toNat * 4)).block, (ad206.add ((x5_1).toNat * 4)).off + 2, none⟩ = some (.string ((rd_T52 l0 x5_1).f2)) ∧ w'.cell? ⟨(ad206.add ((x5_1).toNat * 4)).block, (ad206.add ((x5_1).toNat * 4)).off + 3, none⟩ = some (.slice A206_3 ((rd_T52 l0 x5_1).f3).length c206_3)) (ds := []) #[false, false, false, false, false, false, false, false, false, false, false, false, false, false, false, false, false, false, false, false, false, false, false] (by kernel_rfl) rfl rfl ⟨(bc HB.out hw206_0), (bc HB.out hw206_1), (bc HB.out hw206_2), (bc HB.out hw206_3), (bc HB.out hw207_0), (bc HB.out hw207_1), (bc HB.out hw207_2), (bc HB.out hw207_3), (bc HB.out hw208_0), (bc HB.out hw208_1), (bc HB.out hw208_2), (bc HB.out hw208_3), (bc HB.out hw209_0), (bc HB.out hw209_1), (bc HB.out hw209_2), (bc HB.out hw209_3)⟩ (fun hHeld => ?_); refine with_tabW stowageref14_Same.tab6 stowageref14_Same.bits6 (fun HT_ HW_ => ?_)
        generalize wr.drew = w9 at HB HR206_3 HR207_3 HR208_3 HR209_3 hx206_0 hx206_1 hx206_2 hx206_3 hx207_0 hx207_1 hx207_2 hx207_3 hx208_0 hx208_1 hx208_2 hx208_3 hx209_0 hx209_1 hx209_2 hx209_3 hHeld ⊢
        refine pu 0 (some 19) HT_.out ?_
        refine pu 1 (some 20) HT_.out ?_
        refine pu 2 (some 21) HT_.out ?_
        refine pu 3 (some 22) HT_.out ?_
        refine pu 5 (some 24) HT_.out ?_
        refine pu 6 (some 25) HT_.out ?_
        refine pu 7 (some 26) HT_.out ?_
        refine pu 8 (some 27) HT_.out ?_
        refine pu 10 (some 29) HT_.out ?_
        refine pu 11 (some 30) HT_.out ?_
        refine pu 12 (some 31) HT_.out ?_
        refine pu 13 (some 32) HT_.out ?_
        refine pu 15 (some 34) HT_.out ?_
        refine pu 16 (some 35) HT_.out ?_
        refine pu 17 (some 36) HT_.out ?_
        refine pu 18 (some 37) HT_.out ?_
        refine tk 4 (some 23) HT_.out HW_.out hHeld ?_
        refine tk 9 (some 28) HT_.out HW_.out hHeld ?_
        refine tk 14 (some 33) HT_.out HW_.out hHeld ?_
        refine tk 19 (some 38) HT_.out HW_.out hHeld ?_
        refine pu 20 (some 39) HT_.out ?_
        refine one_ (i := 21) (N := some 6) #[true, true, true, true, true, true, true, true, true, true, true, true, true, true, true, true, true, true, true, true, true, true, false] rfl rfl (one_of HT_.out (by kernel_rfl)) (by decide) (fun K hK => ?_)
        refine box_step ?hg (N := 6) ?hd (cs := #[.int .i64 0, .bool false, .int .i64 0, .string (⟨#[]⟩ : ByteArray), .slice none 0 0]) (t := 32) ?hr ?_; (case hd => rfl); (case hg => rfl); (case hr => first | (go_simp; done) | (go_simp; rfl))
        intro gb210 hg w10 hbox hb
        have n0_ := Aside0.mk (below_step (bw HB.out) hb)
        have n1_ := Aside0.mk (hbox)
        have n2_ := Aside0.mk ((by rw [hg]; exact (below_size (bw HB.out)) : w.heap.size ≤ gb210))
        have n3_ := Aside0.mk ((by rw [hg]; exact (below_size (bw HB.out)) : w.heap.size ≤ gb210))
        clear HB
        have HB := n0_
        have BK210 := n1_
        have GW210 := n2_
        have GE210 := n3_
        clear n0_ n1_ n2_ n3_
        clear hb hbox hg
        refine hK.out _ _ ⟨(bc HB.out hw206_0), (bc HB.out hw206_1), (bc HB.out hw206_2), (bc HB.out hw206_3), (bc HB.out hw207_0), (bc HB.out hw207_1), (bc HB.out hw207_2), (bc HB.out hw207_3), (bc HB.out hw208_0), (bc HB.out hw208_1), (bc HB.out hw208_2), (bc HB.out hw208_3), (bc HB.out hw209_0), (bc HB.out hw209_1), (bc HB.out hw209_2), (bc HB.out hw209_3)⟩ (fun hHeld => ?_)
        clear hK K
        refine norm_ (a' := ?_) ?_ ?_
        rotate_left
        ·
         show Act.put _ (some 6) _ = _
         simp only [Act.put, List.setIfInBounds_toArray, List.set_cons_zero, List.set_cons_succ, i64_w, i32_w]
         rfl
        refine one_ (i := 22) (N := none) #[true, true, true, true, true, true, true, true, true, true, true, true, true, true, true, true, true, true, true, true, true, true, true] rfl rfl (one_of HT_.out (by kernel_rfl)) (by decide) (fun K hK => ?_)
        have hs11 : w10.cell? ⟨gb210, 0, none⟩ = some (.int .i64 0) := (blk_cell BK210.out 0).trans rfl
        have hfs11 := blk_frozen BK210.out 0
        have hs12 : w10.cell? ⟨gb210, 1, none⟩ = some (.bool false) := (blk_cell BK210.out 1).trans rfl
        have hfs12 := blk_frozen BK210.out 1
        have hs13 : w10.cell? ⟨gb210, 2, none⟩ = some (.int .i64 0) := (blk_cell BK210.out 2).trans rfl
        have hfs13 := blk_frozen BK210.out 2
        have hs14 : w10.cell? ⟨gb210, 3, none⟩ = some (.string (⟨#[]⟩ : ByteArray)) := (blk_cell BK210.out 3).trans rfl
        have hfs14 := blk_frozen BK210.out 3
        have hs15 : w10.cell? ⟨gb210, 4, none⟩ = some (.slice none 0 0) := (blk_cell BK210.out 4).trans rfl
        have hfs15 := blk_frozen BK210.out 4
        refine skip_ (w1 := ?_) (by rfl) rfl ?_ ?_
        rotate_left
        ·
         go_simp
         rfl
        refine hK.out _ _ ⟨((cell_far (p := ⟨gb210, _, none⟩) (nf hw206_0 GW210.out) _).trans (((cell_far (p := ⟨gb210, _, none⟩) (nf hw206_0 GW210.out) _).trans (((cell_far (p := ⟨gb210, _, none⟩) (nf hw206_0 GW210.out) _).trans (((cell_far (p := ⟨gb210, _, none⟩) (nf hw206_0 GW210.out) _).trans (((cell_far (p := ⟨gb210, _, none⟩) (nf hw206_0 GW210.out) _).trans (hHeld.1)))))))))), ((cell_far (p := ⟨gb210, _, none⟩) (nf hw206_1 GW210.out) _).trans (((cell_far (p := ⟨gb210, _, none⟩) (nf hw206_1 GW210.out) _).trans (((cell_far (p := ⟨gb210, _, none⟩) (nf hw206_1 GW210.out) _).trans (((cell_far (p := ⟨gb210, _, none⟩) (nf hw206_1 GW210.out) _).trans (((cell_far (p := ⟨gb210, _, none⟩) (nf hw206_1 GW210.out) _).trans (hHeld.2.1)))))))))), ((cell_far (p := ⟨gb210, _, none⟩) (nf hw206_2 GW210.out) _).trans (((cell_far (p := ⟨gb210, _, none⟩) (nf hw206_2 GW210.out) _).trans (((cell_far (p := ⟨gb210, _, none⟩) (nf hw206_2 GW210.out) _).trans (((cell_far (p := ⟨gb210, _, none⟩) (nf hw206_2 GW210.out) _).trans (((cell_far (p := ⟨gb210, _, none⟩) (nf hw206_2 GW210.out) _).trans (hHeld.2.2.1)))))))))), ((cell_far (p := ⟨gb210, _, none⟩) (nf hw206_3 GW210.out) _).trans (((cell_far (p := ⟨gb210, _, none⟩) (nf hw206_3 GW210.out) _).trans (((cell_far (p := ⟨gb210, _, none⟩) (nf hw206_3 GW210.out) _).trans (((cell_far (p := ⟨gb210, _, none⟩) (nf hw206_3 GW210.out) _).trans (((cell_far (p := ⟨gb210, _, none⟩) (nf hw206_3 GW210.out) _).trans (hHeld.2.2.2.1)))))))))), ((cell_far (p := ⟨gb210, _, none⟩) (nf hw207_0 GW210.out) _).trans (((cell_far (p := ⟨gb210, _, none⟩) (nf hw207_0 GW210.out) _).trans (((cell_far (p := ⟨gb210, _, none⟩) (nf hw207_0 GW210.out) _).trans (((cell_far (p := ⟨gb210, _, none⟩) (nf hw207_0 GW210.out) _).trans (((cell_far (p := ⟨gb210, _, none⟩) (nf hw207_0 GW210.out) _).trans (hHeld.2.2.2.2.1)))))))))), ((cell_far (p := ⟨gb210, _, none⟩) (nf hw207_1 GW210.out) _).trans (((cell_far (p := ⟨gb210, _, none⟩) (nf hw207_1 GW210.out) _).trans (((cell_far (p := ⟨gb210, _, none⟩) (nf hw207_1 GW210.out) _).trans (((cell_far (p := ⟨gb210, _, none⟩) (nf hw207_1 GW210.out) _).trans (((cell_far (p := ⟨gb210, _, none⟩) (nf hw207_1 GW210.out) _).trans (hHeld.2.2.2.2.2.1)))))))))), ((cell_far (p := ⟨gb210, _, none⟩) (nf hw207_2 GW210.out) _).trans (((cell_far (p := ⟨gb210, _, none⟩) (nf hw207_2 GW210.out) _).trans (((cell_far (p := ⟨gb210, _, none⟩) (nf hw207_2 GW210.out) _).trans (((cell_far (p := ⟨gb210, _, none⟩) (nf hw207_2 GW210.out) _).trans (((cell_far (p := ⟨gb210, _, none⟩) (nf hw207_2 GW210.out) _).trans (hHeld.2.2.2.2.2.2.1)))))))))), ((cell_far (p := ⟨gb210, _, none⟩) (nf hw207_3 GW210.out) _).trans (((cell_far (p := ⟨gb210, _, none⟩) (nf hw207_3 GW210.out) _).trans (((cell_far (p := ⟨gb210, _, none⟩) (nf hw207_3 GW210.out) _).trans (((cell_far (p := ⟨gb210, _, none⟩) (nf hw207_3 GW210.out) _).trans (((cell_far (p := ⟨gb210, _, none⟩) (nf hw207_3 GW210.out) _).trans (hHeld.2.2.2.2.2.2.2.1)))))))))), ((cell_far (p := ⟨gb210, _, none⟩) (nf hw208_0 GW210.out) _).trans (((cell_far (p := ⟨gb210, _, none⟩) (nf hw208_0 GW210.out) _).trans (((cell_far (p := ⟨gb210, _, none⟩) (nf hw208_0 GW210.out) _).trans (((cell_far (p := ⟨gb210, _, none⟩) (nf hw208_0 GW210.out) _).trans (((cell_far (p := ⟨gb210, _, none⟩) (nf hw208_0 GW210.out) _).trans (hHeld.2.2.2.2.2.2.2.2.1)))))))))), ((cell_far (p := ⟨gb210, _, none⟩) (nf hw208_1 GW210.out) _).trans (((cell_far (p := ⟨gb210, _, none⟩) (nf hw208_1 GW210.out) _).trans (((cell_far (p := ⟨gb210, _, none⟩) (nf hw208_1 GW210.out) _).trans (((cell_far (p := ⟨gb210, _, none⟩) (nf hw208_1 GW210.out) _).trans (((cell_far (p := ⟨gb210, _, none⟩) (nf hw208_1 GW210.out) _).trans (hHeld.2.2.2.2.2.2.2.2.2.1)))))))))), ((cell_far (p := ⟨gb210, _, none⟩) (nf hw208_2 GW210.out) _).trans (((cell_far (p := ⟨gb210, _, none⟩) (nf hw208_2 GW210.out) _).trans (((cell_far (p := ⟨gb210, _, none⟩) (nf hw208_2 GW210.out) _).trans (((cell_far (p := ⟨gb210, _, none⟩) (nf hw208_2 GW210.out) _).trans (((cell_far (p := ⟨gb210, _, none⟩) (nf hw208_2 GW210.out) _).trans (hHeld.2.2.2.2.2.2.2.2.2.2.1)))))))))), ((cell_far (p := ⟨gb210, _, none⟩) (nf hw208_3 GW210.out) _).trans (((cell_far (p := ⟨gb210, _, none⟩) (nf hw208_3 GW210.out) _).trans (((cell_far (p := ⟨gb210, _, none⟩) (nf hw208_3 GW210.out) _).trans (((cell_far (p := ⟨gb210, _, none⟩) (nf hw208_3 GW210.out) _).trans (((cell_far (p := ⟨gb210, _, none⟩) (nf hw208_3 GW210.out) _).trans (hHeld.2.2.2.2.2.2.2.2.2.2.2.1)))))))))), ((cell_far (p := ⟨gb210, _, none⟩) (nf hw209_0 GW210.out) _).trans (((cell_far (p := ⟨gb210, _, none⟩) (nf hw209_0 GW210.out) _).trans (((cell_far (p := ⟨gb210, _, none⟩) (nf hw209_0 GW210.out) _).trans (((cell_far (p := ⟨gb210, _, none⟩) (nf hw209_0 GW210.out) _).trans (((cell_far (p := ⟨gb210, _, none⟩) (nf hw209_0 GW210.out) _).trans (hHeld.2.2.2.2.2.2.2.2.2.2.2.2.1)))))))))), ((cell_far (p := ⟨gb210, _, none⟩) (nf hw209_1 GW210.out) _).trans (((cell_far (p := ⟨gb210, _, none⟩) (nf hw209_1 GW210.out) _).trans (((cell_far (p := ⟨gb210, _, none⟩) (nf hw209_1 GW210.out) _).trans (((cell_far (p := ⟨gb210, _, none⟩) (nf hw209_1 GW210.out) _).trans (((cell_far (p := ⟨gb210, _, none⟩) (nf hw209_1 GW210.out) _).trans (hHeld.2.2.2.2.2.2.2.2.2.2.2.2.2.1)))))))))), ((cell_far (p := ⟨gb210, _, none⟩) (nf hw209_2 GW210.out) _).trans (((cell_far (p := ⟨gb210, _, none⟩) (nf hw209_2 GW210.out) _).trans (((cell_far (p := ⟨gb210, _, none⟩) (nf hw209_2 GW210.out) _).trans (((cell_far (p := ⟨gb210, _, none⟩) (nf hw209_2 GW210.out) _).trans (((cell_far (p := ⟨gb210, _, none⟩) (nf hw209_2 GW210.out) _).trans (hHeld.2.2.2.2.2.2.2.2.2.2.2.2.2.2.1)))))))))), ((cell_far (p := ⟨gb210, _, none⟩) (nf hw209_3 GW210.out) _).trans (((cell_far (p := ⟨gb210, _, none⟩) (nf hw209_3 GW210.out) _).trans (((cell_far (p := ⟨gb210, _, none⟩) (nf hw209_3 GW210.out) _).trans (((cell_far (p := ⟨gb210, _, none⟩) (nf hw209_3 GW210.out) _).trans (((cell_far (p := ⟨gb210, _, none⟩) (nf hw209_3 GW210.out) _).trans (hHeld.2.2.2.2.2.2.2.2.2.2.2.2.2.2.2))))))))))⟩ (fun hHeld => ?_)
        clear hK K
        refine done_ (done_of HT_.out (by kernel_rfl)) ?_
        try go_wp2
        have n0_ : Aside0 ((((((w10.setCell ⟨gb210, 0, none⟩ (.int .i64 ((rd_T52 l0 x5_1).f0))).setCell ⟨gb210, 1, none⟩ (.bool false)).setCell ⟨gb210, 2, none⟩ (.int .i64 ((rd_T52 l0 x5_1).f1))).setCell ⟨gb210, 3, none⟩ (.string ((rd_T52 l0 x5_1).f2))).setCell ⟨gb210, 4, none⟩ (.slice A206_3 ((rd_T52 l0 x5_1).f3).length c206_3)).heap[gb210]? = some (.cells #[.int .i64 ((rd_T52 l0 x5_1).f0), .bool false, .int .i64 ((rd_T52 l0 x5_1).f1), .string ((rd_T52 l0 x5_1).f2), .slice A206_3 ((rd_T52 l0 x5_1).f3).length c206_3] 32 (0, 0))) := ⟨bkp BK210.out⟩
        have n1_ : Aside0 (Below w.heap.size w (((((w10.setCell ⟨gb210, 0, none⟩ (.int .i64 ((rd_T52 l0 x5_1).f0))).setCell ⟨gb210, 1, none⟩ (.bool false)).setCell ⟨gb210, 2, none⟩ (.int .i64 ((rd_T52 l0 x5_1).f1))).setCell ⟨gb210, 3, none⟩ (.string ((rd_T52 l0 x5_1).f2))).setCell ⟨gb210, 4, none⟩ (.slice A206_3 ((rd_T52 l0 x5_1).f3).length c206_3))) := ⟨bws HB.out⟩
        (try clear BK210)
        (try clear HB)
        generalize (((((w10.setCell ⟨gb210, 0, none⟩ (.int .i64 ((rd_T52 l0 x5_1).f0))).setCell ⟨gb210, 1, none⟩ (.bool false)).setCell ⟨gb210, 2, none⟩ (.int .i64 ((rd_T52 l0 x5_1).f1))).setCell ⟨gb210, 3, none⟩ (.string ((rd_T52 l0 x5_1).f2))).setCell ⟨gb210, 4, none⟩ (.slice A206_3 ((rd_T52 l0 x5_1).f3).length c206_3)) = w16 at n0_ n1_ ⊢
        have BK210 := n0_
        have HB := n1_
        clear n0_ n1_
        replace BK210 := Aside0.mk (blk_drew BK210.out)
        replace HB := Aside0.mk (below_drew1 HB.out)
        have p211 : 0 ≤ (x5_1 : Int) := of_decide_eq_true asm
        have q211 : x5_1 < (l1.length : Int) := of_decide_eq_true asm
        obtain ⟨ad211, A211_3, c211_3, e211, hx211_0, hx211_1, hx211_2, hx211_3, hl211_3, hi211_3⟩ := at_T52 HR1.out x5_1 p211 q211
        have hw211_3 := hx211_3
        have hw211_2 := hx211_2
        have hw211_1 := hx211_1
        have hw211_0 := hx211_0
        cases e211
        replace hx211_0 := bc HB.out hx211_0
        replace hx211_1 := bc HB.out hx211_1
        replace hx211_2 := bc HB.out hx211_2
        replace hx211_3 := bc HB.out hx211_3
        have HR211_3 := Aside0.mk hi211_3
        have HC211_3 := Aside0.mk hl211_3
        clear hi211_3 hl211_3
        replace p211 := eq_true p211
        replace q211 := eq_true q211
        have p212 : 0 ≤ (x5_1 : Int) := of_decide_eq_true asm
        have q212 : x5_1 < (l1.length : Int) := of_decide_eq_true asm
        obtain ⟨ad212, A212_3, c212_3, e212, hx212_0, hx212_1, hx212_2, hx212_3, hl212_3, hi212_3⟩ := at_T52 HR1.out x5_1 p212 q212
        have hw212_3 := hx212_3
        have hw212_2 := hx212_2
        have hw212_1 := hx212_1
        have hw212_0 := hx212_0
        obtain rfl : ad211 = ad212 := (by injection e212)
        replace hx212_0 := bc HB.out hx212_0
        replace hx212_1 := bc HB.out hx212_1
        replace hx212_2 := bc HB.out hx212_2
        replace hx212_3 := bc HB.out hx212_3
        have HR212_3 := Aside0.mk hi212_3
        have HC212_3 := Aside0.mk hl212_3
        clear hi212_3 hl212_3
        replace p212 := eq_true p212
        replace q212 := eq_true q212
        have ea_ := Option.some.inj (hx211_3.symm.trans hx212_3)
        injection ea_ with ea_ en_ ec_
        subst ea_
        subst ec_
        clear en_
        have p213 : 0 ≤ (x5_1 : Int) := of_decide_eq_true asm
        have q213 : x5_1 < (l1.length : Int) := of_decide_eq_true asm
        obtain ⟨ad213, A213_3, c213_3, e213, hx213_0, hx213_1, hx213_2, hx213_3, hl213_3, hi213_3⟩ := at_T52 HR1.out x5_1 p213 q213
        have hw213_3 := hx213_3
        have hw213_2 := hx213_2
        have hw213_1 := hx213_1
        have hw213_0 := hx213_0
        obtain rfl : ad211 = ad213 := (by injection e213)
        replace hx213_0 := bc HB.out hx213_0
        replace hx213_1 := bc HB.out hx213_1
        replace hx213_2 := bc HB.out hx213_2
        replace hx213_3 := bc HB.out hx213_3
        have HR213_3 := Aside0.mk hi213_3
        have HC213_3 := Aside0.mk hl213_3
        clear hi213_3 hl213_3
        replace p213 := eq_true p213
        replace q213 := eq_true q213
        have ea_ := Option.some.inj (hx211_3.symm.trans hx213_3)
        injection ea_ with ea_ en_ ec_
        subst ea_
        subst ec_
        clear en_
        have p214 : 0 ≤ (x5_1 : Int) := of_decide_eq_true asm
        have q214 : x5_1 < (l1.length : Int) := of_decide_eq_true asm
        obtain ⟨ad214, A214_3, c214_3, e214, hx214_0, hx214_1, hx214_2, hx214_3, hl214_3, hi214_3⟩ := at_T52 HR1.out x5_1 p214 q214
        have hw214_3 := hx214_3
        have hw214_2 := hx214_2
        have hw214_1 := hx214_1
        have hw214_0 := hx214_0
        obtain rfl : ad211 = ad214 := (by injection e214)
        replace hx214_0 := bc HB.out hx214_0
        replace hx214_1 := bc HB.out hx214_1
        replace hx214_2 := bc HB.out hx214_2
        replace hx214_3 := bc HB.out hx214_3
        have HR214_3 := Aside0.mk hi214_3
        have HC214_3 := Aside0.mk hl214_3
        clear hi214_3 hl214_3
        replace p214 := eq_true p214
        replace q214 := eq_true q214
        have ea_ := Option.some.inj (hx211_3.symm.trans hx214_3)
        injection ea_ with ea_ en_ ec_
        subst ea_
        subst ec_
        clear en_
        refine start_ (n := 23) (S := fun w' => w'.cell? (ad211.add ((x5_1).toNat * 4)) = some (.int .i64 ((rd_T52 l1 x5_1).f0)) ∧ w'.cell? ⟨(ad211.add ((x5_1).toNat * 4)).block, (ad211.add ((x5_1).toNat * 4)).off + 1, none⟩ = some (.int .i64 ((rd_T52 l1 x5_1).f1)) ∧ w'.cell? ⟨(ad211.add ((x5_1).toNat * 4)).block, (ad211.add ((x5_1).toNat * 4)).off + 2, none⟩ = some (.string ((rd_T52 l1 x5_1).f2)) ∧ w'.cell? ⟨(ad211.add ((x5_1).toNat * 4)).block, (ad211.add ((x5_1).toNat * 4)).off + 3, none⟩ = some (.slice A211_3 ((rd_T52 l1 x5_1).f3).length c211_3) ∧ w'.cell? (ad211.add ((x5_1).toNat * 4)) = some (.int .i64 ((rd_T52 l1 x5_1).f0)) ∧ w'.cell? ⟨(ad211.add ((x5_1).toNat * 4)).block, (ad211.add ((x5_1).toNat * 4)).off + 1, none⟩ = some (.int .i64 ((rd_T52 l1 x5_1).f1)) ∧ w'.cell? ⟨(ad211.add ((x5_1).toNat * 4)).block, (ad211.add ((x5_1).toNat * 4)).off + 2, none⟩ = some (.string ((rd_T52 l1 x5_1).f2)) ∧ w'.cell? ⟨(ad211.add ((x5_1).toNat * 4)).block, (ad211.add ((x5_1).toNat * 4)).off + 3, none⟩ = some (.slice A211_3 ((rd_T52 l1 x5_1).f3).length c211_3) ∧ w'.cell? (ad211.add ((x5_1).toNat * 4)) = some (.int .i64 ((rd_T52 l1 x5_1).f0)) ∧ w'.cell? ⟨(ad211.add ((x5_1).toNat * 4)).block, (ad211.add ((x5_1).toNat * 4)).off + 1, none⟩ = some (.int .i64 ((rd_T52 l1 x5_1).f1)) ∧ w'.cell? ⟨(ad211.add ((x5_1).toNat * 4)).block, (ad211.add ((x5_1).toNat * 4)).off + 2, none⟩ = some (.string ((rd_T52 l1 x5_1).f2)) ∧ w'.cell? ⟨(ad211.add ((x5_1).toNat * 4)).block, (ad211.add ((x5_1).toNat * 4)).off + 3, none⟩ = some (.slice A211_3 ((rd_T52 l1 x5_1).f3).length c211_3) ∧ w'.cell? (ad211.add ((x5_1).toNat * 4)) = some (.int .i64 ((rd_T52 l1 x5_1).f0)) ∧ w'.cell? ⟨(ad211.add ((x5_1).toNat * 4)).block, (ad211.add ((x5_1).toNat * 4)).off + 1, none⟩ = some (.int .i64 ((rd_T52 l1 x5_1).f1)) ∧ w'.cell? ⟨(ad211.add ((x5_1).toNat * 4)).block, (ad211.add ((x5_1).toNat * 4)).off + 2, none⟩ = some (.string ((rd_T52 l1 x5_1).f2)) ∧ w'.cell? ⟨(ad211.add ((x5_1).toNat * 4)).block, (ad211.add ((x5_1).toNat * 4)).off + 3, none⟩ = some (.slice A211_3 ((rd_T52 l1 x5_1).f3).length c211_3)) (ds := []) #[false, false, false, false, false, false, false, false, false, false, false, false, false, false, false, false, false, false, false, false, false, false, false] (by kernel_rfl) rfl rfl ⟨(bc HB.out hw211_0), (bc HB.out hw211_1), (bc HB.out hw211_2), (bc HB.out hw211_3), (bc HB.out hw212_0), (bc HB.out hw212_1), (bc HB.out hw212_2), (bc HB.out hw212_3), (bc HB.out hw213_0), (bc HB.out hw213_1), (bc HB.out hw213_2), (bc HB.out hw213_3), (bc HB.out hw214_0), (bc HB.out hw214_1), (bc HB.out hw214_2), (bc HB.out hw214_3)⟩ (fun hHeld => ?_); refine with_tabW stowageref14_Same.tab7 stowageref14_Same.bits7 (fun HT_ HW_ => ?_)
        generalize w16.drew = w17 at BK210 HB HR211_3 HR212_3 HR213_3 HR214_3 hx211_0 hx211_1 hx211_2 hx211_3 hx212_0 hx212_1 hx212_2 hx212_3 hx213_0 hx213_1 hx213_2 hx213_3 hx214_0 hx214_1 hx214_2 hx214_3 hHeld ⊢
        refine pu 0 (some 40) HT_.out ?_
        refine pu 1 (some 41) HT_.out ?_
        refine pu 2 (some 42) HT_.out ?_
        refine pu 3 (some 43) HT_.out ?_
        refine pu 5 (some 45) HT_.out ?_
        refine pu 6 (some 46) HT_.out ?_
        refine pu 7 (some 47) HT_.out ?_
        refine pu 8 (some 48) HT_.out ?_
        refine pu 10 (some 50) HT_.out ?_
        refine pu 11 (some 51) HT_.out ?_
        refine pu 12 (some 52) HT_.out ?_
        refine pu 13 (some 53) HT_.out ?_
        refine pu 15 (some 55) HT_.out ?_
        refine pu 16 (some 56) HT_.out ?_
        refine pu 17 (some 57) HT_.out ?_
        refine pu 18 (some 58) HT_.out ?_
        refine tk 4 (some 44) HT_.out HW_.out hHeld ?_
        refine tk 9 (some 49) HT_.out HW_.out hHeld ?_
        refine tk 14 (some 54) HT_.out HW_.out hHeld ?_
        refine tk 19 (some 59) HT_.out HW_.out hHeld ?_
        refine pu 20 (some 60) HT_.out ?_
        refine one_ (i := 21) (N := some 7) #[true, true, true, true, true, true, true, true, true, true, true, true, true, true, true, true, true, true, true, true, true, true, false] rfl rfl (one_of HT_.out (by kernel_rfl)) (by decide) (fun K hK => ?_)
        refine box_step ?hg (N := 7) ?hd (cs := #[.int .i64 0, .bool false, .int .i64 0, .string (⟨#[]⟩ : ByteArray), .slice none 0 0]) (t := 32) ?hr ?_; (case hd => rfl); (case hg => rfl); (case hr => first | (go_simp; done) | (go_simp; rfl))
        intro gb215 hg w18 hbox hb
        have n0_ := Aside0.mk (blk_below (g := gb210) (o := .cells #[.int .i64 ((rd_T52 l0 x5_1).f0), .bool false, .int .i64 ((rd_T52 l0 x5_1).f1), .string ((rd_T52 l0 x5_1).f2), .slice A206_3 ((rd_T52 l0 x5_1).f3).length c206_3] 32 (0, 0)) (bk BK210.out) hb)
        have n1_ := Aside0.mk (below_step (bws HB.out) hb)
        have n2_ := Aside0.mk (hbox)
        have n3_ := Aside0.mk ((by rw [hg]; exact (below_size (bws HB.out)) : w.heap.size ≤ gb215))
        have n4_ := Aside0.mk ((by rw [hg]; exact (below_size (bws HB.out)) : w.heap.size ≤ gb215))
        have n5_ := Aside0.mk ((by rw [hg]; exact Nat.ne_of_lt (blk_lt (g := gb210) (o := .cells #[.int .i64 ((rd_T52 l0 x5_1).f0), .bool false, .int .i64 ((rd_T52 l0 x5_1).f1), .string ((rd_T52 l0 x5_1).f2), .slice A206_3 ((rd_T52 l0 x5_1).f3).length c206_3] 32 (0, 0)) (bk BK210.out)) : gb210 ≠ gb215))
        have n6_ := Aside0.mk ((by rw [hg]; exact Nat.ne_of_gt (blk_lt (g := gb210) (o := .cells #[.int .i64 ((rd_T52 l0 x5_1).f0), .bool false, .int .i64 ((rd_T52 l0 x5_1).f1), .string ((rd_T52 l0 x5_1).f2), .slice A206_3 ((rd_T52 l0 x5_1).f3).length c206_3] 32 (0, 0)) (bk BK210.out)) : gb215 ≠ gb210))
        clear BK210
        clear HB
        have BK210 := n0_
        have HB := n1_
        have BK215 := n2_
        have GW215 := n3_
        have GE215 := n4_
        have NB210_215 := n5_
        have NB215_210 := n6_
        clear n0_ n1_ n2_ n3_ n4_ n5_ n6_
        clear hb hbox hg
        refine hK.out _ _ ⟨(bc HB.out hw211_0), (bc HB.out hw211_1), (bc HB.out hw211_2), (bc HB.out hw211_3), (bc HB.out hw212_0), (bc HB.out hw212_1), (bc HB.out hw212_2), (bc HB.out hw212_3), (bc HB.out hw213_0), (bc HB.out hw213_1), (bc HB.out hw213_2), (bc HB.out hw213_3), (bc HB.out hw214_0), (bc HB.out hw214_1), (bc HB.out hw214_2), (bc HB.out hw214_3)⟩ (fun hHeld => ?_)
        clear hK K
        refine norm_ (a' := ?_) ?_ ?_
        rotate_left
        ·
         show Act.put _ (some 7) _ = _
         simp only [Act.put, List.setIfInBounds_toArray, List.set_cons_zero, List.set_cons_succ, i64_w, i32_w]
         rfl
        refine one_ (i := 22) (N := none) #[true, true, true, true, true, true, true, true, true, true, true, true, true, true, true, true, true, true, true, true, true, true, true] rfl rfl (one_of HT_.out (by kernel_rfl)) (by decide) (fun K hK => ?_)
        have hs19 : w18.cell? ⟨gb215, 0, none⟩ = some (.int .i64 0) := (blk_cell BK215.out 0).trans rfl
        have hfs19 := blk_frozen BK215.out 0
        have hns19_0 := NB210_215.out
        have hms19_0 := NB215_210.out
        have hs20 : w18.cell? ⟨gb215, 1, none⟩ = some (.bool false) := (blk_cell BK215.out 1).trans rfl
        have hfs20 := blk_frozen BK215.out 1
        have hns20_0 := NB210_215.out
        have hms20_0 := NB215_210.out
        have hs21 : w18.cell? ⟨gb215, 2, none⟩ = some (.int .i64 0) := (blk_cell BK215.out 2).trans rfl
        have hfs21 := blk_frozen BK215.out 2
        have hns21_0 := NB210_215.out
        have hms21_0 := NB215_210.out
        have hs22 : w18.cell? ⟨gb215, 3, none⟩ = some (.string (⟨#[]⟩ : ByteArray)) := (blk_cell BK215.out 3).trans rfl
        have hfs22 := blk_frozen BK215.out 3
        have hns22_0 := NB210_215.out
        have hms22_0 := NB215_210.out
        have hs23 : w18.cell? ⟨gb215, 4, none⟩ = some (.slice none 0 0) := (blk_cell BK215.out 4).trans rfl
        have hfs23 := blk_frozen BK215.out 4
        have hns23_0 := NB210_215.out
        have hms23_0 := NB215_210.out
        refine skip_ (w1 := ?_) (by rfl) rfl ?_ ?_
        rotate_left
        ·
         go_simp
         rfl
        refine hK.out _ _ ⟨((cell_far (p := ⟨gb215, _, none⟩) (nf hw211_0 GW215.out) _).trans (((cell_far (p := ⟨gb215, _, none⟩) (nf hw211_0 GW215.out) _).trans (((cell_far (p := ⟨gb215, _, none⟩) (nf hw211_0 GW215.out) _).trans (((cell_far (p := ⟨gb215, _, none⟩) (nf hw211_0 GW215.out) _).trans (((cell_far (p := ⟨gb215, _, none⟩) (nf hw211_0 GW215.out) _).trans (hHeld.1)))))))))), ((cell_far (p := ⟨gb215, _, none⟩) (nf hw211_1 GW215.out) _).trans (((cell_far (p := ⟨gb215, _, none⟩) (nf hw211_1 GW215.out) _).trans (((cell_far (p := ⟨gb215, _, none⟩) (nf hw211_1 GW215.out) _).trans (((cell_far (p := ⟨gb215, _, none⟩) (nf hw211_1 GW215.out) _).trans (((cell_far (p := ⟨gb215, _, none⟩) (nf hw211_1 GW215.out) _).trans (hHeld.2.1)))))))))), ((cell_far (p := ⟨gb215, _, none⟩) (nf hw211_2 GW215.out) _).trans (((cell_far (p := ⟨gb215, _, none⟩) (nf hw211_2 GW215.out) _).trans (((cell_far (p := ⟨gb215, _, none⟩) (nf hw211_2 GW215.out) _).trans (((cell_far (p := ⟨gb215, _, none⟩) (nf hw211_2 GW215.out) _).trans (((cell_far (p := ⟨gb215, _, none⟩) (nf hw211_2 GW215.out) _).trans (hHeld.2.2.1)))))))))), ((cell_far (p := ⟨gb215, _, none⟩) (nf hw211_3 GW215.out) _).trans (((cell_far (p := ⟨gb215, _, none⟩) (nf hw211_3 GW215.out) _).trans (((cell_far (p := ⟨gb215, _, none⟩) (nf hw211_3 GW215.out) _).trans (((cell_far (p := ⟨gb215, _, none⟩) (nf hw211_3 GW215.out) _).trans (((cell_far (p := ⟨gb215, _, none⟩) (nf hw211_3 GW215.out) _).trans (hHeld.2.2.2.1)))))))))), ((cell_far (p := ⟨gb215, _, none⟩) (nf hw212_0 GW215.out) _).trans (((cell_far (p := ⟨gb215, _, none⟩) (nf hw212_0 GW215.out) _).trans (((cell_far (p := ⟨gb215, _, none⟩) (nf hw212_0 GW215.out) _).trans (((cell_far (p := ⟨gb215, _, none⟩) (nf hw212_0 GW215.out) _).trans (((cell_far (p := ⟨gb215, _, none⟩) (nf hw212_0 GW215.out) _).trans (hHeld.2.2.2.2.1)))))))))), ((cell_far (p := ⟨gb215, _, none⟩) (nf hw212_1 GW215.out) _).trans (((cell_far (p := ⟨gb215, _, none⟩) (nf hw212_1 GW215.out) _).trans (((cell_far (p := ⟨gb215, _, none⟩) (nf hw212_1 GW215.out) _).trans (((cell_far (p := ⟨gb215, _, none⟩) (nf hw212_1 GW215.out) _).trans (((cell_far (p := ⟨gb215, _, none⟩) (nf hw212_1 GW215.out) _).trans (hHeld.2.2.2.2.2.1)))))))))), ((cell_far (p := ⟨gb215, _, none⟩) (nf hw212_2 GW215.out) _).trans (((cell_far (p := ⟨gb215, _, none⟩) (nf hw212_2 GW215.out) _).trans (((cell_far (p := ⟨gb215, _, none⟩) (nf hw212_2 GW215.out) _).trans (((cell_far (p := ⟨gb215, _, none⟩) (nf hw212_2 GW215.out) _).trans (((cell_far (p := ⟨gb215, _, none⟩) (nf hw212_2 GW215.out) _).trans (hHeld.2.2.2.2.2.2.1)))))))))), ((cell_far (p := ⟨gb215, _, none⟩) (nf hw212_3 GW215.out) _).trans (((cell_far (p := ⟨gb215, _, none⟩) (nf hw212_3 GW215.out) _).trans (((cell_far (p := ⟨gb215, _, none⟩) (nf hw212_3 GW215.out) _).trans (((cell_far (p := ⟨gb215, _, none⟩) (nf hw212_3 GW215.out) _).trans (((cell_far (p := ⟨gb215, _, none⟩) (nf hw212_3 GW215.out) _).trans (hHeld.2.2.2.2.2.2.2.1)))))))))), ((cell_far (p := ⟨gb215, _, none⟩) (nf hw213_0 GW215.out) _).trans (((cell_far (p := ⟨gb215, _, none⟩) (nf hw213_0 GW215.out) _).trans (((cell_far (p := ⟨gb215, _, none⟩) (nf hw213_0 GW215.out) _).trans (((cell_far (p := ⟨gb215, _, none⟩) (nf hw213_0 GW215.out) _).trans (((cell_far (p := ⟨gb215, _, none⟩) (nf hw213_0 GW215.out) _).trans (hHeld.2.2.2.2.2.2.2.2.1)))))))))), ((cell_far (p := ⟨gb215, _, none⟩) (nf hw213_1 GW215.out) _).trans (((cell_far (p := ⟨gb215, _, none⟩) (nf hw213_1 GW215.out) _).trans (((cell_far (p := ⟨gb215, _, none⟩) (nf hw213_1 GW215.out) _).trans (((cell_far (p := ⟨gb215, _, none⟩) (nf hw213_1 GW215.out) _).trans (((cell_far (p := ⟨gb215, _, none⟩) (nf hw213_1 GW215.out) _).trans (hHeld.2.2.2.2.2.2.2.2.2.1)))))))))), ((cell_far (p := ⟨gb215, _, none⟩) (nf hw213_2 GW215.out) _).trans (((cell_far (p := ⟨gb215, _, none⟩) (nf hw213_2 GW215.out) _).trans (((cell_far (p := ⟨gb215, _, none⟩) (nf hw213_2 GW215.out) _).trans (((cell_far (p := ⟨gb215, _, none⟩) (nf hw213_2 GW215.out) _).trans (((cell_far (p := ⟨gb215, _, none⟩) (nf hw213_2 GW215.out) _).trans (hHeld.2.2.2.2.2.2.2.2.2.2.1)))))))))), ((cell_far (p := ⟨gb215, _, none⟩) (nf hw213_3 GW215.out) _).trans (((cell_far (p := ⟨gb215, _, none⟩) (nf hw213_3 GW215.out) _).trans (((cell_far (p := ⟨gb215, _, none⟩) (nf hw213_3 GW215.out) _).trans (((cell_far (p := ⟨gb215, _, none⟩) (nf hw213_3 GW215.out) _).trans (((cell_far (p := ⟨gb215, _, none⟩) (nf hw213_3 GW215.out) _).trans (hHeld.2.2.2.2.2.2.2.2.2.2.2.1)))))))))), ((cell_far (p := ⟨gb215, _, none⟩) (nf hw214_0 GW215.out) _).trans (((cell_far (p := ⟨gb215, _, none⟩) (nf hw214_0 GW215.out) _).trans (((cell_far (p := ⟨gb215, _, none⟩) (nf hw214_0 GW215.out) _).trans (((cell_far (p := ⟨gb215, _, none⟩) (nf hw214_0 GW215.out) _).trans (((cell_far (p := ⟨gb215, _, none⟩) (nf hw214_0 GW215.out) _).trans (hHeld.2.2.2.2.2.2.2.2.2.2.2.2.1)))))))))), ((cell_far (p := ⟨gb215, _, none⟩) (nf hw214_1 GW215.out) _).trans (((cell_far (p := ⟨gb215, _, none⟩) (nf hw214_1 GW215.out) _).trans (((cell_far (p := ⟨gb215, _, none⟩) (nf hw214_1 GW215.out) _).trans (((cell_far (p := ⟨gb215, _, none⟩) (nf hw214_1 GW215.out) _).trans (((cell_far (p := ⟨gb215, _, none⟩) (nf hw214_1 GW215.out) _).trans (hHeld.2.2.2.2.2.2.2.2.2.2.2.2.2.1)))))))))), ((cell_far (p := ⟨gb215, _, none⟩) (nf hw214_2 GW215.out) _).trans (((cell_far (p := ⟨gb215, _, none⟩) (nf hw214_2 GW215.out) _).trans (((cell_far (p := ⟨gb215, _, none⟩) (nf hw214_2 GW215.out) _).trans (((cell_far (p := ⟨gb215, _, none⟩) (nf hw214_2 GW215.out) _).trans (((cell_far (p := ⟨gb215, _, none⟩) (nf hw214_2 GW215.out) _).trans (hHeld.2.2.2.2.2.2.2.2.2.2.2.2.2.2.1)))))))))), ((cell_far (p := ⟨gb215, _, none⟩) (nf hw214_3 GW215.out) _).trans (((cell_far (p := ⟨gb215, _, none⟩) (nf hw214_3 GW215.out) _).trans (((cell_far (p := ⟨gb215, _, none⟩) (nf hw214_3 GW215.out) _).trans (((cell_far (p := ⟨gb215, _, none⟩) (nf hw214_3 GW215.out) _).trans (((cell_far (p := ⟨gb215, _, none⟩) (nf hw214_3 GW215.out) _).trans (hHeld.2.2.2.2.2.2.2.2.2.2.2.2.2.2.2))))))))))⟩ (fun hHeld => ?_)
        clear hK K
        refine done_ (done_of HT_.out (by kernel_rfl)) ?_
        have hnb24 := NB210_215.out
        have hnc24 := NB215_210.out
        have hcz25_0 : w18.cell? ⟨gb210, 0, none⟩ = some (.int .i64 ((rd_T52 l0 x5_1).f0)) := (blk_cell BK210.out 0).trans rfl
        have hcz25_1 : w18.cell? ⟨gb210, 1, none⟩ = some (.bool false) := (blk_cell BK210.out 1).trans rfl
        have hcz25_2 : w18.cell? ⟨gb210, 2, none⟩ = some (.int .i64 ((rd_T52 l0 x5_1).f1)) := (blk_cell BK210.out 2).trans rfl
        have hcz25_3 : w18.cell? ⟨gb210, 3, none⟩ = some (.string ((rd_T52 l0 x5_1).f2)) := (blk_cell BK210.out 3).trans rfl
        have hcz25_4 : w18.cell? ⟨gb210, 4, none⟩ = some (.slice A206_3 ((rd_T52 l0 x5_1).f3).length c206_3) := (blk_cell BK210.out 4).trans rfl
        have hfz25_0 := blk_frozen BK210.out 0
        have hfz25_1 := blk_frozen BK210.out 1
        have hfz25_2 := blk_frozen BK210.out 2
        have hfz25_3 := blk_frozen BK210.out 3
        have hfz25_4 := blk_frozen BK210.out 4
        have hcz26_0 : w18.cell? ⟨gb215, 0, none⟩ = some (.int .i64 0) := (blk_cell BK215.out 0).trans rfl
        have hcz26_1 : w18.cell? ⟨gb215, 1, none⟩ = some (.bool false) := (blk_cell BK215.out 1).trans rfl
        have hcz26_2 : w18.cell? ⟨gb215, 2, none⟩ = some (.int .i64 0) := (blk_cell BK215.out 2).trans rfl
        have hcz26_3 : w18.cell? ⟨gb215, 3, none⟩ = some (.string (⟨#[]⟩ : ByteArray)) := (blk_cell BK215.out 3).trans rfl
        have hcz26_4 : w18.cell? ⟨gb215, 4, none⟩ = some (.slice none 0 0) := (blk_cell BK215.out 4).trans rfl
        have hfz26_0 := blk_frozen BK215.out 0
        have hfz26_1 := blk_frozen BK215.out 1
        have hfz26_2 := blk_frozen BK215.out 2
        have hfz26_3 := blk_frozen BK215.out 3
        have hfz26_4 := blk_frozen BK215.out 4
        try go_wp2_with (first | ((with_reducible refine gate_callee (f := 14) rfl ?_); refine goesL_ (some 63) rfl rfl Tryd.func14 (by kernel_rfl) rfl #[.agg #[.int .i64 ((rd_T52 l0 x5_1).f0), .bool false, .int .i64 ((rd_T52 l0 x5_1).f1), .string ((rd_T52 l0 x5_1).f2), .slice A206_3 ((rd_T52 l0 x5_1).f3).length c206_3], .agg #[.int .i64 ((rd_T52 l1 x5_1).f0), .bool false, .int .i64 ((rd_T52 l1 x5_1).f1), .string ((rd_T52 l1 x5_1).f2), .slice A211_3 ((rd_T52 l1 x5_1).f3).length c211_3]] rfl gl ?_; (with_reducible refine (stowageref13_Same.calls k1 ((rd_T52 l0 x5_1).f0) false ((rd_T52 l0 x5_1).f1) ((rd_T52 l0 x5_1).f2) _ _ ((rd_T52 l0 x5_1).f3) ((rd_T52 l1 x5_1).f0) false ((rd_T52 l1 x5_1).f1) ((rd_T52 l1 x5_1).f2) _ _ ((rd_T52 l1 x5_1).f3) true _ ?side1 ?side2 ?side3 ?side4 A7.out).mono ?_); (case side1 => exact Kd.C_below HR209_3.out (bws HB.out)); (case side2 => exact HC209_3.out); (case side3 => exact Kd.C_below HR214_3.out (bws HB.out)); (case side4 => exact HC214_3.out); rintro e w27 ⟨rfl, hb⟩; refine ⟨_, rfl, ?_⟩; replace BK210 := Aside0.mk (blk_below (g := gb210) (o := .cells #[.int .i64 ((rd_T52 l0 x5_1).f0), .bool false, .int .i64 ((rd_T52 l0 x5_1).f1), .string ((rd_T52 l0 x5_1).f2), .slice A206_3 ((rd_T52 l0 x5_1).f3).length c206_3] 32 (0, 0)) (bkf BK210.out) hb); replace BK215 := Aside0.mk (blk_below (g := gb215) (o := .cells #[.int .i64 ((rd_T52 l1 x5_1).f0), .bool false, .int .i64 ((rd_T52 l1 x5_1).f1), .string ((rd_T52 l1 x5_1).f2), .slice A211_3 ((rd_T52 l1 x5_1).f3).length c211_3] 32 (0, 0)) (bkp BK215.out) hb); replace HB := Aside0.mk (below_step (bws HB.out) hb); (try clear hb); (try clear hb2); (try clear hk); (try clear hi)))
        go_roundg k1
        case measure => have := HK1.out; omega
        case rel => exact ⟨(wrap64 (x5_1 + 1)), (by first | rfl | (simp; done) | (simp [*]; done)), H', ⟨by have := HK1.out; omega⟩, ⟨bws HB.out⟩⟩
       ·
        replace c8 := Bool.eq_false_iff.mpr c8
        subst c8
        have H1 : (some false) = some r := by rw [if_neg (show ¬ (false = true) by decide)] at H; exact H
        clear H
        have H := H1
        clear H1
        obtain rfl := Option.some.inj H
        try go_wp2
        replace HB := Aside0.mk (below_drew1 HB.out)
        have p206 : 0 ≤ (x5_1 : Int) := of_decide_eq_true asm
        have q206 : x5_1 < (l0.length : Int) := of_decide_eq_true asm
        obtain ⟨ad206, A206_3, c206_3, e206, hx206_0, hx206_1, hx206_2, hx206_3, hl206_3, hi206_3⟩ := at_T52 HR0.out x5_1 p206 q206
        have hw206_3 := hx206_3
        have hw206_2 := hx206_2
        have hw206_1 := hx206_1
        have hw206_0 := hx206_0
        cases e206
        replace hx206_0 := bc HB.out hx206_0
        replace hx206_1 := bc HB.out hx206_1
        replace hx206_2 := bc HB.out hx206_2
        replace hx206_3 := bc HB.out hx206_3
        have HR206_3 := Aside0.mk hi206_3
        have HC206_3 := Aside0.mk hl206_3
        clear hi206_3 hl206_3
        replace p206 := eq_true p206
        replace q206 := eq_true q206
        have p207 : 0 ≤ (x5_1 : Int) := of_decide_eq_true asm
        have q207 : x5_1 < (l0.length : Int) := of_decide_eq_true asm
        obtain ⟨ad207, A207_3, c207_3, e207, hx207_0, hx207_1, hx207_2, hx207_3, hl207_3, hi207_3⟩ := at_T52 HR0.out x5_1 p207 q207
        have hw207_3 := hx207_3
        have hw207_2 := hx207_2
        have hw207_1 := hx207_1
        have hw207_0 := hx207_0
        obtain rfl : ad206 = ad207 := (by injection e207)
        replace hx207_0 := bc HB.out hx207_0
        replace hx207_1 := bc HB.out hx207_1
        replace hx207_2 := bc HB.out hx207_2
        replace hx207_3 := bc HB.out hx207_3
        have HR207_3 := Aside0.mk hi207_3
        have HC207_3 := Aside0.mk hl207_3
        clear hi207_3 hl207_3
        replace p207 := eq_true p207
        replace q207 := eq_true q207
        have ea_ := Option.some.inj (hx206_3.symm.trans hx207_3)
        injection ea_ with ea_ en_ ec_
        subst ea_
        subst ec_
        clear en_
        have p208 : 0 ≤ (x5_1 : Int) := of_decide_eq_true asm
        have q208 : x5_1 < (l0.length : Int) := of_decide_eq_true asm
        obtain ⟨ad208, A208_3, c208_3, e208, hx208_0, hx208_1, hx208_2, hx208_3, hl208_3, hi208_3⟩ := at_T52 HR0.out x5_1 p208 q208
        have hw208_3 := hx208_3
        have hw208_2 := hx208_2
        have hw208_1 := hx208_1
        have hw208_0 := hx208_0
        obtain rfl : ad206 = ad208 := (by injection e208)
        replace hx208_0 := bc HB.out hx208_0
        replace hx208_1 := bc HB.out hx208_1
        replace hx208_2 := bc HB.out hx208_2
        replace hx208_3 := bc HB.out hx208_3
        have HR208_3 := Aside0.mk hi208_3
        have HC208_3 := Aside0.mk hl208_3
        clear hi208_3 hl208_3
        replace p208 := eq_true p208
        replace q208 := eq_true q208
        have ea_ := Option.some.inj (hx206_3.symm.trans hx208_3)
        injection ea_ with ea_ en_ ec_
        subst ea_
        subst ec_
        clear en_
        have p209 : 0 ≤ (x5_1 : Int) := of_decide_eq_true asm
        have q209 : x5_1 < (l0.length : Int) := of_decide_eq_true asm
        obtain ⟨ad209, A209_3, c209_3, e209, hx209_0, hx209_1, hx209_2, hx209_3, hl209_3, hi209_3⟩ := at_T52 HR0.out x5_1 p209 q209
        have hw209_3 := hx209_3
        have hw209_2 := hx209_2
        have hw209_1 := hx209_1
        have hw209_0 := hx209_0
        obtain rfl : ad206 = ad209 := (by injection e209)
        replace hx209_0 := bc HB.out hx209_0
        replace hx209_1 := bc HB.out hx209_1
        replace hx209_2 := bc HB.out hx209_2
        replace hx209_3 := bc HB.out hx209_3
        have HR209_3 := Aside0.mk hi209_3
        have HC209_3 := Aside0.mk hl209_3
        clear hi209_3 hl209_3
        replace p209 := eq_true p209
        replace q209 := eq_true q209
        have ea_ := Option.some.inj (hx206_3.symm.trans hx209_3)
        injection ea_ with ea_ en_ ec_
        subst ea_
        subst ec_
        clear en_
        refine start_ (n := 23) (S := fun w' => w'.cell? (ad206.add ((x5_1).toNat * 4)) = some (.int .i64 ((rd_T52 l0 x5_1).f0)) ∧ w'.cell? ⟨(ad206.add ((x5_1).toNat * 4)).block, (ad206.add ((x5_1).toNat * 4)).off + 1, none⟩ = some (.int .i64 ((rd_T52 l0 x5_1).f1)) ∧ w'.cell? ⟨(ad206.add ((x5_1).toNat * 4)).block, (ad206.add ((x5_1).toNat * 4)).off + 2, none⟩ = some (.string ((rd_T52 l0 x5_1).f2)) ∧ w'.cell? ⟨(ad206.add ((x5_1).toNat * 4)).block, (ad206.add ((x5_1).toNat * 4)).off + 3, none⟩ = some (.slice A206_3 ((rd_T52 l0 x5_1).f3).length c206_3) ∧ w'.cell? (ad206.add ((x5_1).toNat * 4)) = some (.int .i64 ((rd_T52 l0 x5_1).f0)) ∧ w'.cell? ⟨(ad206.add ((x5_1).toNat * 4)).block, (ad206.add ((x5_1).toNat * 4)).off + 1, none⟩ = some (.int .i64 ((rd_T52 l0 x5_1).f1)) ∧ w'.cell? ⟨(ad206.add ((x5_1).toNat * 4)).block, (ad206.add ((x5_1).toNat * 4)).off + 2, none⟩ = some (.string ((rd_T52 l0 x5_1).f2)) ∧ w'.cell? ⟨(ad206.add ((x5_1).toNat * 4)).block, (ad206.add ((x5_1).toNat * 4)).off + 3, none⟩ = some (.slice A206_3 ((rd_T52 l0 x5_1).f3).length c206_3) ∧ w'.cell? (ad206.add ((x5_1).toNat * 4)) = some (.int .i64 ((rd_T52 l0 x5_1).f0)) ∧ w'.cell? ⟨(ad206.add ((x5_1).toNat * 4)).block, (ad206.add ((x5_1).toNat * 4)).off + 1, none⟩ = some (.int .i64 ((rd_T52 l0 x5_1).f1)) ∧ w'.cell? ⟨(ad206.add ((x5_1).toNat * 4)).block, (ad206.add ((x5_1).toNat * 4)).off + 2, none⟩ = some (.string ((rd_T52 l0 x5_1).f2)) ∧ w'.cell? ⟨(ad206.add ((x5_1).toNat * 4)).block, (ad206.add ((x5_1).toNat * 4)).off + 3, none⟩ = some (.slice A206_3 ((rd_T52 l0 x5_1).f3).length c206_3) ∧ w'.cell? (ad206.add ((x5_1).toNat * 4)) = some (.int .i64 ((rd_T52 l0 x5_1).f0)) ∧ w'.cell? ⟨(ad206.add ((x5_1).toNat * 4)).block, (ad206.add ((x5_1).toNat * 4)).off + 1, none⟩ = some (.int .i64 ((rd_T52 l0 x5_1).f1)) ∧ w'.cell? ⟨(ad206.add ((x5_1).toNat * 4)).block, (ad206.add ((x5_1).toNat * 4)).off + 2, none⟩ = some (.string ((rd_T52 l0 x5_1).f2)) ∧ w'.cell? ⟨(ad206.add ((x5_1).toNat * 4)).block, (ad206.add ((x5_1).toNat * 4)).off + 3, none⟩ = some (.slice A206_3 ((rd_T52 l0 x5_1).f3).length c206_3)) (ds := []) #[false, false, false, false, false, false, false, false, false, false, false, false, false, false, false, false, false, false, false, false, false, false, false] (by kernel_rfl) rfl rfl ⟨(bc HB.out hw206_0), (bc HB.out hw206_1), (bc HB.out hw206_2), (bc HB.out hw206_3), (bc HB.out hw207_0), (bc HB.out hw207_1), (bc HB.out hw207_2), (bc HB.out hw207_3), (bc HB.out hw208_0), (bc HB.out hw208_1), (bc HB.out hw208_2), (bc HB.out hw208_3), (bc HB.out hw209_0), (bc HB.out hw209_1), (bc HB.out hw209_2), (bc HB.out hw209_3)⟩ (fun hHeld => ?_); refine with_tabW stowageref14_Same.tab6 stowageref14_Same.bits6 (fun HT_ HW_ => ?_)
        generalize wr.drew = w28 at HB HR206_3 HR207_3 HR208_3 HR209_3 hx206_0 hx206_1 hx206_2 hx206_3 hx207_0 hx207_1 hx207_2 hx207_3 hx208_0 hx208_1 hx208_2 hx208_3 hx209_0 hx209_1 hx209_2 hx209_3 hHeld ⊢
        refine pu 0 (some 19) HT_.out ?_
        refine pu 1 (some 20) HT_.out ?_
        refine pu 2 (some 21) HT_.out ?_
        refine pu 3 (some 22) HT_.out ?_
        refine pu 5 (some 24) HT_.out ?_
        refine pu 6 (some 25) HT_.out ?_
        refine pu 7 (some 26) HT_.out ?_
        refine pu 8 (some 27) HT_.out ?_
        refine pu 10 (some 29) HT_.out ?_
        refine pu 11 (some 30) HT_.out ?_
        refine pu 12 (some 31) HT_.out ?_
        refine pu 13 (some 32) HT_.out ?_
        refine pu 15 (some 34) HT_.out ?_
        refine pu 16 (some 35) HT_.out ?_
        refine pu 17 (some 36) HT_.out ?_
        refine pu 18 (some 37) HT_.out ?_
        refine tk 4 (some 23) HT_.out HW_.out hHeld ?_
        refine tk 9 (some 28) HT_.out HW_.out hHeld ?_
        refine tk 14 (some 33) HT_.out HW_.out hHeld ?_
        refine tk 19 (some 38) HT_.out HW_.out hHeld ?_
        refine pu 20 (some 39) HT_.out ?_
        refine one_ (i := 21) (N := some 6) #[true, true, true, true, true, true, true, true, true, true, true, true, true, true, true, true, true, true, true, true, true, true, false] rfl rfl (one_of HT_.out (by kernel_rfl)) (by decide) (fun K hK => ?_)
        refine box_step ?hg (N := 6) ?hd (cs := #[.int .i64 0, .bool false, .int .i64 0, .string (⟨#[]⟩ : ByteArray), .slice none 0 0]) (t := 32) ?hr ?_; (case hd => rfl); (case hg => rfl); (case hr => first | (go_simp; done) | (go_simp; rfl))
        intro gb210 hg w29 hbox hb
        have n0_ := Aside0.mk (below_step (bw HB.out) hb)
        have n1_ := Aside0.mk (hbox)
        have n2_ := Aside0.mk ((by rw [hg]; exact (below_size (bw HB.out)) : w.heap.size ≤ gb210))
        have n3_ := Aside0.mk ((by rw [hg]; exact (below_size (bw HB.out)) : w.heap.size ≤ gb210))
        clear HB
        have HB := n0_
        have BK210 := n1_
        have GW210 := n2_
        have GE210 := n3_
        clear n0_ n1_ n2_ n3_
        clear hb hbox hg
        refine hK.out _ _ ⟨(bc HB.out hw206_0), (bc HB.out hw206_1), (bc HB.out hw206_2), (bc HB.out hw206_3), (bc HB.out hw207_0), (bc HB.out hw207_1), (bc HB.out hw207_2), (bc HB.out hw207_3), (bc HB.out hw208_0), (bc HB.out hw208_1), (bc HB.out hw208_2), (bc HB.out hw208_3), (bc HB.out hw209_0), (bc HB.out hw209_1), (bc HB.out hw209_2), (bc HB.out hw209_3)⟩ (fun hHeld => ?_)
        clear hK K
        refine norm_ (a' := ?_) ?_ ?_
        rotate_left
        ·
         show Act.put _ (some 6) _ = _
         simp only [Act.put, List.setIfInBounds_toArray, List.set_cons_zero, List.set_cons_succ, i64_w, i32_w]
         rfl
        refine one_ (i := 22) (N := none) #[true, true, true, true, true, true, true, true, true, true, true, true, true, true, true, true, true, true, true, true, true, true, true] rfl rfl (one_of HT_.out (by kernel_rfl)) (by decide) (fun K hK => ?_)
        have hs30 : w29.cell? ⟨gb210, 0, none⟩ = some (.int .i64 0) := (blk_cell BK210.out 0).trans rfl
        have hfs30 := blk_frozen BK210.out 0
        have hs31 : w29.cell? ⟨gb210, 1, none⟩ = some (.bool false) := (blk_cell BK210.out 1).trans rfl
        have hfs31 := blk_frozen BK210.out 1
        have hs32 : w29.cell? ⟨gb210, 2, none⟩ = some (.int .i64 0) := (blk_cell BK210.out 2).trans rfl
        have hfs32 := blk_frozen BK210.out 2
        have hs33 : w29.cell? ⟨gb210, 3, none⟩ = some (.string (⟨#[]⟩ : ByteArray)) := (blk_cell BK210.out 3).trans rfl
        have hfs33 := blk_frozen BK210.out 3
        have hs34 : w29.cell? ⟨gb210, 4, none⟩ = some (.slice none 0 0) := (blk_cell BK210.out 4).trans rfl
        have hfs34 := blk_frozen BK210.out 4
        refine skip_ (w1 := ?_) (by rfl) rfl ?_ ?_
        rotate_left
        ·
         go_simp
         rfl
        refine hK.out _ _ ⟨((cell_far (p := ⟨gb210, _, none⟩) (nf hw206_0 GW210.out) _).trans (((cell_far (p := ⟨gb210, _, none⟩) (nf hw206_0 GW210.out) _).trans (((cell_far (p := ⟨gb210, _, none⟩) (nf hw206_0 GW210.out) _).trans (((cell_far (p := ⟨gb210, _, none⟩) (nf hw206_0 GW210.out) _).trans (((cell_far (p := ⟨gb210, _, none⟩) (nf hw206_0 GW210.out) _).trans (hHeld.1)))))))))), ((cell_far (p := ⟨gb210, _, none⟩) (nf hw206_1 GW210.out) _).trans (((cell_far (p := ⟨gb210, _, none⟩) (nf hw206_1 GW210.out) _).trans (((cell_far (p := ⟨gb210, _, none⟩) (nf hw206_1 GW210.out) _).trans (((cell_far (p := ⟨gb210, _, none⟩) (nf hw206_1 GW210.out) _).trans (((cell_far (p := ⟨gb210, _, none⟩) (nf hw206_1 GW210.out) _).trans (hHeld.2.1)))))))))), ((cell_far (p := ⟨gb210, _, none⟩) (nf hw206_2 GW210.out) _).trans (((cell_far (p := ⟨gb210, _, none⟩) (nf hw206_2 GW210.out) _).trans (((cell_far (p := ⟨gb210, _, none⟩) (nf hw206_2 GW210.out) _).trans (((cell_far (p := ⟨gb210, _, none⟩) (nf hw206_2 GW210.out) _).trans (((cell_far (p := ⟨gb210, _, none⟩) (nf hw206_2 GW210.out) _).trans (hHeld.2.2.1)))))))))), ((cell_far (p := ⟨gb210, _, none⟩) (nf hw206_3 GW210.out) _).trans (((cell_far (p := ⟨gb210, _, none⟩) (nf hw206_3 GW210.out) _).trans (((cell_far (p := ⟨gb210, _, none⟩) (nf hw206_3 GW210.out) _).trans (((cell_far (p := ⟨gb210, _, none⟩) (nf hw206_3 GW210.out) _).trans (((cell_far (p := ⟨gb210, _, none⟩) (nf hw206_3 GW210.out) _).trans (hHeld.2.2.2.1)))))))))), ((cell_far (p := ⟨gb210, _, none⟩) (nf hw207_0 GW210.out) _).trans (((cell_far (p := ⟨gb210, _, none⟩) (nf hw207_0 GW210.out) _).trans (((cell_far (p := ⟨gb210, _, none⟩) (nf hw207_0 GW210.out) _).trans (((cell_far (p := ⟨gb210, _, none⟩) (nf hw207_0 GW210.out) _).trans (((cell_far (p := ⟨gb210, _, none⟩) (nf hw207_0 GW210.out) _).trans (hHeld.2.2.2.2.1)))))))))), ((cell_far (p := ⟨gb210, _, none⟩) (nf hw207_1 GW210.out) _).trans (((cell_far (p := ⟨gb210, _, none⟩) (nf hw207_1 GW210.out) _).trans (((cell_far (p := ⟨gb210, _, none⟩) (nf hw207_1 GW210.out) _).trans (((cell_far (p := ⟨gb210, _, none⟩) (nf hw207_1 GW210.out) _).trans (((cell_far (p := ⟨gb210, _, none⟩) (nf hw207_1 GW210.out) _).trans (hHeld.2.2.2.2.2.1)))))))))), ((cell_far (p := ⟨gb210, _, none⟩) (nf hw207_2 GW210.out) _).trans (((cell_far (p := ⟨gb210, _, none⟩) (nf hw207_2 GW210.out) _).trans (((cell_far (p := ⟨gb210, _, none⟩) (nf hw207_2 GW210.out) _).trans (((cell_far (p := ⟨gb210, _, none⟩) (nf hw207_2 GW210.out) _).trans (((cell_far (p := ⟨gb210, _, none⟩) (nf hw207_2 GW210.out) _).trans (hHeld.2.2.2.2.2.2.1)))))))))), ((cell_far (p := ⟨gb210, _, none⟩) (nf hw207_3 GW210.out) _).trans (((cell_far (p := ⟨gb210, _, none⟩) (nf hw207_3 GW210.out) _).trans (((cell_far (p := ⟨gb210, _, none⟩) (nf hw207_3 GW210.out) _).trans (((cell_far (p := ⟨gb210, _, none⟩) (nf hw207_3 GW210.out) _).trans (((cell_far (p := ⟨gb210, _, none⟩) (nf hw207_3 GW210.out) _).trans (hHeld.2.2.2.2.2.2.2.1)))))))))), ((cell_far (p := ⟨gb210, _, none⟩) (nf hw208_0 GW210.out) _).trans (((cell_far (p := ⟨gb210, _, none⟩) (nf hw208_0 GW210.out) _).trans (((cell_far (p := ⟨gb210, _, none⟩) (nf hw208_0 GW210.out) _).trans (((cell_far (p := ⟨gb210, _, none⟩) (nf hw208_0 GW210.out) _).trans (((cell_far (p := ⟨gb210, _, none⟩) (nf hw208_0 GW210.out) _).trans (hHeld.2.2.2.2.2.2.2.2.1)))))))))), ((cell_far (p := ⟨gb210, _, none⟩) (nf hw208_1 GW210.out) _).trans (((cell_far (p := ⟨gb210, _, none⟩) (nf hw208_1 GW210.out) _).trans (((cell_far (p := ⟨gb210, _, none⟩) (nf hw208_1 GW210.out) _).trans (((cell_far (p := ⟨gb210, _, none⟩) (nf hw208_1 GW210.out) _).trans (((cell_far (p := ⟨gb210, _, none⟩) (nf hw208_1 GW210.out) _).trans (hHeld.2.2.2.2.2.2.2.2.2.1)))))))))), ((cell_far (p := ⟨gb210, _, none⟩) (nf hw208_2 GW210.out) _).trans (((cell_far (p := ⟨gb210, _, none⟩) (nf hw208_2 GW210.out) _).trans (((cell_far (p := ⟨gb210, _, none⟩) (nf hw208_2 GW210.out) _).trans (((cell_far (p := ⟨gb210, _, none⟩) (nf hw208_2 GW210.out) _).trans (((cell_far (p := ⟨gb210, _, none⟩) (nf hw208_2 GW210.out) _).trans (hHeld.2.2.2.2.2.2.2.2.2.2.1)))))))))), ((cell_far (p := ⟨gb210, _, none⟩) (nf hw208_3 GW210.out) _).trans (((cell_far (p := ⟨gb210, _, none⟩) (nf hw208_3 GW210.out) _).trans (((cell_far (p := ⟨gb210, _, none⟩) (nf hw208_3 GW210.out) _).trans (((cell_far (p := ⟨gb210, _, none⟩) (nf hw208_3 GW210.out) _).trans (((cell_far (p := ⟨gb210, _, none⟩) (nf hw208_3 GW210.out) _).trans (hHeld.2.2.2.2.2.2.2.2.2.2.2.1)))))))))), ((cell_far (p := ⟨gb210, _, none⟩) (nf hw209_0 GW210.out) _).trans (((cell_far (p := ⟨gb210, _, none⟩) (nf hw209_0 GW210.out) _).trans (((cell_far (p := ⟨gb210, _, none⟩) (nf hw209_0 GW210.out) _).trans (((cell_far (p := ⟨gb210, _, none⟩) (nf hw209_0 GW210.out) _).trans (((cell_far (p := ⟨gb210, _, none⟩) (nf hw209_0 GW210.out) _).trans (hHeld.2.2.2.2.2.2.2.2.2.2.2.2.1)))))))))), ((cell_far (p := ⟨gb210, _, none⟩) (nf hw209_1 GW210.out) _).trans (((cell_far (p := ⟨gb210, _, none⟩) (nf hw209_1 GW210.out) _).trans (((cell_far (p := ⟨gb210, _, none⟩) (nf hw209_1 GW210.out) _).trans (((cell_far (p := ⟨gb210, _, none⟩) (nf hw209_1 GW210.out) _).trans (((cell_far (p := ⟨gb210, _, none⟩) (nf hw209_1 GW210.out) _).trans (hHeld.2.2.2.2.2.2.2.2.2.2.2.2.2.1)))))))))), ((cell_far (p := ⟨gb210, _, none⟩) (nf hw209_2 GW210.out) _).trans (((cell_far (p := ⟨gb210, _, none⟩) (nf hw209_2 GW210.out) _).trans (((cell_far (p := ⟨gb210, _, none⟩) (nf hw209_2 GW210.out) _).trans (((cell_far (p := ⟨gb210, _, none⟩) (nf hw209_2 GW210.out) _).trans (((cell_far (p := ⟨gb210, _, none⟩) (nf hw209_2 GW210.out) _).trans (hHeld.2.2.2.2.2.2.2.2.2.2.2.2.2.2.1)))))))))), ((cell_far (p := ⟨gb210, _, none⟩) (nf hw209_3 GW210.out) _).trans (((cell_far (p := ⟨gb210, _, none⟩) (nf hw209_3 GW210.out) _).trans (((cell_far (p := ⟨gb210, _, none⟩) (nf hw209_3 GW210.out) _).trans (((cell_far (p := ⟨gb210, _, none⟩) (nf hw209_3 GW210.out) _).trans (((cell_far (p := ⟨gb210, _, none⟩) (nf hw209_3 GW210.out) _).trans (hHeld.2.2.2.2.2.2.2.2.2.2.2.2.2.2.2))))))))))⟩ (fun hHeld => ?_)
        clear hK K
        refine done_ (done_of HT_.out (by kernel_rfl)) ?_
        try go_wp2
        have n0_ : Aside0 ((((((w29.setCell ⟨gb210, 0, none⟩ (.int .i64 ((rd_T52 l0 x5_1).f0))).setCell ⟨gb210, 1, none⟩ (.bool false)).setCell ⟨gb210, 2, none⟩ (.int .i64 ((rd_T52 l0 x5_1).f1))).setCell ⟨gb210, 3, none⟩ (.string ((rd_T52 l0 x5_1).f2))).setCell ⟨gb210, 4, none⟩ (.slice A206_3 ((rd_T52 l0 x5_1).f3).length c206_3)).heap[gb210]? = some (.cells #[.int .i64 ((rd_T52 l0 x5_1).f0), .bool false, .int .i64 ((rd_T52 l0 x5_1).f1), .string ((rd_T52 l0 x5_1).f2), .slice A206_3 ((rd_T52 l0 x5_1).f3).length c206_3] 32 (0, 0))) := ⟨bkp BK210.out⟩
        have n1_ : Aside0 (Below w.heap.size w (((((w29.setCell ⟨gb210, 0, none⟩ (.int .i64 ((rd_T52 l0 x5_1).f0))).setCell ⟨gb210, 1, none⟩ (.bool false)).setCell ⟨gb210, 2, none⟩ (.int .i64 ((rd_T52 l0 x5_1).f1))).setCell ⟨gb210, 3, none⟩ (.string ((rd_T52 l0 x5_1).f2))).setCell ⟨gb210, 4, none⟩ (.slice A206_3 ((rd_T52 l0 x5_1).f3).length c206_3))) := ⟨bws HB.out⟩
        (try clear BK210)
        (try clear HB)
        generalize (((((w29.setCell ⟨gb210, 0, none⟩ (.int .i64 ((rd_T52 l0 x5_1).f0))).setCell ⟨gb210, 1, none⟩ (.bool false)).setCell ⟨gb210, 2, none⟩ (.int .i64 ((rd_T52 l0 x5_1).f1))).setCell ⟨gb210, 3, none⟩ (.string ((rd_T52 l0 x5_1).f2))).setCell ⟨gb210, 4, none⟩ (.slice A206_3 ((rd_T52 l0 x5_1).f3).length c206_3)) = w35 at n0_ n1_ ⊢
        have BK210 := n0_
        have HB := n1_
        clear n0_ n1_
        replace BK210 := Aside0.mk (blk_drew BK210.out)
        replace HB := Aside0.mk (below_drew1 HB.out)
        have p211 : 0 ≤ (x5_1 : Int) := of_decide_eq_true asm
        have q211 : x5_1 < (l1.length : Int) := of_decide_eq_true asm
        obtain ⟨ad211, A211_3, c211_3, e211, hx211_0, hx211_1, hx211_2, hx211_3, hl211_3, hi211_3⟩ := at_T52 HR1.out x5_1 p211 q211
        have hw211_3 := hx211_3
        have hw211_2 := hx211_2
        have hw211_1 := hx211_1
        have hw211_0 := hx211_0
        cases e211
        replace hx211_0 := bc HB.out hx211_0
        replace hx211_1 := bc HB.out hx211_1
        replace hx211_2 := bc HB.out hx211_2
        replace hx211_3 := bc HB.out hx211_3
        have HR211_3 := Aside0.mk hi211_3
        have HC211_3 := Aside0.mk hl211_3
        clear hi211_3 hl211_3
        replace p211 := eq_true p211
        replace q211 := eq_true q211
        have p212 : 0 ≤ (x5_1 : Int) := of_decide_eq_true asm
        have q212 : x5_1 < (l1.length : Int) := of_decide_eq_true asm
        obtain ⟨ad212, A212_3, c212_3, e212, hx212_0, hx212_1, hx212_2, hx212_3, hl212_3, hi212_3⟩ := at_T52 HR1.out x5_1 p212 q212
        have hw212_3 := hx212_3
        have hw212_2 := hx212_2
        have hw212_1 := hx212_1
        have hw212_0 := hx212_0
        obtain rfl : ad211 = ad212 := (by injection e212)
        replace hx212_0 := bc HB.out hx212_0
        replace hx212_1 := bc HB.out hx212_1
        replace hx212_2 := bc HB.out hx212_2
        replace hx212_3 := bc HB.out hx212_3
        have HR212_3 := Aside0.mk hi212_3
        have HC212_3 := Aside0.mk hl212_3
        clear hi212_3 hl212_3
        replace p212 := eq_true p212
        replace q212 := eq_true q212
        have ea_ := Option.some.inj (hx211_3.symm.trans hx212_3)
        injection ea_ with ea_ en_ ec_
        subst ea_
        subst ec_
        clear en_
        have p213 : 0 ≤ (x5_1 : Int) := of_decide_eq_true asm
        have q213 : x5_1 < (l1.length : Int) := of_decide_eq_true asm
        obtain ⟨ad213, A213_3, c213_3, e213, hx213_0, hx213_1, hx213_2, hx213_3, hl213_3, hi213_3⟩ := at_T52 HR1.out x5_1 p213 q213
        have hw213_3 := hx213_3
        have hw213_2 := hx213_2
        have hw213_1 := hx213_1
        have hw213_0 := hx213_0
        obtain rfl : ad211 = ad213 := (by injection e213)
        replace hx213_0 := bc HB.out hx213_0
        replace hx213_1 := bc HB.out hx213_1
        replace hx213_2 := bc HB.out hx213_2
        replace hx213_3 := bc HB.out hx213_3
        have HR213_3 := Aside0.mk hi213_3
        have HC213_3 := Aside0.mk hl213_3
        clear hi213_3 hl213_3
        replace p213 := eq_true p213
        replace q213 := eq_true q213
        have ea_ := Option.some.inj (hx211_3.symm.trans hx213_3)
        injection ea_ with ea_ en_ ec_
        subst ea_
        subst ec_
        clear en_
        have p214 : 0 ≤ (x5_1 : Int) := of_decide_eq_true asm
        have q214 : x5_1 < (l1.length : Int) := of_decide_eq_true asm
        obtain ⟨ad214, A214_3, c214_3, e214, hx214_0, hx214_1, hx214_2, hx214_3, hl214_3, hi214_3⟩ := at_T52 HR1.out x5_1 p214 q214
        have hw214_3 := hx214_3
        have hw214_2 := hx214_2
        have hw214_1 := hx214_1
        have hw214_0 := hx214_0
        obtain rfl : ad211 = ad214 := (by injection e214)
        replace hx214_0 := bc HB.out hx214_0
        replace hx214_1 := bc HB.out hx214_1
        replace hx214_2 := bc HB.out hx214_2
        replace hx214_3 := bc HB.out hx214_3
        have HR214_3 := Aside0.mk hi214_3
        have HC214_3 := Aside0.mk hl214_3
        clear hi214_3 hl214_3
        replace p214 := eq_true p214
        replace q214 := eq_true q214
        have ea_ := Option.some.inj (hx211_3.symm.trans hx214_3)
        injection ea_ with ea_ en_ ec_
        subst ea_
        subst ec_
        clear en_
        refine start_ (n := 23) (S := fun w' => w'.cell? (ad211.add ((x5_1).toNat * 4)) = some (.int .i64 ((rd_T52 l1 x5_1).f0)) ∧ w'.cell? ⟨(ad211.add ((x5_1).toNat * 4)).block, (ad211.add ((x5_1).toNat * 4)).off + 1, none⟩ = some (.int .i64 ((rd_T52 l1 x5_1).f1)) ∧ w'.cell? ⟨(ad211.add ((x5_1).toNat * 4)).block, (ad211.add ((x5_1).toNat * 4)).off + 2, none⟩ = some (.string ((rd_T52 l1 x5_1).f2)) ∧ w'.cell? ⟨(ad211.add ((x5_1).toNat * 4)).block, (ad211.add ((x5_1).toNat * 4)).off + 3, none⟩ = some (.slice A211_3 ((rd_T52 l1 x5_1).f3).length c211_3) ∧ w'.cell? (ad211.add ((x5_1).toNat * 4)) = some (.int .i64 ((rd_T52 l1 x5_1).f0)) ∧ w'.cell? ⟨(ad211.add ((x5_1).toNat * 4)).block, (ad211.add ((x5_1).toNat * 4)).off + 1, none⟩ = some (.int .i64 ((rd_T52 l1 x5_1).f1)) ∧ w'.cell? ⟨(ad211.add ((x5_1).toNat * 4)).block, (ad211.add ((x5_1).toNat * 4)).off + 2, none⟩ = some (.string ((rd_T52 l1 x5_1).f2)) ∧ w'.cell? ⟨(ad211.add ((x5_1).toNat * 4)).block, (ad211.add ((x5_1).toNat * 4)).off + 3, none⟩ = some (.slice A211_3 ((rd_T52 l1 x5_1).f3).length c211_3) ∧ w'.cell? (ad211.add ((x5_1).toNat * 4)) = some (.int .i64 ((rd_T52 l1 x5_1).f0)) ∧ w'.cell? ⟨(ad211.add ((x5_1).toNat * 4)).block, (ad211.add ((x5_1).toNat * 4)).off + 1, none⟩ = some (.int .i64 ((rd_T52 l1 x5_1).f1)) ∧ w'.cell? ⟨(ad211.add ((x5_1).toNat * 4)).block, (ad211.add ((x5_1).toNat * 4)).off + 2, none⟩ = some (.string ((rd_T52 l1 x5_1).f2)) ∧ w'.cell? ⟨(ad211.add ((x5_1).toNat * 4)).block, (ad211.add ((x5_1).toNat * 4)).off + 3, none⟩ = some (.slice A211_3 ((rd_T52 l1 x5_1).f3).length c211_3) ∧ w'.cell? (ad211.add ((x5_1).toNat * 4)) = some (.int .i64 ((rd_T52 l1 x5_1).f0)) ∧ w'.cell? ⟨(ad211.add ((x5_1).toNat * 4)).block, (ad211.add ((x5_1).toNat * 4)).off + 1, none⟩ = some (.int .i64 ((rd_T52 l1 x5_1).f1)) ∧ w'.cell? ⟨(ad211.add ((x5_1).toNat * 4)).block, (ad211.add ((x5_1).toNat * 4)).off + 2, none⟩ = some (.string ((rd_T52 l1 x5_1).f2)) ∧ w'.cell? ⟨(ad211.add ((x5_1).toNat * 4)).block, (ad211.add ((x5_1).toNat * 4)).off + 3, none⟩ = some (.slice A211_3 ((rd_T52 l1 x5_1).f3).length c211_3)) (ds := []) #[false, false, false, false, false, false, false, false, false, false, false, false, false, false, false, false, false, false, false, false, false, false, false] (by kernel_rfl) rfl rfl ⟨(bc HB.out hw211_0), (bc HB.out hw211_1), (bc HB.out hw211_2), (bc HB.out hw211_3), (bc HB.out hw212_0), (bc HB.out hw212_1), (bc HB.out hw212_2), (bc HB.out hw212_3), (bc HB.out hw213_0), (bc HB.out hw213_1), (bc HB.out hw213_2), (bc HB.out hw213_3), (bc HB.out hw214_0), (bc HB.out hw214_1), (bc HB.out hw214_2), (bc HB.out hw214_3)⟩ (fun hHeld => ?_); refine with_tabW stowageref14_Same.tab7 stowageref14_Same.bits7 (fun HT_ HW_ => ?_)
        generalize w35.drew = w36 at BK210 HB HR211_3 HR212_3 HR213_3 HR214_3 hx211_0 hx211_1 hx211_2 hx211_3 hx212_0 hx212_1 hx212_2 hx212_3 hx213_0 hx213_1 hx213_2 hx213_3 hx214_0 hx214_1 hx214_2 hx214_3 hHeld ⊢
        refine pu 0 (some 40) HT_.out ?_
        refine pu 1 (some 41) HT_.out ?_
        refine pu 2 (some 42) HT_.out ?_
        refine pu 3 (some 43) HT_.out ?_
        refine pu 5 (some 45) HT_.out ?_
        refine pu 6 (some 46) HT_.out ?_
        refine pu 7 (some 47) HT_.out ?_
        refine pu 8 (some 48) HT_.out ?_
        refine pu 10 (some 50) HT_.out ?_
        refine pu 11 (some 51) HT_.out ?_
        refine pu 12 (some 52) HT_.out ?_
        refine pu 13 (some 53) HT_.out ?_
        refine pu 15 (some 55) HT_.out ?_
        refine pu 16 (some 56) HT_.out ?_
        refine pu 17 (some 57) HT_.out ?_
        refine pu 18 (some 58) HT_.out ?_
        refine tk 4 (some 44) HT_.out HW_.out hHeld ?_
        refine tk 9 (some 49) HT_.out HW_.out hHeld ?_
        refine tk 14 (some 54) HT_.out HW_.out hHeld ?_
        refine tk 19 (some 59) HT_.out HW_.out hHeld ?_
        refine pu 20 (some 60) HT_.out ?_
        refine one_ (i := 21) (N := some 7) #[true, true, true, true, true, true, true, true, true, true, true, true, true, true, true, true, true, true, true, true, true, true, false] rfl rfl (one_of HT_.out (by kernel_rfl)) (by decide) (fun K hK => ?_)
        refine box_step ?hg (N := 7) ?hd (cs := #[.int .i64 0, .bool false, .int .i64 0, .string (⟨#[]⟩ : ByteArray), .slice none 0 0]) (t := 32) ?hr ?_; (case hd => rfl); (case hg => rfl); (case hr => first | (go_simp; done) | (go_simp; rfl))
        intro gb215 hg w37 hbox hb
        have n0_ := Aside0.mk (blk_below (g := gb210) (o := .cells #[.int .i64 ((rd_T52 l0 x5_1).f0), .bool false, .int .i64 ((rd_T52 l0 x5_1).f1), .string ((rd_T52 l0 x5_1).f2), .slice A206_3 ((rd_T52 l0 x5_1).f3).length c206_3] 32 (0, 0)) (bk BK210.out) hb)
        have n1_ := Aside0.mk (below_step (bws HB.out) hb)
        have n2_ := Aside0.mk (hbox)
        have n3_ := Aside0.mk ((by rw [hg]; exact (below_size (bws HB.out)) : w.heap.size ≤ gb215))
        have n4_ := Aside0.mk ((by rw [hg]; exact (below_size (bws HB.out)) : w.heap.size ≤ gb215))
        have n5_ := Aside0.mk ((by rw [hg]; exact Nat.ne_of_lt (blk_lt (g := gb210) (o := .cells #[.int .i64 ((rd_T52 l0 x5_1).f0), .bool false, .int .i64 ((rd_T52 l0 x5_1).f1), .string ((rd_T52 l0 x5_1).f2), .slice A206_3 ((rd_T52 l0 x5_1).f3).length c206_3] 32 (0, 0)) (bk BK210.out)) : gb210 ≠ gb215))
        have n6_ := Aside0.mk ((by rw [hg]; exact Nat.ne_of_gt (blk_lt (g := gb210) (o := .cells #[.int .i64 ((rd_T52 l0 x5_1).f0), .bool false, .int .i64 ((rd_T52 l0 x5_1).f1), .string ((rd_T52 l0 x5_1).f2), .slice A206_3 ((rd_T52 l0 x5_1).f3).length c206_3] 32 (0, 0)) (bk BK210.out)) : gb215 ≠ gb210))
        clear BK210
        clear HB
        have BK210 := n0_
        have HB := n1_
        have BK215 := n2_
        have GW215 := n3_
        have GE215 := n4_
        have NB210_215 := n5_
        have NB215_210 := n6_
        clear n0_ n1_ n2_ n3_ n4_ n5_ n6_
        clear hb hbox hg
        refine hK.out _ _ ⟨(bc HB.out hw211_0), (bc HB.out hw211_1), (bc HB.out hw211_2), (bc HB.out hw211_3), (bc HB.out hw212_0), (bc HB.out hw212_1), (bc HB.out hw212_2), (bc HB.out hw212_3), (bc HB.out hw213_0), (bc HB.out hw213_1), (bc HB.out hw213_2), (bc HB.out hw213_3), (bc HB.out hw214_0), (bc HB.out hw214_1), (bc HB.out hw214_2), (bc HB.out hw214_3)⟩ (fun hHeld => ?_)
        clear hK K
        refine norm_ (a' := ?_) ?_ ?_
        rotate_left
        ·
         show Act.put _ (some 7) _ = _
         simp only [Act.put, List.setIfInBounds_toArray, List.set_cons_zero, List.set_cons_succ, i64_w, i32_w]
         rfl
        refine one_ (i := 22) (N := none) #[true, true, true, true, true, true, true, true, true, true, true, true, true, true, true, true, true, true, true, true, true, true, true] rfl rfl (one_of HT_.out (by kernel_rfl)) (by decide) (fun K hK => ?_)
        have hs38 : w37.cell? ⟨gb215, 0, none⟩ = some (.int .i64 0) := (blk_cell BK215.out 0).trans rfl
        have hfs38 := blk_frozen BK215.out 0
        have hns38_0 := NB210_215.out
        have hms38_0 := NB215_210.out
        have hs39 : w37.cell? ⟨gb215, 1, none⟩ = some (.bool false) := (blk_cell BK215.out 1).trans rfl
        have hfs39 := blk_frozen BK215.out 1
        have hns39_0 := NB210_215.out
        have hms39_0 := NB215_210.out
        have hs40 : w37.cell? ⟨gb215, 2, none⟩ = some (.int .i64 0) := (blk_cell BK215.out 2).trans rfl
        have hfs40 := blk_frozen BK215.out 2
        have hns40_0 := NB210_215.out
        have hms40_0 := NB215_210.out
        have hs41 : w37.cell? ⟨gb215, 3, none⟩ = some (.string (⟨#[]⟩ : ByteArray)) := (blk_cell BK215.out 3).trans rfl
        have hfs41 := blk_frozen BK215.out 3
        have hns41_0 := NB210_215.out
        have hms41_0 := NB215_210.out
        have hs42 : w37.cell? ⟨gb215, 4, none⟩ = some (.slice none 0 0) := (blk_cell BK215.out 4).trans rfl
        have hfs42 := blk_frozen BK215.out 4
        have hns42_0 := NB210_215.out
        have hms42_0 := NB215_210.out
        refine skip_ (w1 := ?_) (by rfl) rfl ?_ ?_
        rotate_left
        ·
         go_simp
         rfl
        refine hK.out _ _ ⟨((cell_far (p := ⟨gb215, _, none⟩) (nf hw211_0 GW215.out) _).trans (((cell_far (p := ⟨gb215, _, none⟩) (nf hw211_0 GW215.out) _).trans (((cell_far (p := ⟨gb215, _, none⟩) (nf hw211_0 GW215.out) _).trans (((cell_far (p := ⟨gb215, _, none⟩) (nf hw211_0 GW215.out) _).trans (((cell_far (p := ⟨gb215, _, none⟩) (nf hw211_0 GW215.out) _).trans (hHeld.1)))))))))), ((cell_far (p := ⟨gb215, _, none⟩) (nf hw211_1 GW215.out) _).trans (((cell_far (p := ⟨gb215, _, none⟩) (nf hw211_1 GW215.out) _).trans (((cell_far (p := ⟨gb215, _, none⟩) (nf hw211_1 GW215.out) _).trans (((cell_far (p := ⟨gb215, _, none⟩) (nf hw211_1 GW215.out) _).trans (((cell_far (p := ⟨gb215, _, none⟩) (nf hw211_1 GW215.out) _).trans (hHeld.2.1)))))))))), ((cell_far (p := ⟨gb215, _, none⟩) (nf hw211_2 GW215.out) _).trans (((cell_far (p := ⟨gb215, _, none⟩) (nf hw211_2 GW215.out) _).trans (((cell_far (p := ⟨gb215, _, none⟩) (nf hw211_2 GW215.out) _).trans (((cell_far (p := ⟨gb215, _, none⟩) (nf hw211_2 GW215.out) _).trans (((cell_far (p := ⟨gb215, _, none⟩) (nf hw211_2 GW215.out) _).trans (hHeld.2.2.1)))))))))), ((cell_far (p := ⟨gb215, _, none⟩) (nf hw211_3 GW215.out) _).trans (((cell_far (p := ⟨gb215, _, none⟩) (nf hw211_3 GW215.out) _).trans (((cell_far (p := ⟨gb215, _, none⟩) (nf hw211_3 GW215.out) _).trans (((cell_far (p := ⟨gb215, _, none⟩) (nf hw211_3 GW215.out) _).trans (((cell_far (p := ⟨gb215, _, none⟩) (nf hw211_3 GW215.out) _).trans (hHeld.2.2.2.1)))))))))), ((cell_far (p := ⟨gb215, _, none⟩) (nf hw212_0 GW215.out) _).trans (((cell_far (p := ⟨gb215, _, none⟩) (nf hw212_0 GW215.out) _).trans (((cell_far (p := ⟨gb215, _, none⟩) (nf hw212_0 GW215.out) _).trans (((cell_far (p := ⟨gb215, _, none⟩) (nf hw212_0 GW215.out) _).trans (((cell_far (p := ⟨gb215, _, none⟩) (nf hw212_0 GW215.out) _).trans (hHeld.2.2.2.2.1)))))))))), ((cell_far (p := ⟨gb215, _, none⟩) (nf hw212_1 GW215.out) _).trans (((cell_far (p := ⟨gb215, _, none⟩) (nf hw212_1 GW215.out) _).trans (((cell_far (p := ⟨gb215, _, none⟩) (nf hw212_1 GW215.out) _).trans (((cell_far (p := ⟨gb215, _, none⟩) (nf hw212_1 GW215.out) _).trans (((cell_far (p := ⟨gb215, _, none⟩) (nf hw212_1 GW215.out) _).trans (hHeld.2.2.2.2.2.1)))))))))), ((cell_far (p := ⟨gb215, _, none⟩) (nf hw212_2 GW215.out) _).trans (((cell_far (p := ⟨gb215, _, none⟩) (nf hw212_2 GW215.out) _).trans (((cell_far (p := ⟨gb215, _, none⟩) (nf hw212_2 GW215.out) _).trans (((cell_far (p := ⟨gb215, _, none⟩) (nf hw212_2 GW215.out) _).trans (((cell_far (p := ⟨gb215, _, none⟩) (nf hw212_2 GW215.out) _).trans (hHeld.2.2.2.2.2.2.1)))))))))), ((cell_far (p := ⟨gb215, _, none⟩) (nf hw212_3 GW215.out) _).trans (((cell_far (p := ⟨gb215, _, none⟩) (nf hw212_3 GW215.out) _).trans (((cell_far (p := ⟨gb215, _, none⟩) (nf hw212_3 GW215.out) _).trans (((cell_far (p := ⟨gb215, _, none⟩) (nf hw212_3 GW215.out) _).trans (((cell_far (p := ⟨gb215, _, none⟩) (nf hw212_3 GW215.out) _).trans (hHeld.2.2.2.2.2.2.2.1)))))))))), ((cell_far (p := ⟨gb215, _, none⟩) (nf hw213_0 GW215.out) _).trans (((cell_far (p := ⟨gb215, _, none⟩) (nf hw213_0 GW215.out) _).trans (((cell_far (p := ⟨gb215, _, none⟩) (nf hw213_0 GW215.out) _).trans (((cell_far (p := ⟨gb215, _, none⟩) (nf hw213_0 GW215.out) _).trans (((cell_far (p := ⟨gb215, _, none⟩) (nf hw213_0 GW215.out) _).trans (hHeld.2.2.2.2.2.2.2.2.1)))))))))), ((cell_far (p := ⟨gb215, _, none⟩) (nf hw213_1 GW215.out) _).trans (((cell_far (p := ⟨gb215, _, none⟩) (nf hw213_1 GW215.out) _).trans (((cell_far (p := ⟨gb215, _, none⟩) (nf hw213_1 GW215.out) _).trans (((cell_far (p := ⟨gb215, _, none⟩) (nf hw213_1 GW215.out) _).trans (((cell_far (p := ⟨gb215, _, none⟩) (nf hw213_1 GW215.out) _).trans (hHeld.2.2.2.2.2.2.2.2.2.1)))))))))), ((cell_far (p := ⟨gb215, _, none⟩) (nf hw213_2 GW215.out) _).trans (((cell_far (p := ⟨gb215, _, none⟩) (nf hw213_2 GW215.out) _).trans (((cell_far (p := ⟨gb215, _, none⟩) (nf hw213_2 GW215.out) _).trans (((cell_far (p := ⟨gb215, _, none⟩) (nf hw213_2 GW215.out) _).trans (((cell_far (p := ⟨gb215, _, none⟩) (nf hw213_2 GW215.out) _).trans (hHeld.2.2.2.2.2.2.2.2.2.2.1)))))))))), ((cell_far (p := ⟨gb215, _, none⟩) (nf hw213_3 GW215.out) _).trans (((cell_far (p := ⟨gb215, _, none⟩) (nf hw213_3 GW215.out) _).trans (((cell_far (p := ⟨gb215, _, none⟩) (nf hw213_3 GW215.out) _).trans (((cell_far (p := ⟨gb215, _, none⟩) (nf hw213_3 GW215.out) _).trans (((cell_far (p := ⟨gb215, _, none⟩) (nf hw213_3 GW215.out) _).trans (hHeld.2.2.2.2.2.2.2.2.2.2.2.1)))))))))), ((cell_far (p := ⟨gb215, _, none⟩) (nf hw214_0 GW215.out) _).trans (((cell_far (p := ⟨gb215, _, none⟩) (nf hw214_0 GW215.out) _).trans (((cell_far (p := ⟨gb215, _, none⟩) (nf hw214_0 GW215.out) _).trans (((cell_far (p := ⟨gb215, _, none⟩) (nf hw214_0 GW215.out) _).trans (((cell_far (p := ⟨gb215, _, none⟩) (nf hw214_0 GW215.out) _).trans (hHeld.2.2.2.2.2.2.2.2.2.2.2.2.1)))))))))), ((cell_far (p := ⟨gb215, _, none⟩) (nf hw214_1 GW215.out) _).trans (((cell_far (p := ⟨gb215, _, none⟩) (nf hw214_1 GW215.out) _).trans (((cell_far (p := ⟨gb215, _, none⟩) (nf hw214_1 GW215.out) _).trans (((cell_far (p := ⟨gb215, _, none⟩) (nf hw214_1 GW215.out) _).trans (((cell_far (p := ⟨gb215, _, none⟩) (nf hw214_1 GW215.out) _).trans (hHeld.2.2.2.2.2.2.2.2.2.2.2.2.2.1)))))))))), ((cell_far (p := ⟨gb215, _, none⟩) (nf hw214_2 GW215.out) _).trans (((cell_far (p := ⟨gb215, _, none⟩) (nf hw214_2 GW215.out) _).trans (((cell_far (p := ⟨gb215, _, none⟩) (nf hw214_2 GW215.out) _).trans (((cell_far (p := ⟨gb215, _, none⟩) (nf hw214_2 GW215.out) _).trans (((cell_far (p := ⟨gb215, _, none⟩) (nf hw214_2 GW215.out) _).trans (hHeld.2.2.2.2.2.2.2.2.2.2.2.2.2.2.1)))))))))), ((cell_far (p := ⟨gb215, _, none⟩) (nf hw214_3 GW215.out) _).trans (((cell_far (p := ⟨gb215, _, none⟩) (nf hw214_3 GW215.out) _).trans (((cell_far (p := ⟨gb215, _, none⟩) (nf hw214_3 GW215.out) _).trans (((cell_far (p := ⟨gb215, _, none⟩) (nf hw214_3 GW215.out) _).trans (((cell_far (p := ⟨gb215, _, none⟩) (nf hw214_3 GW215.out) _).trans (hHeld.2.2.2.2.2.2.2.2.2.2.2.2.2.2.2))))))))))⟩ (fun hHeld => ?_)
        clear hK K
        refine done_ (done_of HT_.out (by kernel_rfl)) ?_
        have hnb43 := NB210_215.out
        have hnc43 := NB215_210.out
        have hcz44_0 : w37.cell? ⟨gb210, 0, none⟩ = some (.int .i64 ((rd_T52 l0 x5_1).f0)) := (blk_cell BK210.out 0).trans rfl
        have hcz44_1 : w37.cell? ⟨gb210, 1, none⟩ = some (.bool false) := (blk_cell BK210.out 1).trans rfl
        have hcz44_2 : w37.cell? ⟨gb210, 2, none⟩ = some (.int .i64 ((rd_T52 l0 x5_1).f1)) := (blk_cell BK210.out 2).trans rfl
        have hcz44_3 : w37.cell? ⟨gb210, 3, none⟩ = some (.string ((rd_T52 l0 x5_1).f2)) := (blk_cell BK210.out 3).trans rfl
        have hcz44_4 : w37.cell? ⟨gb210, 4, none⟩ = some (.slice A206_3 ((rd_T52 l0 x5_1).f3).length c206_3) := (blk_cell BK210.out 4).trans rfl
        have hfz44_0 := blk_frozen BK210.out 0
        have hfz44_1 := blk_frozen BK210.out 1
        have hfz44_2 := blk_frozen BK210.out 2
        have hfz44_3 := blk_frozen BK210.out 3
        have hfz44_4 := blk_frozen BK210.out 4
        have hcz45_0 : w37.cell? ⟨gb215, 0, none⟩ = some (.int .i64 0) := (blk_cell BK215.out 0).trans rfl
        have hcz45_1 : w37.cell? ⟨gb215, 1, none⟩ = some (.bool false) := (blk_cell BK215.out 1).trans rfl
        have hcz45_2 : w37.cell? ⟨gb215, 2, none⟩ = some (.int .i64 0) := (blk_cell BK215.out 2).trans rfl
        have hcz45_3 : w37.cell? ⟨gb215, 3, none⟩ = some (.string (⟨#[]⟩ : ByteArray)) := (blk_cell BK215.out 3).trans rfl
        have hcz45_4 : w37.cell? ⟨gb215, 4, none⟩ = some (.slice none 0 0) := (blk_cell BK215.out 4).trans rfl
        have hfz45_0 := blk_frozen BK215.out 0
        have hfz45_1 := blk_frozen BK215.out 1
        have hfz45_2 := blk_frozen BK215.out 2
        have hfz45_3 := blk_frozen BK215.out 3
        have hfz45_4 := blk_frozen BK215.out 4
        try go_wp2_with (first | ((with_reducible refine gate_callee (f := 14) rfl ?_); refine goesL_ (some 63) rfl rfl Tryd.func14 (by kernel_rfl) rfl #[.agg #[.int .i64 ((rd_T52 l0 x5_1).f0), .bool false, .int .i64 ((rd_T52 l0 x5_1).f1), .string ((rd_T52 l0 x5_1).f2), .slice A206_3 ((rd_T52 l0 x5_1).f3).length c206_3], .agg #[.int .i64 ((rd_T52 l1 x5_1).f0), .bool false, .int .i64 ((rd_T52 l1 x5_1).f1), .string ((rd_T52 l1 x5_1).f2), .slice A211_3 ((rd_T52 l1 x5_1).f3).length c211_3]] rfl gl ?_; (with_reducible refine (stowageref13_Same.calls k1 ((rd_T52 l0 x5_1).f0) false ((rd_T52 l0 x5_1).f1) ((rd_T52 l0 x5_1).f2) _ _ ((rd_T52 l0 x5_1).f3) ((rd_T52 l1 x5_1).f0) false ((rd_T52 l1 x5_1).f1) ((rd_T52 l1 x5_1).f2) _ _ ((rd_T52 l1 x5_1).f3) false _ ?side1 ?side2 ?side3 ?side4 A7.out).mono ?_); (case side1 => exact Kd.C_below HR209_3.out (bws HB.out)); (case side2 => exact HC209_3.out); (case side3 => exact Kd.C_below HR214_3.out (bws HB.out)); (case side4 => exact HC214_3.out); rintro e w46 ⟨rfl, hb⟩; refine ⟨_, rfl, ?_⟩; replace BK210 := Aside0.mk (blk_below (g := gb210) (o := .cells #[.int .i64 ((rd_T52 l0 x5_1).f0), .bool false, .int .i64 ((rd_T52 l0 x5_1).f1), .string ((rd_T52 l0 x5_1).f2), .slice A206_3 ((rd_T52 l0 x5_1).f3).length c206_3] 32 (0, 0)) (bkf BK210.out) hb); replace BK215 := Aside0.mk (blk_below (g := gb215) (o := .cells #[.int .i64 ((rd_T52 l1 x5_1).f0), .bool false, .int .i64 ((rd_T52 l1 x5_1).f1), .string ((rd_T52 l1 x5_1).f2), .slice A211_3 ((rd_T52 l1 x5_1).f3).length c211_3] 32 (0, 0)) (bkp BK215.out) hb); replace HB := Aside0.mk (below_step (bws HB.out) hb); (try clear hb); (try clear hb2); (try clear hk); (try clear hi)))
        go_ret
        exact ⟨by first | rfl | (simp [errW_none, errW_some] <;> rfl) | (simp [*, errW_none, errW_some] <;> rfl), by repeat (first | (with_reducible first | exact HB.out | apply below_alloc | apply pw_below_drewN | apply below_drew1 | refine below_set ?_ GE210.out | refine below_set ?_ GE215.out) | exact HB.out)⟩
      ·
       rw [if_neg c6] at H
       exact absurd H (by simp)
     ·
      rw [if_neg c5] at H
      exact absurd H (by simp)
    ·
     rw [if_neg c4] at H
     have c4b0 : decide (x5_1 < (l0.length : Int)) = false := decide_eq_false c4
     clear c4
     obtain rfl := Option.some.inj H
     go_wp2
     go_ret
     exact ⟨by first | rfl | (simp [errW_none, errW_some] <;> rfl) | (simp [*, errW_none, errW_some] <;> rfl), by repeat (first | (with_reducible first | exact HB.out | apply below_alloc | apply pw_below_drewN | apply below_drew1) | exact HB.out)⟩
 ·
  rw [if_neg c3] at H
  have c3b0 : ((l0.length : Int) == (l1.length : Int)) = false := beq_eq_false_iff_ne.mpr c3
  have c3b1 : ((l0.length : Int) != (l1.length : Int)) = true := bne_iff_ne.mpr c3
  have c3b2 : (l0.length == l1.length) = false := by first | simpa using c3 | (simp at c3 ⊢; omega)
  obtain rfl := Option.some.inj H
  go_enter Tryd.func17, Tryd.ntmps17
  go_wp2
  go_ret
  exact ⟨by first | rfl | (simp [errW_none, errW_some] <;> rfl) | (simp [*, errW_none, errW_some] <;> rfl), by repeat (first | (with_reducible first | exact HB.out | apply below_alloc | apply pw_below_drewN | apply below_drew1) | exact HB.out)⟩

end Go.Proofs.YtoiockmmlanimaaDoor.Oo
end
section
-- Written for this claim by hyb.py, a driver of this session's over the kit's printer.
namespace Go.Proofs.YtoiockmmlanimaaDoor.Oo
open Go.RowKit Go.Proofs.YtoiockmmlanimaaDoorW.PrintWords Go.Proofs.YtoiockmmlanimaaDoorW.PrintLast Go.Proofs.YtoiockmmlanimaaDoorW.PrintMore
attribute [local go_sem] max2_int min2_int max_two min_two max_three min_three max_four min_four   -- for this text's walks alone
set_option linter.unusedVariables false
set_option linter.unusedSimpArgs false

/-! ### stowagelaw14_PartsOrder: function 4 -/
mutual
def stowagelaw14_PartsOrder.l0 : Nat → List (S46) → Int → List (S46) → List (S46) → Int → Option (Bool)
 | 0, _, _, _, _, _ => none
 | k + 1, x0, x1, x5, x6, x7 => if x7 < (x0.length : Int) then (stowagelaw14_PartsOrder.j1 k x0 x1 x5 x6 x7 (decide (x7 < 40))) else (stowagelaw14_PartsOrder.j1 k x0 x1 x5 x6 x7 false)
def stowagelaw14_PartsOrder.j1 : Nat → List (S46) → Int → List (S46) → List (S46) → Int → Bool → Option (Bool)
 | 0, _, _, _, _, _, _ => none
 | k + 1, x0, x1, x5, x6, x7, x26 => if x26 = true then (if 0 ≤ x7 then (if x7 < (x0.length : Int) then ((parts_Put.f k x5 ((rd_T46 x0 x7).f0) ((rd_T46 x0 x7).f1) ((rd_T46 x0 x7).f2) ((rd_T46 x0 x7).f3)).bind fun bt219 => (if bt219.2 = 0 then (stowagelaw14_PartsOrder.l1 k x0 x1 bt219.1 x6 x7 ([] : List (S46)) 0) else (stowagelaw14_PartsOrder.l0 k x0 x1 x5 x6 (wrap64 (x7 + 1))))) else (none)) else (none)) else (stowagelaw14_PartsOrder.l2 k x1 x5 x6 ([] : List (S46)) 0)
def stowagelaw14_PartsOrder.l1 : Nat → List (S46) → Int → List (S46) → List (S46) → Int → List (S46) → Int → Option (Bool)
 | 0, _, _, _, _, _, _, _ => none
 | k + 1, x0, x1, x5, x6, x7, x10, x11 => if x11 < (x6.length : Int) then (if 0 ≤ x11 then (if 0 ≤ x7 then (if x7 < (x0.length : Int) then (if ((rd_T46 x6 x11).f0) = ((rd_T46 x0 x7).f0) then (stowagelaw14_PartsOrder.l1 k x0 x1 x5 x6 x7 x10 (wrap64 (x11 + 1))) else (if x10.length < 2513169434916 then (stowagelaw14_PartsOrder.l1 k x0 x1 x5 x6 x7 (x10 ++ [(⟨(rd_T46 x6 x11).f0, (rd_T46 x6 x11).f1, (rd_T46 x6 x11).f2, (rd_T46 x6 x11).f3⟩ : S46)]) (wrap64 (x11 + 1))) else (none))) else (none)) else (none)) else (none)) else (if 0 ≤ x7 then (if x7 < (x0.length : Int) then (if x10.length < 2513169434916 then (stowagelaw14_PartsOrder.l0 k x0 x1 x5 (x10 ++ [(⟨(rd_T46 x0 x7).f0, (rd_T46 x0 x7).f1, (rd_T46 x0 x7).f2, (rd_T46 x0 x7).f3⟩ : S46)]) (wrap64 (x7 + 1))) else (none)) else (none)) else (none))
def stowagelaw14_PartsOrder.l2 : Nat → Int → List (S46) → List (S46) → List (S46) → Int → Option (Bool)
 | 0, _, _, _, _, _ => none
 | k + 1, x1, x5, x6, x12, x13 => if x13 < (x6.length : Int) then (if (x6.length : Int) = 0 then (none) else (if 0 ≤ (Int.tmod (wrap64 (x13 + (Int.tmod (wrap64 ((Int.tmod x1 (x6.length : Int)) + (x6.length : Int))) (x6.length : Int)))) (x6.length : Int)) then (if (Int.tmod (wrap64 (x13 + (Int.tmod (wrap64 ((Int.tmod x1 (x6.length : Int)) + (x6.length : Int))) (x6.length : Int)))) (x6.length : Int)) < (x6.length : Int) then ((parts_Put.f k x12 ((rd_T46 x6 (Int.tmod (wrap64 (x13 + (Int.tmod (wrap64 ((Int.tmod x1 (x6.length : Int)) + (x6.length : Int))) (x6.length : Int)))) (x6.length : Int))).f0) ((rd_T46 x6 (Int.tmod (wrap64 (x13 + (Int.tmod (wrap64 ((Int.tmod x1 (x6.length : Int)) + (x6.length : Int))) (x6.length : Int)))) (x6.length : Int))).f1) ((rd_T46 x6 (Int.tmod (wrap64 (x13 + (Int.tmod (wrap64 ((Int.tmod x1 (x6.length : Int)) + (x6.length : Int))) (x6.length : Int)))) (x6.length : Int))).f2) ((rd_T46 x6 (Int.tmod (wrap64 (x13 + (Int.tmod (wrap64 ((Int.tmod x1 (x6.length : Int)) + (x6.length : Int))) (x6.length : Int)))) (x6.length : Int))).f3)).bind fun bt234 => (if bt234.2 = 0 then (stowagelaw14_PartsOrder.l2 k x1 x5 x6 bt234.1 (wrap64 (x13 + 1))) else (some false))) else (none)) else (none))) else ((stowagelaw14_Refs.f k x5).bind fun t238 => ((stowagelaw14_Refs.f k x12).bind fun t241 => ((stowageref14_Same.f k t238 t241).bind fun t244 => (some t244))))
end
def stowagelaw14_PartsOrder.f (k : Nat) (l0 : List (S46)) (a1 : Int) : Option (Bool) := (stowagelaw14_awake.f k).bind fun t217 => (if t217 = true then (stowagelaw14_PartsOrder.l0 k l0 a1 ([] : List (S46)) ([] : List (S46)) 0) else (some false))
theorem stowagelaw14_PartsOrder.mono_l : ∀ k, (∀ y0 y1 y2 y3 y4, LeO (stowagelaw14_PartsOrder.l0 k y0 y1 y2 y3 y4) (stowagelaw14_PartsOrder.l0 (k + 1) y0 y1 y2 y3 y4)) ∧ (∀ y0 y1 y2 y3 y4 y5, LeO (stowagelaw14_PartsOrder.j1 k y0 y1 y2 y3 y4 y5) (stowagelaw14_PartsOrder.j1 (k + 1) y0 y1 y2 y3 y4 y5)) ∧ (∀ y0 y1 y2 y3 y4 y5 y6, LeO (stowagelaw14_PartsOrder.l1 k y0 y1 y2 y3 y4 y5 y6) (stowagelaw14_PartsOrder.l1 (k + 1) y0 y1 y2 y3 y4 y5 y6)) ∧ (∀ y0 y1 y2 y3 y4, LeO (stowagelaw14_PartsOrder.l2 k y0 y1 y2 y3 y4) (stowagelaw14_PartsOrder.l2 (k + 1) y0 y1 y2 y3 y4))
 | 0 => ⟨fun _ _ _ _ _ r h => by simp [stowagelaw14_PartsOrder.l0] at h, fun _ _ _ _ _ _ r h => by simp [stowagelaw14_PartsOrder.j1] at h, fun _ _ _ _ _ _ _ r h => by simp [stowagelaw14_PartsOrder.l1] at h, fun _ _ _ _ _ r h => by simp [stowagelaw14_PartsOrder.l2] at h⟩
 | k + 1 => by
  obtain ⟨ih0, ih1, ih2, ih3⟩ := stowagelaw14_PartsOrder.mono_l k
  refine ⟨?_, ?_, ?_, ?_⟩
  ·
   intro y0 y1 y2 y3 y4
   unfold stowagelaw14_PartsOrder.l0
   repeat' first
   | (with_reducible exact ih0 _ _ _ _ _)
   | (with_reducible exact ih1 _ _ _ _ _ _)
   | (with_reducible exact ih2 _ _ _ _ _ _ _)
   | (with_reducible exact ih3 _ _ _ _ _)
   | (with_reducible exact parts_Put.mono _ _ _ _ _ _)
   | (with_reducible exact stowagelaw14_Refs.mono _ _)
   | (with_reducible exact stowagelaw14_awake.mono _)
   | (with_reducible exact stowageref14_Same.mono _ _ _)
   | (with_reducible exact LeO.refl _)
   | (with_reducible exact LeO.none _)
   | (with_reducible refine LeO.ite ?_ ?_)
   | (with_reducible refine LeO.bind ?_ (fun _ => ?_))
   | exact ih0 _ _ _ _ _
   | exact ih1 _ _ _ _ _ _
   | exact ih2 _ _ _ _ _ _ _
   | exact ih3 _ _ _ _ _
   | exact parts_Put.mono _ _ _ _ _ _
   | exact stowagelaw14_Refs.mono _ _
   | exact stowagelaw14_awake.mono _
   | exact stowageref14_Same.mono _ _ _
   | exact LeO.none _
   | refine LeO.ite ?_ ?_
   | refine LeO.bind ?_ (fun _ => ?_)
  ·
   intro y0 y1 y2 y3 y4 y5
   unfold stowagelaw14_PartsOrder.j1
   repeat' first
   | (with_reducible exact ih0 _ _ _ _ _)
   | (with_reducible exact ih1 _ _ _ _ _ _)
   | (with_reducible exact ih2 _ _ _ _ _ _ _)
   | (with_reducible exact ih3 _ _ _ _ _)
   | (with_reducible exact parts_Put.mono _ _ _ _ _ _)
   | (with_reducible exact stowagelaw14_Refs.mono _ _)
   | (with_reducible exact stowagelaw14_awake.mono _)
   | (with_reducible exact stowageref14_Same.mono _ _ _)
   | (with_reducible exact LeO.refl _)
   | (with_reducible exact LeO.none _)
   | (with_reducible refine LeO.ite ?_ ?_)
   | (with_reducible refine LeO.bind ?_ (fun _ => ?_))
   | exact ih0 _ _ _ _ _
   | exact ih1 _ _ _ _ _ _
   | exact ih2 _ _ _ _ _ _ _
   | exact ih3 _ _ _ _ _
   | exact parts_Put.mono _ _ _ _ _ _
   | exact stowagelaw14_Refs.mono _ _
   | exact stowagelaw14_awake.mono _
   | exact stowageref14_Same.mono _ _ _
   | exact LeO.none _
   | refine LeO.ite ?_ ?_
   | refine LeO.bind ?_ (fun _ => ?_)
  ·
   intro y0 y1 y2 y3 y4 y5 y6
   unfold stowagelaw14_PartsOrder.l1
   repeat' first
   | (with_reducible exact ih0 _ _ _ _ _)
   | (with_reducible exact ih1 _ _ _ _ _ _)
   | (with_reducible exact ih2 _ _ _ _ _ _ _)
   | (with_reducible exact ih3 _ _ _ _ _)
   | (with_reducible exact parts_Put.mono _ _ _ _ _ _)
   | (with_reducible exact stowagelaw14_Refs.mono _ _)
   | (with_reducible exact stowagelaw14_awake.mono _)
   | (with_reducible exact stowageref14_Same.mono _ _ _)
   | (with_reducible exact LeO.refl _)
   | (with_reducible exact LeO.none _)
   | (with_reducible refine LeO.ite ?_ ?_)
   | (with_reducible refine LeO.bind ?_ (fun _ => ?_))
   | exact ih0 _ _ _ _ _
   | exact ih1 _ _ _ _ _ _
   | exact ih2 _ _ _ _ _ _ _
   | exact ih3 _ _ _ _ _
   | exact parts_Put.mono _ _ _ _ _ _
   | exact stowagelaw14_Refs.mono _ _
   | exact stowagelaw14_awake.mono _
   | exact stowageref14_Same.mono _ _ _
   | exact LeO.none _
   | refine LeO.ite ?_ ?_
   | refine LeO.bind ?_ (fun _ => ?_)
  ·
   intro y0 y1 y2 y3 y4
   unfold stowagelaw14_PartsOrder.l2
   repeat' first
   | (with_reducible exact ih0 _ _ _ _ _)
   | (with_reducible exact ih1 _ _ _ _ _ _)
   | (with_reducible exact ih2 _ _ _ _ _ _ _)
   | (with_reducible exact ih3 _ _ _ _ _)
   | (with_reducible exact parts_Put.mono _ _ _ _ _ _)
   | (with_reducible exact stowagelaw14_Refs.mono _ _)
   | (with_reducible exact stowagelaw14_awake.mono _)
   | (with_reducible exact stowageref14_Same.mono _ _ _)
   | (with_reducible exact LeO.refl _)
   | (with_reducible exact LeO.none _)
   | (with_reducible refine LeO.ite ?_ ?_)
   | (with_reducible refine LeO.bind ?_ (fun _ => ?_))
   | exact ih0 _ _ _ _ _
   | exact ih1 _ _ _ _ _ _
   | exact ih2 _ _ _ _ _ _ _
   | exact ih3 _ _ _ _ _
   | exact parts_Put.mono _ _ _ _ _ _
   | exact stowagelaw14_Refs.mono _ _
   | exact stowagelaw14_awake.mono _
   | exact stowageref14_Same.mono _ _ _
   | exact LeO.none _
   | refine LeO.ite ?_ ?_
   | refine LeO.bind ?_ (fun _ => ?_)
theorem stowagelaw14_PartsOrder.mono : ∀ a0 a1 k, LeO (stowagelaw14_PartsOrder.f k a0 a1) (stowagelaw14_PartsOrder.f (k + 1) a0 a1) := by
 intro a0 a1 k
 obtain ⟨ih0, ih1, ih2, ih3⟩ := stowagelaw14_PartsOrder.mono_l k
 unfold stowagelaw14_PartsOrder.f
 repeat' first
   | (with_reducible exact ih0 _ _ _ _ _)
   | (with_reducible exact ih1 _ _ _ _ _ _)
   | (with_reducible exact ih2 _ _ _ _ _ _ _)
   | (with_reducible exact ih3 _ _ _ _ _)
   | (with_reducible exact parts_Put.mono _ _ _ _ _ _)
   | (with_reducible exact stowagelaw14_Refs.mono _ _)
   | (with_reducible exact stowagelaw14_awake.mono _)
   | (with_reducible exact stowageref14_Same.mono _ _ _)
   | (with_reducible exact LeO.refl _)
   | (with_reducible exact LeO.none _)
   | (with_reducible refine LeO.ite ?_ ?_)
   | (with_reducible refine LeO.bind ?_ (fun _ => ?_))
   | exact ih0 _ _ _ _ _
   | exact ih1 _ _ _ _ _ _
   | exact ih2 _ _ _ _ _ _ _
   | exact ih3 _ _ _ _ _
   | exact parts_Put.mono _ _ _ _ _ _
   | exact stowagelaw14_Refs.mono _ _
   | exact stowagelaw14_awake.mono _
   | exact stowageref14_Same.mono _ _ _
   | exact LeO.none _
   | refine LeO.ite ?_ ?_
   | refine LeO.bind ?_ (fun _ => ?_)

end Go.Proofs.YtoiockmmlanimaaDoor.Oo
end
section
/- Layer 14, the plain side: own copies, what is put, parts as the document has them. No program in sight. -/
namespace Go.Proofs.YtoiockmmlanimaaDoor.Pure
open Go.RowKit Go.Proofs.YtoiockmmlanimaaDoor.Oo Go.Proofs.YtoiockmmlanimaaDoorW.PrintWords Go.Proofs.YtoiockmmlanimaaDoorW.PrintLast Go.Proofs.YtoiockmmlanimaaDoorW.PrintMore
set_option linter.unusedVariables false
set_option linter.unusedSimpArgs false
/-! ### Own copies -/
theorem own_go (l : List Part) (hl : l.length ≤ 1048576) (hp : ∀ p ∈ l, p.f3.length ≤ 1048576) : ∀ n i k (acc : List Part), i + n = l.length → n < k → acc.length ≤ i → parts_own.l0 k acc l (l.length : Int) (i : Int) = some (acc ++ l.drop i) := by
  intro n
  induction n with
  | zero =>
    intro i k acc hi hk ha
    obtain ⟨k, rfl⟩ : ∃ j, k = j + 1 := ⟨k - 1, by omega⟩
    rw [parts_own.l0, if_neg (by omega), List.drop_of_length_le (by omega), List.append_nil]
  | succ n ih =>
    intro i k acc hi hk ha
    obtain ⟨k, rfl⟩ : ∃ j, k = j + 1 := ⟨k - 1, by omega⟩
    have hc : api_Piece.f (rdP l i).f3 = some (rdP l i).f3 := by
      unfold api_Piece.f
      rw [if_pos (by have := hp _ (memP l i (by omega)); omega)]
    rw [parts_own.l0, if_pos (by omega), if_pos (by omega), if_pos (by omega)]
    show (api_Piece.f (rdP l i).f3).bind _ = _
    rw [hc, Option.bind_some, if_pos (by omega), w1 i (by omega), ih (i + 1) k _ (by omega) (by omega) (by rw [List.length_append, List.length_singleton]; omega), dropP l i (by omega), List.append_assoc]
    rfl
theorem own_eq (l : List Part) (hl : l.length ≤ 1048576) (hp : ∀ p ∈ l, p.f3.length ≤ 1048576) (k : Nat) (hk : 1048577 ≤ k) : parts_own.f k l = some l := by
  unfold parts_own.f
  exact (own_go l hl hp l.length 0 k [] (by omega) (by omega) (Nat.le_refl _)).trans rfl
/-! ### The search, with the place -/
theorem rd_get (l : List Part) (q : Nat) (hq : q < l.length) : rdP l q = l[q] := by
  show l.getD (q : Int).toNat _ = _
  rw [Int.toNat_natCast, List.getD_eq_getElem?_getD, List.getElem?_eq_getElem hq]
  rfl
theorem find_at (l : List Part) (h : Good l) (t : Int) (h1 : 1 ≤ t) (h2 : t ≤ 100) : ∃ R, R ≤ l.length ∧ (∀ m, m < R → (rdP l m).f0 < t) ∧ (∀ m, R ≤ m → m < l.length → t ≤ (rdP l m).f0) ∧ parts_find.f l t = some ((R : Int), decide (R < l.length ∧ (rdP l R).f0 = t)) := by
  have hll := h.small.len
  obtain ⟨b1, b2, b3⟩ := bs_spec l h t h1 h2 l.length 0 l.length (Nat.zero_le _) (Nat.le_refl _) (Nat.le_refl _) (fun q hq => absurd hq (Nat.not_lt_zero _)) (fun q hq hq2 => absurd hq (by omega))
  obtain ⟨R, hR⟩ : ∃ R, parts_find_bs l t l.length 0 l.length = R := ⟨_, rfl⟩
  rw [hR] at b1 b2 b3
  refine ⟨R, b1, b2, b3, ?_⟩
  unfold parts_find.f
  rw [if_pos (by omega), hR]
  congr 2
  by_cases hl : R < l.length
  · have hc := chk_parts (h.chk _ (memP l R hl))
    rw [decide_eq_true hl, Bool.true_and]
    show (wrap64 ((rdP l R).f0 - t) == 0) = _
    rw [IntWalk.wrap64_in _ (by omega)]
    by_cases he : (rdP l R).f0 = t
    · rw [he, Int.sub_self, decide_eq_true ⟨hl, rfl⟩]
      rfl
    · rw [decide_eq_false (fun hh => he hh.2)]
      simp
      omega
  · rw [decide_eq_false hl, Bool.false_and, decide_eq_false (fun hh => hl hh.1)]
/-! ### What is put -/
def ins (l : List Part) (p : Part) : List Part := l.filter (fun q => decide (q.f0 < p.f0)) ++ p :: l.filter (fun q => decide (p.f0 < q.f0))
theorem rB_of : ∀ (l : List Part) (o : Option Int), (∀ p ∈ l, chk p = true) → l.Pairwise (fun x y => x.f0 < y.f0) → (∀ n, o = some n → ∀ p ∈ l, n < p.f0) → rB o l = true
  | [], _, _, _, _ => rfl
  | p :: r, o, h1, h2, h3 => by
    rw [List.pairwise_cons] at h2
    rw [rB, h1 p List.mem_cons_self, rB_of r (some p.f0) (fun q hq => h1 q (List.mem_cons_of_mem _ hq)) h2.2 (fun n hn q hq => by cases hn; exact h2.1 q hq)]
    cases o with
    | none => rfl
    | some n => simp [okN, h3 n rfl p List.mem_cons_self]
theorem Good.right {l : List Part} (h : Good l) : rB none l = true := rB_of l none h.chk h.asc (fun n hn => by cases hn)
theorem filter_lo (l : List Part) (t : Int) (R : Nat) (hR : R ≤ l.length) (b2 : ∀ m, m < R → (rdP l m).f0 < t) (b3 : ∀ m, R ≤ m → m < l.length → t ≤ (rdP l m).f0) : l.filter (fun q => decide (q.f0 < t)) = l.take R := by
  have e1 : (l.take R).filter (fun q => decide (q.f0 < t)) = l.take R := List.filter_eq_self.2 fun x hx => by
    obtain ⟨m, hm, e⟩ := List.getElem_of_mem hx
    rw [List.length_take] at hm
    rw [List.getElem_take, ← rd_get l m (by omega)] at e
    have := b2 m (by omega)
    rw [e] at this
    exact decide_eq_true this
  have e2 : (l.drop R).filter (fun q => decide (q.f0 < t)) = [] := List.filter_eq_nil_iff.2 fun x hx => by
    obtain ⟨m, hm, e⟩ := List.getElem_of_mem hx
    rw [List.length_drop] at hm
    rw [List.getElem_drop, ← rd_get l (R + m) (by omega)] at e
    have := b3 (R + m) (by omega) (by omega)
    rw [e] at this
    simp
    exact this
  conv => lhs; rw [← List.take_append_drop R l]
  rw [List.filter_append, e1, e2, List.append_nil]
theorem filter_hi (l : List Part) (t : Int) (R : Nat) (hR : R ≤ l.length) (b2 : ∀ m, m < R → (rdP l m).f0 ≤ t) (b3 : ∀ m, R ≤ m → m < l.length → t < (rdP l m).f0) : l.filter (fun q => decide (t < q.f0)) = l.drop R := by
  have e1 : (l.take R).filter (fun q => decide (t < q.f0)) = [] := List.filter_eq_nil_iff.2 fun x hx => by
    obtain ⟨m, hm, e⟩ := List.getElem_of_mem hx
    rw [List.length_take] at hm
    rw [List.getElem_take, ← rd_get l m (by omega)] at e
    have := b2 m (by omega)
    rw [e] at this
    simp
    exact this
  have e2 : (l.drop R).filter (fun q => decide (t < q.f0)) = l.drop R := List.filter_eq_self.2 fun x hx => by
    obtain ⟨m, hm, e⟩ := List.getElem_of_mem hx
    rw [List.length_drop] at hm
    rw [List.getElem_drop, ← rd_get l (R + m) (by omega)] at e
    have := b3 (R + m) (by omega) (by omega)
    rw [e] at this
    exact decide_eq_true this
  conv => lhs; rw [← List.take_append_drop R l]
  rw [List.filter_append, e1, e2, List.nil_append]
theorem put_eq (l : List Part) (h : Good l) (hl : l.length ≤ 100000) (p : Part) (hp : SmallPart p) (hc : chk p = true) (k : Nat) (hk : 2300000 ≤ k) : parts_Put.f k l p.f0 p.f1 p.f2 p.f3 = some (ins l p, 0) := by
  have hcp := chk_parts hc
  obtain ⟨R, b1, b2, b3, hf⟩ := find_at l h p.f0 hcp.1 hcp.2.1
  unfold parts_Put.f
  rw [right_eq l h.small k (by omega), h.right, Option.bind_some, if_pos rfl, check_eq p hp k (by omega), hc, if_pos rfl, Option.bind_some, if_pos rfl,
    own_eq l h.small.len (fun q hq => (h.small.each q hq).len) k (by omega), Option.bind_some, own_eq [(⟨p.f0, p.f1, p.f2, p.f3⟩ : Part)] (by show (1 : Nat) ≤ 1048576; decide) (fun q hq => by
      rw [List.mem_singleton] at hq
      subst hq
      exact hp.len) k (by omega), Option.bind_some, if_pos (show 0 < [(⟨p.f0, p.f1, p.f2, p.f3⟩ : Part)].length from Nat.zero_lt_one), hf, Option.bind_some]
  show parts_Put_put l p (R : Int) (decide (R < l.length ∧ (rdP l R).f0 = p.f0)) = _
  unfold parts_Put_put ins
  by_cases hr : R < l.length ∧ (rdP l R).f0 = p.f0
  · obtain ⟨h1, h2⟩ := hr
    rw [decide_eq_true ⟨h1, h2⟩, if_pos rfl, if_pos (by omega), Int.toNat_natCast, filter_lo l p.f0 R b1 b2 b3, filter_hi l p.f0 (R + 1) (by omega) (fun m hm => by
      rcases Nat.lt_or_ge m R with h3 | h3
      · have := b2 m h3; omega
      · obtain rfl : m = R := by omega
        omega) (fun m hm hm2 => by have := h.lt R m (by omega) hm2; omega), List.set_eq_take_append_cons_drop, if_pos h1]
  · have h3 : ∀ m, R ≤ m → m < l.length → p.f0 < (rdP l m).f0 := fun m hm hm2 => by
      have h4 := b3 m hm hm2
      by_cases he : (rdP l m).f0 = p.f0
      · rcases Nat.eq_or_lt_of_le hm with rfl | hlt
        · exact absurd ⟨hm2, he⟩ hr
        · have := h.lt R m hlt hm2
          have := b3 R (Nat.le_refl _) (by omega)
          omega
      · omega
    rw [decide_eq_false hr, if_neg (by decide), if_pos (by omega), Int.toNat_natCast, filter_lo l p.f0 R b1 b2 b3, filter_hi l p.f0 R b1 (fun m hm => by have := b2 m hm; omega) h3]
theorem put_no (l : List Part) (h : Good l) (p : Part) (hp : SmallPart p) (hc : chk p = false) (k : Nat) (hk : 2300000 ≤ k) : parts_Put.f k l p.f0 p.f1 p.f2 p.f3 = some ([], 1) := by
  unfold parts_Put.f
  rw [right_eq l h.small k (by omega), h.right, Option.bind_some, if_pos rfl, check_eq p hp k (by omega), hc, if_neg (by decide), Option.bind_some, if_neg (by decide)]
theorem mem_ins (l : List Part) (p x : Part) : x ∈ ins l p ↔ x = p ∨ (x ∈ l ∧ x.f0 ≠ p.f0) := by
  unfold ins
  rw [List.mem_append, List.mem_cons, List.mem_filter, List.mem_filter, decide_eq_true_eq, decide_eq_true_eq]
  constructor
  · rintro (⟨h1, h2⟩ | rfl | ⟨h1, h2⟩)
    · exact .inr ⟨h1, by omega⟩
    · exact .inl rfl
    · exact .inr ⟨h1, by omega⟩
  · rintro (rfl | ⟨h1, h2⟩)
    · exact .inr (.inl rfl)
    · rcases Int.lt_or_gt_of_ne h2 with h3 | h3
      · exact .inl ⟨h1, h3⟩
      · exact .inr (.inr ⟨h1, h3⟩)
theorem two_filters (t : Int) : ∀ l : List Part, (l.filter (fun q => decide (q.f0 < t))).length + (l.filter (fun q => decide (t < q.f0))).length ≤ l.length
  | [] => Nat.le_refl _
  | p :: l => by
    have := two_filters t l
    rw [List.filter_cons, List.filter_cons, List.length_cons]
    by_cases h1 : p.f0 < t
    · rw [if_pos (decide_eq_true h1), if_neg (by simp; omega), List.length_cons]; omega
    · rw [if_neg (by simpa using h1)]
      split
      · rw [List.length_cons]; omega
      · omega
theorem len_ins (l : List Part) (p : Part) : (ins l p).length ≤ l.length + 1 := by
  have := two_filters p.f0 l
  unfold ins
  rw [List.length_append, List.length_cons]
  omega
theorem good_ins (l : List Part) (h : Good l) (hl : l.length ≤ 100000) (p : Part) (hp : SmallPart p) (hc : chk p = true) : Good (ins l p) := by
  have hlen := len_ins l p
  refine ⟨⟨by omega, fun x hx => ?_⟩, fun x hx => ?_, ?_⟩
  · rcases (mem_ins l p x).1 hx with rfl | h1
    · exact hp
    · exact h.small.each x h1.1
  · rcases (mem_ins l p x).1 hx with rfl | h1
    · exact hc
    · exact h.chk x h1.1
  · unfold ins
    rw [List.pairwise_append, List.pairwise_cons]
    refine ⟨h.asc.filter _, ⟨fun x hx => ?_, h.asc.filter _⟩, fun x hx y hy => ?_⟩
    · simpa using (List.mem_filter.1 hx).2
    · have h1 : x.f0 < p.f0 := by simpa using (List.mem_filter.1 hx).2
      rcases List.mem_cons.1 hy with rfl | hy
      · exact h1
      · have h2 : p.f0 < y.f0 := by simpa using (List.mem_filter.1 hy).2
        omega
theorem good_nil : Good ([] : List Part) := ⟨⟨by decide, fun x hx => (by cases hx)⟩, fun x hx => (by cases hx), List.Pairwise.nil⟩
/-! ### Parts as the document has them -/
abbrev RPiece := S85
abbrev RPart := S52
def refC (c : Piece) : RPiece := ⟨c.f0, c.f1⟩
def refP (p : Part) : RPart := ⟨p.f0, p.f1, p.f2, p.f3.map refC⟩
theorem piece_go (l : List Piece) (hl : l.length ≤ 1048576) : ∀ n i k (acc : List RPiece), i + n = l.length → n < k → acc.length ≤ i → stowagelaw13_Piece.l0 k l acc (i : Int) = some (acc ++ (l.drop i).map refC) := by
  intro n
  induction n with
  | zero =>
    intro i k acc hi hk ha
    obtain ⟨k, rfl⟩ : ∃ j, k = j + 1 := ⟨k - 1, by omega⟩
    rw [stowagelaw13_Piece.l0, if_neg (by omega), List.drop_of_length_le (by omega), List.map_nil, List.append_nil]
  | succ n ih =>
    intro i k acc hi hk ha
    obtain ⟨k, rfl⟩ : ∃ j, k = j + 1 := ⟨k - 1, by omega⟩
    rw [stowagelaw13_Piece.l0, if_pos (by omega), if_pos (by omega), if_pos (by omega), w1 i (by omega), ih (i + 1) k _ (by omega) (by omega) (by rw [List.length_append, List.length_singleton]; omega), dropC l i (by omega), List.map_cons, List.append_assoc]
    rfl
theorem piece_eq (l : List Piece) (hl : l.length ≤ 1048576) (k : Nat) (hk : 1048577 ≤ k) : stowagelaw13_Piece.f k l = some (l.map refC) := by
  unfold stowagelaw13_Piece.f
  exact (piece_go l hl l.length 0 k [] (by omega) (by omega) (Nat.le_refl _)).trans rfl
theorem refs_go (l : List Part) (hl : l.length ≤ 1048576) (hp : ∀ p ∈ l, p.f3.length ≤ 1048576) : ∀ n i k (acc : List RPart), i + n = l.length → n + 1048577 < k → acc.length ≤ i → stowagelaw14_Refs.l0 k l acc (i : Int) = some (acc ++ (l.drop i).map refP) := by
  intro n
  induction n with
  | zero =>
    intro i k acc hi hk ha
    obtain ⟨k, rfl⟩ : ∃ j, k = j + 1 := ⟨k - 1, by omega⟩
    rw [stowagelaw14_Refs.l0, if_neg (by omega), List.drop_of_length_le (by omega), List.map_nil, List.append_nil]
  | succ n ih =>
    intro i k acc hi hk ha
    obtain ⟨k, rfl⟩ : ∃ j, k = j + 1 := ⟨k - 1, by omega⟩
    rw [stowagelaw14_Refs.l0, if_pos (by omega), if_pos (by omega)]
    show (stowagelaw13_Piece.f k (rdP l i).f3).bind _ = _
    rw [piece_eq _ (hp _ (memP l i (by omega))) k (by omega), Option.bind_some, if_pos (by omega), w1 i (by omega), ih (i + 1) k _ (by omega) (by omega) (by rw [List.length_append, List.length_singleton]; omega), dropP l i (by omega), List.map_cons, List.append_assoc]
    rfl
theorem refs_eq (l : List Part) (hl : l.length ≤ 1048576) (hp : ∀ p ∈ l, p.f3.length ≤ 1048576) (k : Nat) (hk : 2200000 ≤ k) : stowagelaw14_Refs.f k l = some (l.map refP) := by
  unfold stowagelaw14_Refs.f
  exact (refs_go l hl hp l.length 0 k [] (by omega) (by omega) (Nat.le_refl _)).trans rfl
/-! ### The same is the same -/
theorem same13_go (a : Int) (b : Bool) (c : Int) (s : ByteArray) (l : List RPiece) (hl : l.length ≤ 1048576) : ∀ n i k, i + n = l.length → n < k → stowageref13_Same.l0 k (i : Int) a b c s l a b c s l = some true := by
  intro n
  induction n with
  | zero =>
    intro i k hi hk
    obtain ⟨k, rfl⟩ : ∃ j, k = j + 1 := ⟨k - 1, by omega⟩
    rw [stowageref13_Same.l0, if_neg (by omega)]
  | succ n ih =>
    intro i k hi hk
    obtain ⟨k, rfl⟩ : ∃ j, k = j + 1 := ⟨k - 1, by omega⟩
    rw [stowageref13_Same.l0, if_pos (by omega), if_pos (by omega), if_pos (by omega), if_neg (by simp), w1 i (by omega)]
    exact ih (i + 1) k (by omega) (by omega)
theorem same13_eq (a : Int) (b : Bool) (c : Int) (s : ByteArray) (l : List RPiece) (hl : l.length ≤ 1048576) (k : Nat) (hk : 1048578 ≤ k) : stowageref13_Same.f k a b c s l a b c s l = some true := by
  obtain ⟨k, rfl⟩ : ∃ j, k = j + 1 := ⟨k - 1, by omega⟩
  rw [stowageref13_Same.f, if_pos rfl, if_neg (by simp), if_pos rfl, if_pos rfl, stowageref13_Same.j0, if_neg (by simp)]
  exact same13_go a b c s l hl l.length 0 k (by omega) (by omega)
theorem same_go (l : List RPart) (hl : l.length ≤ 1048576) (hp : ∀ p ∈ l, p.f3.length ≤ 1048576) : ∀ n i k, i + n = l.length → n + 1048578 < k → stowageref14_Same.l0 k l l (i : Int) = some true := by
  intro n
  induction n with
  | zero =>
    intro i k hi hk
    obtain ⟨k, rfl⟩ : ∃ j, k = j + 1 := ⟨k - 1, by omega⟩
    rw [stowageref14_Same.l0, if_neg (by omega)]
  | succ n ih =>
    intro i k hi hk
    obtain ⟨k, rfl⟩ : ∃ j, k = j + 1 := ⟨k - 1, by omega⟩
    have hm : rd_T52 l (i : Int) ∈ l := by
      have e : rd_T52 l (i : Int) = l[i]'(by omega) := by
        show l.getD (i : Int).toNat _ = _
        rw [Int.toNat_natCast, List.getD_eq_getElem?_getD, List.getElem?_eq_getElem (by omega)]
        rfl
      rw [e]
      exact List.getElem_mem _
    rw [stowageref14_Same.l0, if_pos (by omega), if_pos (by omega), if_pos (by omega), same13_eq _ _ _ _ _ (hp _ hm) k (by omega), Option.bind_some, if_pos rfl, w1 i (by omega)]
    exact ih (i + 1) k (by omega) (by omega)
theorem same_eq (l : List RPart) (hl : l.length ≤ 1048576) (hp : ∀ p ∈ l, p.f3.length ≤ 1048576) (k : Nat) (hk : 2200000 ≤ k) : stowageref14_Same.f k l l = some true := by
  rw [stowageref14_Same.f, if_pos rfl]
  exact same_go l hl hp l.length 0 k (by omega) (by omega)
end Go.Proofs.YtoiockmmlanimaaDoor.Pure
end
section
/- PartsOrder, the plain side: the order in which parts come does not matter. No program in sight. -/
namespace Go.Proofs.YtoiockmmlanimaaDoor.Pure
open Go.RowKit Go.Proofs.YtoiockmmlanimaaDoor.Oo Go.Proofs.YtoiockmmlanimaaDoorW.PrintWords Go.Proofs.YtoiockmmlanimaaDoorW.PrintLast Go.Proofs.YtoiockmmlanimaaDoorW.PrintMore
set_option linter.unusedVariables false
set_option linter.unusedSimpArgs false
theorem eq_of_mem : ∀ a b : List Part, a.Pairwise (fun x y => x.f0 < y.f0) → b.Pairwise (fun x y => x.f0 < y.f0) → (∀ x, x ∈ a ↔ x ∈ b) → a = b
  | [], [], _, _, _ => rfl
  | [], y :: b, _, _, h => absurd ((h y).2 List.mem_cons_self) (by simp)
  | x :: a, [], _, _, h => absurd ((h x).1 List.mem_cons_self) (by simp)
  | x :: a, y :: b, ha, hb, h => by
    rw [List.pairwise_cons] at ha hb
    have hxy : x = y := by
      rcases List.mem_cons.1 ((h x).1 List.mem_cons_self) with h1 | h1
      · exact h1
      · rcases List.mem_cons.1 ((h y).2 List.mem_cons_self) with h2 | h2
        · exact h2.symm
        · have h3 := hb.1 x h1
          have h4 := ha.1 y h2
          omega
    subst hxy
    rw [eq_of_mem a b ha.2 hb.2 fun z => ?_]
    constructor
    · intro hz
      rcases List.mem_cons.1 ((h z).1 (List.mem_cons_of_mem _ hz)) with h1 | h1
      · subst h1
        have := ha.1 z hz
        omega
      · exact h1
    · intro hz
      rcases List.mem_cons.1 ((h z).2 (List.mem_cons_of_mem _ hz)) with h1 | h1
      · subst h1
        have := hb.1 z hz
        omega
      · exact h1
/-- What counts, behind so many parts. -/
structure Inv (i : Nat) (a last : List Part) : Prop where
  good : Good a
  alen : a.length ≤ i
  llen : last.length ≤ i
  mem : ∀ x, x ∈ last ↔ x ∈ a
  apart : last.Pairwise (fun x y => x.f0 ≠ y.f0)
def nxt (last : List Part) (p : Part) : List Part := last.filter (fun q => !decide (q.f0 = p.f0)) ++ [p]
theorem Inv.step {i : Nat} {a last : List Part} (h : Inv i a last) (hi : i ≤ 40) (p : Part) (hp : SmallPart p) (hc : chk p = true) : Inv (i + 1) (ins a p) (nxt last p) := by
  have h1 := h.alen
  have h2 := h.llen
  refine ⟨good_ins a h.good (by omega) p hp hc, by have := len_ins a p; omega, ?_, fun x => ?_, ?_⟩
  · unfold nxt
    have := List.length_filter_le (fun q : Part => !decide (q.f0 = p.f0)) last
    rw [List.length_append, List.length_singleton]
    omega
  · unfold nxt
    rw [mem_ins, List.mem_append, List.mem_singleton, List.mem_filter, h.mem x]
    simp
    constructor
    · rintro (h3 | h3)
      · exact .inr h3
      · exact .inl h3
    · rintro (h3 | h3)
      · exact .inr h3
      · exact .inl h3
  · unfold nxt
    rw [List.pairwise_append]
    refine ⟨h.apart.filter _, List.pairwise_singleton _ _, fun x hx y hy => ?_⟩
    rw [List.mem_singleton] at hy
    subst hy
    have := (List.mem_filter.1 hx).2
    simpa using this
theorem Inv.mono {i : Nat} {a last : List Part} (h : Inv i a last) : Inv (i + 1) a last := ⟨h.good, by have := h.alen; omega, by have := h.llen; omega, h.mem, h.apart⟩
/-- Those that counted, but one number's. -/
theorem rest_go (l : List Part) (turn : Int) (a last : List Part) (i : Nat) (hi : i < l.length) (hl : last.length ≤ 40) : ∀ n j k (acc : List Part), j + n = last.length → acc.length ≤ j →
    stowagelaw14_PartsOrder.l1 (n + 1 + k) l turn a last (i : Int) acc (j : Int) = stowagelaw14_PartsOrder.l0 k l turn a (acc ++ nxt (last.drop j) (rdP l i)) (wrap64 ((i : Int) + 1)) := by
  intro n
  induction n with
  | zero =>
    intro j k acc hj ha
    rw [show 0 + 1 + k = k + 1 by omega, stowagelaw14_PartsOrder.l1, if_neg (by omega), if_pos (by omega), if_pos (by omega), if_pos (by omega), List.drop_of_length_le (by omega)]
    rfl
  | succ n ih =>
    intro j k acc hj ha
    rw [show n + 1 + 1 + k = (n + 1 + k) + 1 by omega, stowagelaw14_PartsOrder.l1, if_pos (by omega), if_pos (by omega), if_pos (by omega), if_pos (by omega), w1 j (by omega)]
    have hd : nxt (last.drop j) (rdP l i) = (if (rdP last j).f0 = (rdP l i).f0 then [] else [rdP last j]) ++ nxt (last.drop (j + 1)) (rdP l i) := by
      unfold nxt
      rw [dropP last j (by omega), List.filter_cons]
      by_cases he : (rdP last j).f0 = (rdP l i).f0
      · rw [if_pos he, decide_eq_true he]
        rfl
      · rw [if_neg he, decide_eq_false he]
        rfl
    rw [hd]
    show (if (rdP last j).f0 = (rdP l i).f0 then _ else _) = _
    by_cases he : (rdP last j).f0 = (rdP l i).f0
    · rw [if_pos he, if_pos he, ih (j + 1) k acc (by omega) (by omega)]
      rfl
    · rw [if_neg he, if_neg he, if_pos (by omega)]
      show stowagelaw14_PartsOrder.l1 (n + 1 + k) l turn a last (i : Int) (acc ++ [rdP last j]) ((j + 1 : Nat) : Int) = _
      rw [ih (j + 1) k (acc ++ [rdP last j]) (by omega) (by rw [List.length_append, List.length_singleton]; omega), List.append_assoc]
/-- Put anew, in whatever turn. -/
structure Inv2 (last : List Part) (c i : Nat) (b : List Part) : Prop where
  good : Good b
  blen : b.length ≤ i
  mem : ∀ x, x ∈ b ↔ ∃ j, j < i ∧ x = rdP last ((j + c) % last.length)
theorem turn_go (turn : Int) (a last : List Part) (h : Inv 40 a last) (c : Nat) (hc : c < last.length ∨ last.length = 0)
    (hX : Int.tmod (wrap64 ((Int.tmod turn (last.length : Int)) + (last.length : Int))) (last.length : Int) = (c : Int) ∨ last.length = 0) : ∀ n i k (b : List Part), i + n = last.length → 3000000 + n ≤ k → Inv2 last c i b → stowagelaw14_PartsOrder.l2 k turn a last b (i : Int) = some true := by
  have hL := h.llen
  have hA := h.alen
  intro n
  induction n with
  | zero =>
    intro i k b hi hk hb
    obtain ⟨k, rfl⟩ : ∃ j, k = j + 1 := ⟨k - 1, by omega⟩
    obtain rfl : i = last.length := by omega
    have hB := hb.blen
    have hab : a = b := eq_of_mem a b h.good.asc hb.good.asc fun x => by
      rw [← h.mem x, hb.mem x]
      constructor
      · intro hx
        obtain ⟨q, hq, e⟩ := List.getElem_of_mem hx
        rw [← rd_get last q hq] at e
        have hc' : c < last.length := hc.resolve_right (by omega)
        refine ⟨(q + last.length - c) % last.length, Nat.mod_lt _ (by omega), ?_⟩
        rw [Nat.mod_add_mod, show q + last.length - c + c = q + last.length by omega, Nat.add_mod_right, Nat.mod_eq_of_lt hq]
        exact e.symm
      · rintro ⟨j, hj, rfl⟩
        exact memP last _ (Nat.mod_lt _ (by omega))
    subst hab
    have hl1 := h.good.small.len
    have hl2 := fun p hp => (h.good.small.each p hp).len
    rw [stowagelaw14_PartsOrder.l2, if_neg (by omega), refs_eq a hl1 hl2 k (by omega), Option.bind_some, Option.bind_some, same_eq (a.map refP) (by rw [List.length_map]; exact hl1) (fun p hp => by
      obtain ⟨q, hq, rfl⟩ := List.mem_map.1 hp
      show ((q.f3.map refC).length ≤ _)
      rw [List.length_map]
      exact hl2 q hq) k (by omega), Option.bind_some]
  | succ n ih =>
    intro i k b hi hk hb
    obtain ⟨k, rfl⟩ : ∃ j, k = j + 1 := ⟨k - 1, by omega⟩
    have hB := hb.blen
    have hc' : c < last.length := hc.resolve_right (by omega)
    have hX' := hX.resolve_right (by omega)
    have hY : Int.tmod (wrap64 ((i : Int) + (c : Int))) (last.length : Int) = (((i + c) % last.length : Nat) : Int) := by
      rw [IntWalk.wrap64_in _ (by omega), Int.tmod_eq_emod_of_nonneg (by omega)]
      exact (Int.natCast_emod (i + c) last.length).symm
    have hlt : (i + c) % last.length < last.length := Nat.mod_lt _ (by omega)
    rw [stowagelaw14_PartsOrder.l2, if_pos (by omega), if_neg (by omega), hX', hY, if_pos (by omega), if_pos (by omega)]
    obtain ⟨x, hx⟩ : ∃ x, rdP last ((i + c) % last.length) = x := ⟨_, rfl⟩
    have hxm : x ∈ a := (h.mem x).1 (hx ▸ memP last _ hlt)
    show (parts_Put.f k b (rdP last ((i + c) % last.length)).f0 (rdP last ((i + c) % last.length)).f1 (rdP last ((i + c) % last.length)).f2 (rdP last ((i + c) % last.length)).f3).bind _ = _
    rw [hx, put_eq b hb.good (by omega) x (h.good.small.each x hxm) (h.good.chk x hxm) k (by omega), Option.bind_some, if_pos rfl, w1 i (by omega)]
    refine ih (i + 1) k (ins b x) (by omega) (by omega) ⟨good_ins b hb.good (by omega) x (h.good.small.each x hxm) (h.good.chk x hxm), by have := len_ins b x; omega, fun y => ?_⟩
    rw [mem_ins, hb.mem y]
    constructor
    · rintro (rfl | ⟨⟨j, hj, rfl⟩, _⟩)
      · exact ⟨i, by omega, hx.symm⟩
      · exact ⟨j, by omega, rfl⟩
    · rintro ⟨j, hj, rfl⟩
      rcases Nat.lt_or_ge j i with h1 | h1
      · refine .inr ⟨⟨j, h1, rfl⟩, ?_⟩
        have hlj : (j + c) % last.length < last.length := Nat.mod_lt _ (by omega)
        have hne : (j + c) % last.length ≠ (i + c) % last.length := by
          intro e
          have e1 := Nat.div_add_mod (j + c) last.length
          have e2 := Nat.div_add_mod (i + c) last.length
          rw [e] at e1
          have h5 : (j + c) / last.length ≤ (i + c) / last.length := Nat.div_le_div_right (by omega)
          obtain ⟨d, hd⟩ := Nat.exists_eq_add_of_le h5
          rw [hd, Nat.mul_add] at e2
          have : i - j = last.length * d := by omega
          rcases Nat.eq_zero_or_pos d with rfl | hd0
          · omega
          · have := Nat.le_mul_of_pos_right last.length hd0
            omega
        rw [← hx, rd_get last _ hlj, rd_get last _ hlt]
        have hp := List.pairwise_iff_getElem.1 h.apart
        rcases Nat.lt_or_gt_of_ne hne with h6 | h6
        · exact hp _ _ hlj hlt h6
        · exact fun e => hp _ _ hlt hlj h6 e.symm
      · obtain rfl : j = i := by omega
        exact .inl hx
theorem turn_eq (turn : Int) (a last : List Part) (h : Inv 40 a last) (k : Nat) (hk : 3000050 ≤ k) : stowagelaw14_PartsOrder.l2 k turn a last [] 0 = some true := by
  have hL := h.llen
  have hb : ∀ c, Inv2 last c 0 [] := fun c => ⟨good_nil, Nat.le_refl _, fun x => ⟨fun hx => (by cases hx), fun ⟨j, hj, _⟩ => absurd hj (Nat.not_lt_zero _)⟩⟩
  by_cases h0 : last.length = 0
  · exact turn_go turn a last h 0 (.inr h0) (.inr h0) last.length 0 k [] (by omega) (by omega) (hb 0)
  · have hp : (0 : Int) < (last.length : Int) := by omega
    have h1 := Int.tmod_lt_of_pos turn hp
    have h2 : -(last.length : Int) < Int.tmod turn (last.length : Int) := by
      have := Int.lt_tmod_of_pos turn hp
      omega
    have h3 : 0 ≤ Int.tmod (wrap64 (Int.tmod turn (last.length : Int) + (last.length : Int))) (last.length : Int) := by
      rw [IntWalk.wrap64_in _ (by omega)]
      exact Int.tmod_nonneg _ (by omega)
    have h4 := Int.tmod_lt_of_pos (wrap64 (Int.tmod turn (last.length : Int) + (last.length : Int))) hp
    obtain ⟨c, hc⟩ := Int.eq_ofNat_of_zero_le h3
    exact turn_go turn a last h c (.inl (by omega)) (.inl hc) last.length 0 k [] (by omega) (by omega) (hb c)
theorem order_go (l : List Part) (hl : Small l) (turn : Int) : ∀ n i k (a last : List Part), i + n = 40 → 3001000 + 100 * n ≤ k → Inv i a last → stowagelaw14_PartsOrder.l0 k l turn a last (i : Int) = some true := by
  have hll := hl.len
  intro n
  induction n with
  | zero =>
    intro i k a last hi hk h
    obtain ⟨k, rfl⟩ : ∃ j, k = j + 1 + 1 := ⟨k - 2, by omega⟩
    obtain rfl : i = 40 := by omega
    rw [stowagelaw14_PartsOrder.l0]
    have e : stowagelaw14_PartsOrder.j1 (k + 1) l turn a last ((40 : Nat) : Int) false = some true := by
      rw [stowagelaw14_PartsOrder.j1, if_neg (by decide)]
      exact turn_eq turn a last h k (by omega)
    split
    · exact e
    · exact e
  | succ n ih =>
    intro i k a last hi hk h
    obtain ⟨k, rfl⟩ : ∃ j, k = j + 1 + 1 := ⟨k - 2, by omega⟩
    have hL := h.llen
    have hA := h.alen
    rw [stowagelaw14_PartsOrder.l0]
    by_cases hlt : i < l.length
    · rw [if_pos (by omega), decide_eq_true (by omega : (i : Int) < 40), stowagelaw14_PartsOrder.j1, if_pos rfl, if_pos (by omega), if_pos (by omega)]
      have hs := hl.each _ (memP l i hlt)
      show (parts_Put.f k a (rdP l i).f0 (rdP l i).f1 (rdP l i).f2 (rdP l i).f3).bind _ = _
      cases hc : chk (rdP l i)
      · rw [put_no a h.good _ hs hc k (by omega), Option.bind_some, if_neg (by decide), w1 i (by omega)]
        exact ih (i + 1) k a last (by omega) (by omega) h.mono
      · rw [put_eq a h.good (by omega) _ hs hc k (by omega), Option.bind_some, if_pos rfl]
        obtain ⟨q, rfl⟩ : ∃ q, k = last.length + 1 + q := ⟨k - last.length - 1, by omega⟩
        have := rest_go l turn (ins a (rdP l i)) last i hlt (by omega) last.length 0 q [] (by omega) (Nat.le_refl _)
        rw [show ((0 : Nat) : Int) = 0 from rfl, List.drop_zero, List.nil_append, w1 i (by omega)] at this
        exact this.trans (ih (i + 1) q _ _ (by omega) (by omega) (h.step (by omega) _ hs hc))
    · rw [if_neg (by omega), stowagelaw14_PartsOrder.j1, if_neg (by decide)]
      exact turn_eq turn a last ⟨h.good, by omega, by omega, h.mem, h.apart⟩ k (by omega)
theorem PartsOrder_true (l : List Part) (turn : Int) (hl : Small l) : ∃ k, stowagelaw14_PartsOrder.f k l turn = some true := by
  refine ⟨5000000, ?_⟩
  unfold stowagelaw14_PartsOrder.f
  rw [awake_true 5000000 (by omega), Option.bind_some, if_pos rfl]
  exact order_go l hl turn 40 0 5000000 [] [] rfl (by omega) ⟨good_nil, Nat.le_refl _, Nat.le_refl _, fun x => Iff.rfl, List.Pairwise.nil⟩
end Go.Proofs.YtoiockmmlanimaaDoor.Pure
end
section
/- How parts and picks are read out of an argument, how small they are, and the table of the rounds' numbers. -/
namespace Go.Proofs.YtoiockmmlanimaaDoor.KO
open Go Go.RowKit Go.Proofs.YtoiockmmlanimaaDoorW.PrintWords Go.Proofs.YtoiockmmlanimaaDoor.Oo
theorem opensPiece : Opens Tryd.prog 63 k63 (fun y => y.f0.size ≤ reachBytes ∧ (Lit.int .i64 y.f1).wf = true) (fun y => ((y.f0.size + 1) + 1) + 1) :=
  opens_struct (fun x : S63 => (x.f0, x.f1)) (fun p => ⟨p.1, p.2⟩) (fun _ => rfl) Tryd.underlying63
    (opens_cons (off' := 1) rfl (opens_string Tryd.underlying9) (by kernel_rfl) (opens_last rfl (opens_int Tryd.underlying3) (by kernel_rfl)))
theorem opensPieces : Opens Tryd.prog 24 (Kd.slice 63 k63) (fun ys => ys.length * 24 ≤ reachBytes ∧ ∀ y ∈ ys, y.f0.size ≤ reachBytes ∧ (Lit.int .i64 y.f1).wf = true) (fun ys => (ys.map fun y => ((y.f0.size + 1) + 1) + 1).sum + 1) :=
  opens_slice Tryd.underlying24 opensPiece (by kernel_rfl) (by kernel_rfl)
theorem opensPart : Opens Tryd.prog 46 k46 (fun y => (Lit.int .i64 y.f0).wf = true ∧ (Lit.int .i64 y.f1).wf = true ∧ y.f2.size ≤ reachBytes ∧ (y.f3.length * 24 ≤ reachBytes ∧ ∀ z ∈ y.f3, z.f0.size ≤ reachBytes ∧ (Lit.int .i64 z.f1).wf = true)) (fun y => (1 + (1 + ((y.f2.size + 1) + ((y.f3.map fun z => ((z.f0.size + 1) + 1) + 1).sum + 1)))) + 1) :=
  opens_struct (fun x : S46 => (x.f0, x.f1, x.f2, x.f3)) (fun p => ⟨p.1, p.2.1, p.2.2.1, p.2.2.2⟩) (fun _ => rfl) Tryd.underlying46
    (opens_cons (off' := 1) rfl (opens_int Tryd.underlying3) (by kernel_rfl) (opens_cons (off' := 2) rfl (opens_int Tryd.underlying3) (by kernel_rfl) (opens_cons (off' := 3) rfl (opens_string Tryd.underlying9) (by kernel_rfl) (opens_last rfl opensPieces (by kernel_rfl)))))
theorem opensParts : Opens Tryd.prog 22 (Kd.slice 46 k46) (fun ys => ys.length * 56 ≤ reachBytes ∧ ∀ y ∈ ys, (Lit.int .i64 y.f0).wf = true ∧ (Lit.int .i64 y.f1).wf = true ∧ y.f2.size ≤ reachBytes ∧ (y.f3.length * 24 ≤ reachBytes ∧ ∀ z ∈ y.f3, z.f0.size ≤ reachBytes ∧ (Lit.int .i64 z.f1).wf = true)) (fun ys => (ys.map fun y => (1 + (1 + ((y.f2.size + 1) + ((y.f3.map fun z => ((z.f0.size + 1) + 1) + 1).sum + 1)))) + 1).sum + 1) :=
  opens_slice Tryd.underlying22 opensPart (by kernel_rfl) (by kernel_rfl)
theorem opensPick : Opens Tryd.prog 61 k61 (fun y => (Lit.int .i64 y.f0).wf = true ∧ y.f1.size ≤ reachBytes) (fun y => (1 + (y.f1.size + 1)) + 1) :=
  opens_struct (fun x : S61 => (x.f0, x.f1)) (fun p => ⟨p.1, p.2⟩) (fun _ => rfl) Tryd.underlying61
    (opens_cons (off' := 1) rfl (opens_int Tryd.underlying3) (by kernel_rfl) (opens_last rfl (opens_string Tryd.underlying9) (by kernel_rfl)))
theorem opensPicks : Opens Tryd.prog 23 (Kd.slice 61 k61) (fun ys => ys.length * 24 ≤ reachBytes ∧ ∀ y ∈ ys, (Lit.int .i64 y.f0).wf = true ∧ y.f1.size ≤ reachBytes) (fun ys => (ys.map fun y => (1 + (y.f1.size + 1)) + 1).sum + 1) :=
  opens_slice Tryd.underlying23 opensPick (by kernel_rfl) (by kernel_rfl)
theorem sum_ge {α : Type} (f : α → Nat) (hf : ∀ y, 1 ≤ f y) : ∀ l : List α, l.length ≤ (l.map f).sum ∧ ∀ y ∈ l, f y ≤ (l.map f).sum
  | [] => ⟨Nat.le_refl _, fun y hy => by cases hy⟩
  | z :: l => by
    obtain ⟨h1, h2⟩ := sum_ge f hf l
    have := hf z
    rw [List.map_cons, List.sum_cons]
    refine ⟨by rw [List.length_cons]; omega, fun y hy => ?_⟩
    rcases List.mem_cons.1 hy with rfl | hy
    · omega
    · have := h2 y hy; omega
theorem small_parts (l : List Pure.Part) {B : Nat} (h : (l.map fun y => (1 + (1 + ((y.f2.size + 1) + ((y.f3.map fun z => ((z.f0.size + 1) + 1) + 1).sum + 1)))) + 1).sum + 1 ≤ B) (hB : B ≤ 1048576) : Pure.Small l := by
  obtain ⟨h1, h2⟩ := sum_ge (fun y : Pure.Part => (1 + (1 + ((y.f2.size + 1) + ((y.f3.map fun z => ((z.f0.size + 1) + 1) + 1).sum + 1)))) + 1) (fun y => by omega) l
  refine ⟨by omega, fun p hp => ?_⟩
  have h3 : (1 + (1 + ((p.f2.size + 1) + ((p.f3.map fun z : Pure.Piece => ((z.f0.size + 1) + 1) + 1).sum + 1)))) + 1 ≤ _ := h2 p hp
  clear h1 h2
  obtain ⟨h4, h5⟩ := sum_ge (fun z : Pure.Piece => ((z.f0.size + 1) + 1) + 1) (fun y => by omega) p.f3
  generalize (p.f3.map fun z : Pure.Piece => ((z.f0.size + 1) + 1) + 1).sum = X at h3 h4 h5
  generalize ((l.map fun y : Pure.Part => (1 + (1 + ((y.f2.size + 1) + ((y.f3.map fun z => ((z.f0.size + 1) + 1) + 1).sum + 1)))) + 1)).sum = Z at h h3
  refine ⟨by omega, fun y hy => ?_, by omega⟩
  have := h5 y hy
  omega
theorem picks_len (l : List Pure.Pick) {B : Nat} (h : (l.map fun y => (1 + (y.f1.size + 1)) + 1).sum + 1 ≤ B) (hB : B ≤ 1048576) : l.length ≤ 1048576 := by
  obtain ⟨h1, _⟩ := sum_ge (fun y : Pure.Pick => (1 + (y.f1.size + 1)) + 1) (fun y => by omega) l
  omega
theorem wf_of {n : Int} (h : (Lit.int .i64 n).wf = true) : Pure.wf n := by
  simp only [Lit.wf, Bool.and_eq_true, decide_eq_true_eq] at h
  exact h
/-- A row that lies in a world, told by what lies in the blocks that are there. -/
theorem agree_C {α : Type} {d : Kd α} (hK : ∀ (W W' : World) (x : α) (cs : List Value), (∀ k, k < W.heap.size → W'.heap[k]? = W.heap[k]?) → d.K W x cs → d.K W' x cs) {W W' : World} (ha : ∀ k, k < W.heap.size → W'.heap[k]? = W.heap[k]?) {A : Option Addr} {n : Nat} {xs : List α} (h : d.C W A n xs) : d.C W' A n xs := by
  obtain ⟨h1, h2, h3⟩ := h
  refine ⟨h1, h2, fun hp => ?_⟩
  obtain ⟨ad, hA, hr⟩ := h3 hp
  refine ⟨ad, hA, fun j x hx => ?_⟩
  obtain ⟨cs, hl, hk, hc⟩ := hr j x hx
  exact ⟨cs, hl, hK W W' x cs ha hk, fun i u hu => (World.cell?_of_block (ha _ (World.block_lt_of_cell? W _ (hc i u hu)))).trans (hc i u hu)⟩
theorem V_top {W : World} {e base c : Nat} {A : Option Addr} {l : List Pure.Part} (hr : Kd.C k46 W A l.length l) (hc : l.length ≤ c) : Kd.V k46 e W base (fun _ => True) (.slice A l.length c) l :=
  Kd.V_mk hc (fun W' hW => agree_C (fun W W' x cs ha hk => by
    obtain ⟨A3, c3, rfl, hl3, g3⟩ := k46_open hk
    exact k46_mk W' x hl3 (agree_C (fun W W' y cs _ hk => by rw [k63_open hk]; exact k63_mk W' y) ha g3)) (fun k hk => hW k trivial hk) hr)
/-- The table of the rounds' numbers, out of what is laid. -/
theorem gg_of_laid {W : World} (h : laidMetH Tryd.prog Rows.partsWholeRow.laid W) : GG W := by
  rw [MakeChecks.laidMetH_plain _ _ _ (by kernel_rfl)] at h
  obtain ⟨ps, ⟨g, t, cs, fuel, p, q, hg, ht, hv, hd, _, _⟩, _, _⟩ := h
  obtain rfl := Option.some.inj ((show Tryd.prog.globalNamed "stowage/digest.rounds" = some 0 by kernel_rfl).symm.trans hg)
  obtain rfl := Option.some.inj ((show (Tryd.prog.globals[0]?).map (·.type) = some 143 by kernel_rfl).symm.trans ht)
  obtain ⟨xs, m, _, ex, _, hl, hel⟩ := DataW.trod_array Tryd.underlying143 hd
  have c5 : Tryd.prog.cellsOf 137 = 1 := by kernel_rfl
  have hdat : (Rows.laid_stowage_digest_rounds : DataW Unit) = .agg (Sha.Ks.map fun x => .lit (.int .u32 (x.toNat : Int))) := by kernel_rfl
  have hlen : Sha.Ks.length = 64 := by kernel_rfl
  have e3 : xs.map (·.1) = Sha.Ks.map fun x => (.lit (.int .u32 (x.toNat : Int)) : DataW Unit) := (DataW.agg.inj (hdat.symm.trans (Prod.mk.inj ex).1)).symm
  have key : ∀ r, r < 64 → W.cell? ⟨0, r, none⟩ = some (Sha.U (Sha.Ks.getD r 0)) := by
    intro r hr
    have hE := hel r hr
    rw [c5, Nat.mul_one, List.getElem?_eq_getElem (by omega)] at hE
    obtain ⟨z, e1, e2, _⟩ := DataW.trod_int Tryd.underlying137 hE
    have e4 : (xs.map (·.1))[r]? = (Sha.Ks.map fun x => (.lit (.int .u32 (x.toNat : Int)) : DataW Unit))[r]? := by rw [e3]
    rw [List.getElem?_map, List.getElem?_map, List.getElem?_eq_getElem (by omega : r < xs.length), List.getElem?_eq_getElem (by omega : r < Sha.Ks.length), e2] at e4
    have hz : z = ((Sha.Ks.getD r 0).toNat : Int) := by
      simp only [Option.map_some, Option.some.injEq, DataW.lit.injEq, Lit.int.injEq, true_and] at e4
      rw [e4, List.getD, List.getElem?_eq_getElem (by omega : r < Sha.Ks.length)]
      rfl
    rw [World.var?_cell hg hv r, Sha.U_def, ← hz]
    have : cs.toList[r]? = some (.int .u32 z) := by
      have h0 : ((cs.toList.drop r).take 1)[0]? = some (.int .u32 z) := by rw [e1]; rfl
      simpa using h0
    simpa using this
  have h0 := key 0 (by omega)
  cases hh : W.heap[0]? with
  | none => simp [World.cell?, hh] at h0
  | some ob =>
    cases ob with
    | cells c t fr =>
      refine ⟨c, t, fr, hh, fun i hi => ?_⟩
      rw [← key i hi, cell_of_row W 0 i c t fr hh]
    | _ => simp [World.cell?, hh] at h0
end Go.Proofs.YtoiockmmlanimaaDoor.KO
end
