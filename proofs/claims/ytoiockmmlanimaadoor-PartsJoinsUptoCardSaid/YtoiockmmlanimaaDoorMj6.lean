/- Merged of several texts of this session's by merge.py. -/
import Derived.Test.YtoiockmmlanimaaDoorMj3
import Derived.Test.YtoiockmmlanimaaDoorMj5
-- Written for this claim by hyb.py, a driver of this session's over the kit's printer.
namespace Go.Proofs.YtoiockmmlanimaaDoor.Oj
open Go.RowKit Go.Proofs.YtoiockmmlanimaaDoorW.PrintWords Go.Proofs.YtoiockmmlanimaaDoorW.PrintLast Go.Proofs.YtoiockmmlanimaaDoorW.PrintMore
attribute [local go_sem] max2_int min2_int max_two min_two max_three min_three max_four min_four   -- for this text's walks alone
set_option linter.unusedVariables false
set_option linter.unusedSimpArgs false

/-! ### stowageref14_Join: function 10 -/
mutual
def stowageref14_Join.j0 : Nat → List (S52) → List (S79) → Bool → Int → Bool → Int → ByteArray → Option (Int × Bool × Int × ByteArray × (List (S85)) × Int)
 | 0, _, _, _, _, _, _, _ => none
 | k + 1, x0, x1, x22, x168000, x168001, x168002, x168003 => if x22 = true then (some (x168000, x168001, x168002, x168003, ([] : List (S85)), 1)) else (stowageref14_Join.l0 k x0 x1 1 x168000 x168001 x168002 x168003)
def stowageref14_Join.l0 : Nat → List (S52) → List (S79) → Int → Int → Bool → Int → ByteArray → Option (Int × Bool × Int × ByteArray × (List (S85)) × Int)
 | 0, _, _, _, _, _, _, _ => none
 | k + 1, x0, x1, x7, x168000, x168001, x168002, x168003 => if x7 < (x1.length : Int) then (if 0 ≤ x7 then (if 0 ≤ (wrap64 (x7 - 1)) then (if (wrap64 (x7 - 1)) < (x1.length : Int) then (if ((rd_T79 x1 x7).f0) ≤ ((rd_T79 x1 (wrap64 (x7 - 1))).f0) then (some (x168000, x168001, x168002, x168003, ([] : List (S85)), 1)) else (stowageref14_Join.l0 k x0 x1 (wrap64 (x7 + 1)) x168000 x168001 x168002 x168003)) else (none)) else (none)) else (none)) else (stowageref14_Join.l1 k x0 x1 0 x168000 x168001 x168002 x168003)
def stowageref14_Join.l1 : Nat → List (S52) → List (S79) → Int → Int → Bool → Int → ByteArray → Option (Int × Bool × Int × ByteArray × (List (S85)) × Int)
 | 0, _, _, _, _, _, _, _ => none
 | k + 1, x0, x1, x8, x168000, x168001, x168002, x168003 => if x8 < (x1.length : Int) then (if 0 ≤ x8 then ((stowageref14_at.f k x0 ((rd_T79 x1 x8).f0) ((rd_T79 x1 x8).f1)).bind fun t172 => (if t172 < 0 then (some (x168000, x168001, x168002, x168003, ([] : List (S85)), 140)) else (stowageref14_Join.l1 k x0 x1 (wrap64 (x8 + 1)) x168000 x168001 x168002 x168003))) else (none)) else (stowageref14_Join.l2 k x0 x1 0 ([] : List (S85)) ([] : List ByteArray) 0 x168000 x168001 x168002 x168003)
def stowageref14_Join.l2 : Nat → List (S52) → List (S79) → Int → List (S85) → List ByteArray → Int → Int → Bool → Int → ByteArray → Option (Int × Bool × Int × ByteArray × (List (S85)) × Int)
 | 0, _, _, _, _, _, _, _, _, _, _ => none
 | k + 1, x0, x1, x9, x10, x11, x12, x168000, x168001, x168002, x168003 => if x12 < (x1.length : Int) then (if 0 ≤ x12 then ((stowageref14_at.f k x0 ((rd_T79 x1 x12).f0) ((rd_T79 x1 x12).f1)).bind fun t174 => (if 0 ≤ t174 then (if t174 < (x0.length : Int) then (if ((rd_T52 x0 t174).f1) < 64 then (if x12 < (wrap64 ((x1.length : Int) - 1)) then (some (x168000, x168001, x168002, x168003, ([] : List (S85)), 141)) else (if x10.length + ((rd_T52 x0 t174).f3).length < 5864062014805 then (if x11.length < 8796093022208 then (stowageref14_Join.l2 k x0 x1 (wrap64 (x9 + ((rd_T52 x0 t174).f1))) (x10 ++ ((rd_T52 x0 t174).f3)) (x11 ++ [(rd_T52 x0 t174).f2]) (wrap64 (x12 + 1)) x168000 x168001 x168002 x168003) else (none)) else (none))) else (if x10.length + ((rd_T52 x0 t174).f3).length < 5864062014805 then (if x11.length < 8796093022208 then (stowageref14_Join.l2 k x0 x1 (wrap64 (x9 + ((rd_T52 x0 t174).f1))) (x10 ++ ((rd_T52 x0 t174).f3)) (x11 ++ [(rd_T52 x0 t174).f2]) (wrap64 (x12 + 1)) x168000 x168001 x168002 x168003) else (none)) else (none))) else (none)) else (none))) else (none)) else (if x9 > 1048576 then (stowageref14_Join.j4 k x9 x10 x11 true x168000 x168001 x168002 x168003) else (stowageref14_Join.j4 k x9 x10 x11 (decide ((x10.length : Int) > 512)) x168000 x168001 x168002 x168003))
def stowageref14_Join.j4 : Nat → Int → List (S85) → List ByteArray → Bool → Int → Bool → Int → ByteArray → Option (Int × Bool × Int × ByteArray × (List (S85)) × Int)
 | 0, _, _, _, _, _, _, _, _ => none
 | k + 1, x9, x10, x11, x102, x168000, x168001, x168002, x168003 => if x102 = true then (some (x168000, x168001, x168002, x168003, ([] : List (S85)), 2)) else ((stowageref03_Tagged.f 77 x11).bind fun t189 => ((stowageref03_Hex.f k t189).bind fun t190 => (some (0, false, x9, t190, x10, 0))))
end
def stowageref14_Join.f (k : Nat) (l0 : List (S52)) (l1 : List (S79)) : Option (Int × Bool × Int × ByteArray × (List (S85)) × Int) := (stowageref14_May.f k l0).bind fun t168 => (if t168 = true then (stowageref14_Join.j0 k l0 l1 ((l1.length : Int) == 0) 0 false 0 (⟨#[]⟩ : ByteArray)) else (stowageref14_Join.j0 k l0 l1 true 0 false 0 (⟨#[]⟩ : ByteArray)))
theorem stowageref14_Join.mono_l : ∀ k, (∀ y0 y1 y2 y3 y4 y5 y6, LeO (stowageref14_Join.j0 k y0 y1 y2 y3 y4 y5 y6) (stowageref14_Join.j0 (k + 1) y0 y1 y2 y3 y4 y5 y6)) ∧ (∀ y0 y1 y2 y3 y4 y5 y6, LeO (stowageref14_Join.l0 k y0 y1 y2 y3 y4 y5 y6) (stowageref14_Join.l0 (k + 1) y0 y1 y2 y3 y4 y5 y6)) ∧ (∀ y0 y1 y2 y3 y4 y5 y6, LeO (stowageref14_Join.l1 k y0 y1 y2 y3 y4 y5 y6) (stowageref14_Join.l1 (k + 1) y0 y1 y2 y3 y4 y5 y6)) ∧ (∀ y0 y1 y2 y3 y4 y5 y6 y7 y8 y9, LeO (stowageref14_Join.l2 k y0 y1 y2 y3 y4 y5 y6 y7 y8 y9) (stowageref14_Join.l2 (k + 1) y0 y1 y2 y3 y4 y5 y6 y7 y8 y9)) ∧ (∀ y0 y1 y2 y3 y4 y5 y6 y7, LeO (stowageref14_Join.j4 k y0 y1 y2 y3 y4 y5 y6 y7) (stowageref14_Join.j4 (k + 1) y0 y1 y2 y3 y4 y5 y6 y7))
 | 0 => ⟨fun _ _ _ _ _ _ _ r h => by simp [stowageref14_Join.j0] at h, fun _ _ _ _ _ _ _ r h => by simp [stowageref14_Join.l0] at h, fun _ _ _ _ _ _ _ r h => by simp [stowageref14_Join.l1] at h, fun _ _ _ _ _ _ _ _ _ _ r h => by simp [stowageref14_Join.l2] at h, fun _ _ _ _ _ _ _ _ r h => by simp [stowageref14_Join.j4] at h⟩
 | k + 1 => by
  obtain ⟨ih0, ih1, ih2, ih3, ih4⟩ := stowageref14_Join.mono_l k
  refine ⟨?_, ?_, ?_, ?_, ?_⟩
  all_goals intros
  all_goals first | unfold stowageref14_Join.j0 | unfold stowageref14_Join.l0 | unfold stowageref14_Join.l1 | unfold stowageref14_Join.l2 | unfold stowageref14_Join.j4
  all_goals repeat' first
  | (with_reducible exact ih0 _ _ _ _ _ _ _)
  | (with_reducible exact ih1 _ _ _ _ _ _ _)
  | (with_reducible exact ih2 _ _ _ _ _ _ _)
  | (with_reducible exact ih3 _ _ _ _ _ _ _ _ _ _)
  | (with_reducible exact ih4 _ _ _ _ _ _ _ _)
  | (with_reducible exact stowageref03_Hex.mono _ _)
  | (with_reducible exact stowageref14_May.mono _ _)
  | (with_reducible exact stowageref14_at.mono _ _ _ _)
  | (with_reducible exact LeO.refl _)
  | (with_reducible exact LeO.none _)
  | (with_reducible refine LeO.ite ?_ ?_)
  | (with_reducible refine LeO.bind ?_ (fun _ => ?_))
  | exact ih0 _ _ _ _ _ _ _
  | exact ih1 _ _ _ _ _ _ _
  | exact ih2 _ _ _ _ _ _ _
  | exact ih3 _ _ _ _ _ _ _ _ _ _
  | exact ih4 _ _ _ _ _ _ _ _
  | exact stowageref03_Hex.mono _ _
  | exact stowageref14_May.mono _ _
  | exact stowageref14_at.mono _ _ _ _
  | exact LeO.none _
  | refine LeO.ite ?_ ?_
  | refine LeO.bind ?_ (fun _ => ?_)
theorem stowageref14_Join.mono : ∀ a0 a1 k, LeO (stowageref14_Join.f k a0 a1) (stowageref14_Join.f (k + 1) a0 a1) := by
 intro a0 a1 k
 obtain ⟨ih0, ih1, ih2, ih3, ih4⟩ := stowageref14_Join.mono_l k
 unfold stowageref14_Join.f
 repeat' first
   | (with_reducible exact ih0 _ _ _ _ _ _ _)
   | (with_reducible exact ih1 _ _ _ _ _ _ _)
   | (with_reducible exact ih2 _ _ _ _ _ _ _)
   | (with_reducible exact ih3 _ _ _ _ _ _ _ _ _ _)
   | (with_reducible exact ih4 _ _ _ _ _ _ _ _)
   | (with_reducible exact stowageref03_Hex.mono _ _)
   | (with_reducible exact stowageref14_May.mono _ _)
   | (with_reducible exact stowageref14_at.mono _ _ _ _)
   | (with_reducible exact LeO.refl _)
   | (with_reducible exact LeO.none _)
   | (with_reducible refine LeO.ite ?_ ?_)
   | (with_reducible refine LeO.bind ?_ (fun _ => ?_))
   | exact ih0 _ _ _ _ _ _ _
   | exact ih1 _ _ _ _ _ _ _
   | exact ih2 _ _ _ _ _ _ _
   | exact ih3 _ _ _ _ _ _ _ _ _ _
   | exact ih4 _ _ _ _ _ _ _ _
   | exact stowageref03_Hex.mono _ _
   | exact stowageref14_May.mono _ _
   | exact stowageref14_at.mono _ _ _ _
   | exact LeO.none _
   | refine LeO.ite ?_ ?_
   | refine LeO.bind ?_ (fun _ => ?_)
set_option maxHeartbeats 8000000 in
set_option maxRecDepth 100000 in
theorem stowageref14_Join.calls (k : Nat) (A0 : Option Addr) (c0 : Nat) (l0 : List (S52)) (A1 : Option Addr) (c1 : Nat) (l1 : List (S79)) (r1 : Int) (r2 : Bool) (r3 : Int) (r4 : ByteArray) (r5 : List (S85)) (r6 : Int) (w : World) (hr0 : Kd.C k52 w A0 l0.length l0) (hc0 : l0.length ≤ c0) (hr1 : Kd.C k79 w A1 l1.length l1) (hc1 : l1.length ≤ c1) (h : stowageref14_Join.f k l0 l1 = some (r1, r2, r3, r4, r5, r6)) :
  Calls Tryd.prog 10 #[.slice A0 l0.length c0, .slice A1 l1.length c1] w fun e w' => ∃ v4_ : Value, e = .returned (.tuple #[.agg #[.int .i64 r1, .bool r2, .int .i64 r3, .string r4, v4_], .int .i64 r6]) ∧ Kd.R k85 85 w' w.heap.size (fun _ => True) v4_ r5 ∧ Below w.heap.size w w' := by
 have hu32 := Tryd.underlying32
 have hu79 := Tryd.underlying79
 have hu52 := Tryd.underlying52
 have HR0 := Aside0.mk hr0
 have HC0 := Aside0.mk hc0
 clear hr0 hc0
 have HR1 := Aside0.mk hr1
 have HC1 := Aside0.mk hc1
 clear hr1 hc1
 have HB := Aside0.mk (Below.refl w.heap.size w)
 have H : ((stowageref14_May.f k l0).bind fun t168 => (if t168 = true then (stowageref14_Join.j0 k l0 l1 ((l1.length : Int) == 0) 0 false 0 (⟨#[]⟩ : ByteArray)) else (stowageref14_Join.j0 k l0 l1 true 0 false 0 (⟨#[]⟩ : ByteArray)))) = some (r1, r2, r3, r4, r5, r6) := h
 clear h
 have HC3 := Aside0.mk H
 clear H
 go_enter Tryd.func10, Tryd.ntmps10
 go_upto_region 2 with (first | ((with_reducible refine gate_dst (N := 4) rfl ?_); (try (refine gate_guard (by rfl) ?_; dsimp only)); refine box_event ?hg (N := 4) ?hd (cs := #[.int .i64 0, .bool false, .int .i64 0, .string (⟨#[]⟩ : ByteArray), .slice none 0 0]) (t := 32) ?hr ?_; (case hd => rfl); (case hg => rfl); (case hr => first | (go_simp; done) | (go_simp; rfl)); intro gb166 hg w4 hbox hb; have n0_ := Aside0.mk (below_step (bw HB.out) hb); have n1_ := Aside0.mk (hbox); have n2_ := Aside0.mk ((by rw [hg]; exact (below_size (bw HB.out)) : w.heap.size ≤ gb166)); have n3_ := Aside0.mk ((by rw [hg]; exact (below_size (bw HB.out)) : w.heap.size ≤ gb166)); clear HB; have HB := n0_; have BK166 := n1_; have GW166 := n2_; have GE166 := n3_; clear n0_ n1_ n2_ n3_; clear hb hbox hg) | ((with_reducible refine gate_dst (N := 6) rfl ?_); (try (refine gate_guard (by rfl) ?_; dsimp only)); refine box_event ?hg (N := 6) ?hd (cs := #[.int .i64 0, .bool false, .int .i64 0, .string (⟨#[]⟩ : ByteArray), .slice none 0 0]) (t := 32) ?hr ?_; (case hd => rfl); (case hg => rfl); (case hr => first | (go_simp; done) | (go_simp; rfl)); intro gb167 hg w5 hbox hb; have n0_ := Aside0.mk (blk_below (g := gb166) (o := .cells #[.int .i64 0, .bool false, .int .i64 0, .string (⟨#[]⟩ : ByteArray), .slice none 0 0] 32 (0, 0)) (bk BK166.out) hb); have n1_ := Aside0.mk (below_step (bws HB.out) hb); have n2_ := Aside0.mk (hbox); have n3_ := Aside0.mk ((by rw [hg]; exact (below_size (bws HB.out)) : w.heap.size ≤ gb167)); have n4_ := Aside0.mk ((by rw [hg]; exact (below_size (bws HB.out)) : w.heap.size ≤ gb167)); have n5_ := Aside0.mk ((by rw [hg]; exact Nat.ne_of_lt (blk_lt (g := gb166) (o := .cells #[.int .i64 0, .bool false, .int .i64 0, .string (⟨#[]⟩ : ByteArray), .slice none 0 0] 32 (0, 0)) (bk BK166.out)) : gb166 ≠ gb167)); have n6_ := Aside0.mk ((by rw [hg]; exact Nat.ne_of_gt (blk_lt (g := gb166) (o := .cells #[.int .i64 0, .bool false, .int .i64 0, .string (⟨#[]⟩ : ByteArray), .slice none 0 0] 32 (0, 0)) (bk BK166.out)) : gb167 ≠ gb166)); clear BK166; clear HB; have BK166 := n0_; have HB := n1_; have BK167 := n2_; have GW167 := n3_; have GE167 := n4_; have NB166_167 := n5_; have NB167_166 := n6_; clear n0_ n1_ n2_ n3_ n4_ n5_ n6_; clear hb hbox hg; have hnb6 := NB167_166.out; have hnc6 := NB166_167.out; obtain ⟨hcz7_0, hcz7_1, hcz7_2, hcz7_3, hcz7_4, hfz7_0, hfz7_1, hfz7_2, hfz7_3, hfz7_4⟩ := cz5 BK167.out))
 repeat (go_quiet (first | ((with_reducible refine gate_dst (N := 4) rfl ?_); (try (refine gate_guard (by rfl) ?_; dsimp only)); refine box_event ?hg (N := 4) ?hd (cs := #[.int .i64 0, .bool false, .int .i64 0, .string (⟨#[]⟩ : ByteArray), .slice none 0 0]) (t := 32) ?hr ?_; (case hd => rfl); (case hg => rfl); (case hr => first | (go_simp; done) | (go_simp; rfl)); intro gb166 hg w4 hbox hb; have n0_ := Aside0.mk (below_step (bw HB.out) hb); have n1_ := Aside0.mk (hbox); have n2_ := Aside0.mk ((by rw [hg]; exact (below_size (bw HB.out)) : w.heap.size ≤ gb166)); have n3_ := Aside0.mk ((by rw [hg]; exact (below_size (bw HB.out)) : w.heap.size ≤ gb166)); clear HB; have HB := n0_; have BK166 := n1_; have GW166 := n2_; have GE166 := n3_; clear n0_ n1_ n2_ n3_; clear hb hbox hg) | ((with_reducible refine gate_dst (N := 6) rfl ?_); (try (refine gate_guard (by rfl) ?_; dsimp only)); refine box_event ?hg (N := 6) ?hd (cs := #[.int .i64 0, .bool false, .int .i64 0, .string (⟨#[]⟩ : ByteArray), .slice none 0 0]) (t := 32) ?hr ?_; (case hd => rfl); (case hg => rfl); (case hr => first | (go_simp; done) | (go_simp; rfl)); intro gb167 hg w5 hbox hb; have n0_ := Aside0.mk (blk_below (g := gb166) (o := .cells #[.int .i64 0, .bool false, .int .i64 0, .string (⟨#[]⟩ : ByteArray), .slice none 0 0] 32 (0, 0)) (bk BK166.out) hb); have n1_ := Aside0.mk (below_step (bws HB.out) hb); have n2_ := Aside0.mk (hbox); have n3_ := Aside0.mk ((by rw [hg]; exact (below_size (bws HB.out)) : w.heap.size ≤ gb167)); have n4_ := Aside0.mk ((by rw [hg]; exact (below_size (bws HB.out)) : w.heap.size ≤ gb167)); have n5_ := Aside0.mk ((by rw [hg]; exact Nat.ne_of_lt (blk_lt (g := gb166) (o := .cells #[.int .i64 0, .bool false, .int .i64 0, .string (⟨#[]⟩ : ByteArray), .slice none 0 0] 32 (0, 0)) (bk BK166.out)) : gb166 ≠ gb167)); have n6_ := Aside0.mk ((by rw [hg]; exact Nat.ne_of_gt (blk_lt (g := gb166) (o := .cells #[.int .i64 0, .bool false, .int .i64 0, .string (⟨#[]⟩ : ByteArray), .slice none 0 0] 32 (0, 0)) (bk BK166.out)) : gb167 ≠ gb166)); clear BK166; clear HB; have BK166 := n0_; have HB := n1_; have BK167 := n2_; have GW167 := n3_; have GE167 := n4_; have NB166_167 := n5_; have NB167_166 := n6_; clear n0_ n1_ n2_ n3_ n4_ n5_ n6_; clear hb hbox hg; have hnb6 := NB167_166.out; have hnc6 := NB166_167.out; obtain ⟨hcz7_0, hcz7_1, hcz7_2, hcz7_3, hcz7_4, hfz7_0, hfz7_1, hfz7_2, hfz7_3, hfz7_4⟩ := cz5 BK167.out)); go_upto_region 2 with (first | ((with_reducible refine gate_dst (N := 4) rfl ?_); (try (refine gate_guard (by rfl) ?_; dsimp only)); refine box_event ?hg (N := 4) ?hd (cs := #[.int .i64 0, .bool false, .int .i64 0, .string (⟨#[]⟩ : ByteArray), .slice none 0 0]) (t := 32) ?hr ?_; (case hd => rfl); (case hg => rfl); (case hr => first | (go_simp; done) | (go_simp; rfl)); intro gb166 hg w4 hbox hb; have n0_ := Aside0.mk (below_step (bw HB.out) hb); have n1_ := Aside0.mk (hbox); have n2_ := Aside0.mk ((by rw [hg]; exact (below_size (bw HB.out)) : w.heap.size ≤ gb166)); have n3_ := Aside0.mk ((by rw [hg]; exact (below_size (bw HB.out)) : w.heap.size ≤ gb166)); clear HB; have HB := n0_; have BK166 := n1_; have GW166 := n2_; have GE166 := n3_; clear n0_ n1_ n2_ n3_; clear hb hbox hg) | ((with_reducible refine gate_dst (N := 6) rfl ?_); (try (refine gate_guard (by rfl) ?_; dsimp only)); refine box_event ?hg (N := 6) ?hd (cs := #[.int .i64 0, .bool false, .int .i64 0, .string (⟨#[]⟩ : ByteArray), .slice none 0 0]) (t := 32) ?hr ?_; (case hd => rfl); (case hg => rfl); (case hr => first | (go_simp; done) | (go_simp; rfl)); intro gb167 hg w5 hbox hb; have n0_ := Aside0.mk (blk_below (g := gb166) (o := .cells #[.int .i64 0, .bool false, .int .i64 0, .string (⟨#[]⟩ : ByteArray), .slice none 0 0] 32 (0, 0)) (bk BK166.out) hb); have n1_ := Aside0.mk (below_step (bws HB.out) hb); have n2_ := Aside0.mk (hbox); have n3_ := Aside0.mk ((by rw [hg]; exact (below_size (bws HB.out)) : w.heap.size ≤ gb167)); have n4_ := Aside0.mk ((by rw [hg]; exact (below_size (bws HB.out)) : w.heap.size ≤ gb167)); have n5_ := Aside0.mk ((by rw [hg]; exact Nat.ne_of_lt (blk_lt (g := gb166) (o := .cells #[.int .i64 0, .bool false, .int .i64 0, .string (⟨#[]⟩ : ByteArray), .slice none 0 0] 32 (0, 0)) (bk BK166.out)) : gb166 ≠ gb167)); have n6_ := Aside0.mk ((by rw [hg]; exact Nat.ne_of_gt (blk_lt (g := gb166) (o := .cells #[.int .i64 0, .bool false, .int .i64 0, .string (⟨#[]⟩ : ByteArray), .slice none 0 0] 32 (0, 0)) (bk BK166.out)) : gb167 ≠ gb166)); clear BK166; clear HB; have BK166 := n0_; have HB := n1_; have BK167 := n2_; have GW167 := n3_; have GE167 := n4_; have NB166_167 := n5_; have NB167_166 := n6_; clear n0_ n1_ n2_ n3_ n4_ n5_ n6_; clear hb hbox hg; have hnb6 := NB167_166.out; have hnc6 := NB166_167.out; obtain ⟨hcz7_0, hcz7_1, hcz7_2, hcz7_3, hcz7_4, hfz7_0, hfz7_1, hfz7_2, hfz7_3, hfz7_4⟩ := cz5 BK167.out)))
 (try simp only [Act.put, List.setIfInBounds_toArray, List.set_cons_zero, List.set_cons_succ])
 go_cut [22] (fun v22 wc => ∃ (kq : Nat) (x22_2 : Bool), v22 = .bool x22_2 ∧ Aside0 (stowageref14_Join.j0 kq l0 l1 x22_2 0 false 0 (⟨#[]⟩ : ByteArray) = some (r1, r2, r3, r4, r5, r6)) ∧ Aside0 (kq ≤ k) ∧ Aside0 (wc.heap[gb166]? = some (.cells #[.int .i64 0, .bool false, .int .i64 0, .string (⟨#[]⟩ : ByteArray), (.slice none 0 0)] 32 (0, 0))) ∧ Aside0 (wc.heap[gb167]? = some (.cells #[.int .i64 0, .bool false, .int .i64 0, .string (⟨#[]⟩ : ByteArray), (.slice none 0 0)] 32 (0, 0))) ∧ Aside0 (Below w.heap.size w wc))
 case first =>
  have H := HC3.out
  clear HC3
  replace H := Option.bind_eq_some_iff.mp H
  obtain ⟨t168, A80, H⟩ := H
  replace H : (if t168 = true then (stowageref14_Join.j0 k l0 l1 ((l1.length : Int) == 0) 0 false 0 (⟨#[]⟩ : ByteArray)) else (stowageref14_Join.j0 k l0 l1 true 0 false 0 (⟨#[]⟩ : ByteArray))) = some (r1, r2, r3, r4, r5, r6) := H
  have A8 := Aside0.mk A80
  clear A80
  by_cases c9 : t168 = true
  ·
   subst c9
   have H1 : (stowageref14_Join.j0 k l0 l1 ((l1.length : Int) == 0) 0 false 0 (⟨#[]⟩ : ByteArray)) = some (r1, r2, r3, r4, r5, r6) := by rw [if_pos rfl] at H; exact H
   clear H
   have H := H1
   clear H1
   have H' := Aside0.mk H
   clear H
   go_wp2_with (first | (go_at_call 33; (with_reducible refine (stowageref14_May.calls k _ _ l0 true _ ?side1 ?side2 A8.out).mono ?_); (case side1 => exact Kd.C_below HR0.out (bws HB.out)); (case side2 => exact HC0.out); rintro e w10 ⟨rfl, hb⟩; replace BK166 := Aside0.mk (blk_below (g := gb166) (o := .cells #[.int .i64 0, .bool false, .int .i64 0, .string (⟨#[]⟩ : ByteArray), .slice none 0 0] 32 (0, 0)) (bkf BK166.out) hb); replace BK167 := Aside0.mk (blk_below (g := gb167) (o := .cells #[.int .i64 0, .bool false, .int .i64 0, .string (⟨#[]⟩ : ByteArray), .slice none 0 0] 32 (0, 0)) (bkp BK167.out) hb); replace HB := Aside0.mk (below_step (bws HB.out) hb); (try clear hb); (try clear hb2); (try clear hk); (try clear hi)))
   repeat (go_quiet (first | (go_at_call 33; (with_reducible refine (stowageref14_May.calls k _ _ l0 true _ ?side1 ?side2 A8.out).mono ?_); (case side1 => exact Kd.C_below HR0.out (bws HB.out)); (case side2 => exact HC0.out); rintro e w10 ⟨rfl, hb⟩; replace BK166 := Aside0.mk (blk_below (g := gb166) (o := .cells #[.int .i64 0, .bool false, .int .i64 0, .string (⟨#[]⟩ : ByteArray), .slice none 0 0] 32 (0, 0)) (bkf BK166.out) hb); replace BK167 := Aside0.mk (blk_below (g := gb167) (o := .cells #[.int .i64 0, .bool false, .int .i64 0, .string (⟨#[]⟩ : ByteArray), .slice none 0 0] 32 (0, 0)) (bkp BK167.out) hb); replace HB := Aside0.mk (below_step (bws HB.out) hb); (try clear hb); (try clear hb2); (try clear hk); (try clear hi); clear A8)); try go_wp2_with (first | (go_at_call 33; (with_reducible refine (stowageref14_May.calls k _ _ l0 true _ ?side1 ?side2 A8.out).mono ?_); (case side1 => exact Kd.C_below HR0.out (bws HB.out)); (case side2 => exact HC0.out); rintro e w10 ⟨rfl, hb⟩; replace BK166 := Aside0.mk (blk_below (g := gb166) (o := .cells #[.int .i64 0, .bool false, .int .i64 0, .string (⟨#[]⟩ : ByteArray), .slice none 0 0] 32 (0, 0)) (bkf BK166.out) hb); replace BK167 := Aside0.mk (blk_below (g := gb167) (o := .cells #[.int .i64 0, .bool false, .int .i64 0, .string (⟨#[]⟩ : ByteArray), .slice none 0 0] 32 (0, 0)) (bkp BK167.out) hb); replace HB := Aside0.mk (below_step (bws HB.out) hb); (try clear hb); (try clear hb2); (try clear hk); (try clear hi); clear A8)))
   go_meet
   case rel => exact ⟨_, (((l1.length : Int) == 0)), (by first | rfl | (simp; done) | (simp [*]; done)), H', ⟨by first | omega | exact Nat.le_refl _⟩, ⟨bk BK166.out⟩, ⟨bk BK167.out⟩, ⟨bws HB.out⟩⟩
  ·
   replace c9 := Bool.eq_false_iff.mpr c9
   subst c9
   have H1 : (stowageref14_Join.j0 k l0 l1 true 0 false 0 (⟨#[]⟩ : ByteArray)) = some (r1, r2, r3, r4, r5, r6) := by rw [if_neg (show ¬ (false = true) by decide)] at H; exact H
   clear H
   have H := H1
   clear H1
   have H' := Aside0.mk H
   clear H
   go_wp2_with (first | (go_at_call 33; (with_reducible refine (stowageref14_May.calls k _ _ l0 false _ ?side1 ?side2 A8.out).mono ?_); (case side1 => exact Kd.C_below HR0.out (bws HB.out)); (case side2 => exact HC0.out); rintro e w11 ⟨rfl, hb⟩; replace BK166 := Aside0.mk (blk_below (g := gb166) (o := .cells #[.int .i64 0, .bool false, .int .i64 0, .string (⟨#[]⟩ : ByteArray), .slice none 0 0] 32 (0, 0)) (bkf BK166.out) hb); replace BK167 := Aside0.mk (blk_below (g := gb167) (o := .cells #[.int .i64 0, .bool false, .int .i64 0, .string (⟨#[]⟩ : ByteArray), .slice none 0 0] 32 (0, 0)) (bkp BK167.out) hb); replace HB := Aside0.mk (below_step (bws HB.out) hb); (try clear hb); (try clear hb2); (try clear hk); (try clear hi)))
   repeat (go_quiet (first | (go_at_call 33; (with_reducible refine (stowageref14_May.calls k _ _ l0 false _ ?side1 ?side2 A8.out).mono ?_); (case side1 => exact Kd.C_below HR0.out (bws HB.out)); (case side2 => exact HC0.out); rintro e w11 ⟨rfl, hb⟩; replace BK166 := Aside0.mk (blk_below (g := gb166) (o := .cells #[.int .i64 0, .bool false, .int .i64 0, .string (⟨#[]⟩ : ByteArray), .slice none 0 0] 32 (0, 0)) (bkf BK166.out) hb); replace BK167 := Aside0.mk (blk_below (g := gb167) (o := .cells #[.int .i64 0, .bool false, .int .i64 0, .string (⟨#[]⟩ : ByteArray), .slice none 0 0] 32 (0, 0)) (bkp BK167.out) hb); replace HB := Aside0.mk (below_step (bws HB.out) hb); (try clear hb); (try clear hb2); (try clear hk); (try clear hi); clear A8)); try go_wp2_with (first | (go_at_call 33; (with_reducible refine (stowageref14_May.calls k _ _ l0 false _ ?side1 ?side2 A8.out).mono ?_); (case side1 => exact Kd.C_below HR0.out (bws HB.out)); (case side2 => exact HC0.out); rintro e w11 ⟨rfl, hb⟩; replace BK166 := Aside0.mk (blk_below (g := gb166) (o := .cells #[.int .i64 0, .bool false, .int .i64 0, .string (⟨#[]⟩ : ByteArray), .slice none 0 0] 32 (0, 0)) (bkf BK166.out) hb); replace BK167 := Aside0.mk (blk_below (g := gb167) (o := .cells #[.int .i64 0, .bool false, .int .i64 0, .string (⟨#[]⟩ : ByteArray), .slice none 0 0] 32 (0, 0)) (bkp BK167.out) hb); replace HB := Aside0.mk (below_step (bws HB.out) hb); (try clear hb); (try clear hb2); (try clear hk); (try clear hi); clear A8)))
   go_meet
   case rel => exact ⟨_, (true), (by first | rfl | (simp; done) | (simp [*]; done)), H', ⟨by first | omega | exact Nat.le_refl _⟩, ⟨bk BK166.out⟩, ⟨bk BK167.out⟩, ⟨bws HB.out⟩⟩
 case rest =>
  clear HC3
  try clear c1
  try clear p2
  try clear c6
  try clear c9
  try clear c10
  try clear hcz7_0
  try clear hcz7_1
  try clear hcz7_2
  try clear hcz7_3
  try clear hcz7_4
  try clear hfz7_0
  try clear hfz7_1
  try clear hfz7_2
  try clear hfz7_3
  try clear hfz7_4
  obtain ⟨kq, x22_2, rfl, HA, HJ2, BK166, BK167, HB⟩ := hcut
  cases kq with
  | zero => exact absurd HA.out (by simp [stowageref14_Join.j0])
  | succ kj2 =>
   have H := HA.out
   clear HA
   simp only [stowageref14_Join.j0] at H
   by_cases c12 : x22_2 = true
   ·
    subst c12
    have H1 : (some (0, false, 0, (⟨#[]⟩ : ByteArray), ([] : List (S85)), 1)) = some (r1, r2, r3, r4, r5, r6) := by rw [if_pos rfl] at H; exact H
    clear H
    have H := H1
    clear H1
    simp only [Option.some.injEq, Prod.mk.injEq] at H
    obtain ⟨rfl, rfl, rfl, rfl, rfl, rfl⟩ := H
    have hnb13 := NB167_166.out
    have hnc13 := NB166_167.out
    obtain ⟨hcz14_0, hcz14_1, hcz14_2, hcz14_3, hcz14_4, hfz14_0, hfz14_1, hfz14_2, hfz14_3, hfz14_4⟩ := cz5 BK167.out
    obtain ⟨hcz15_0, hcz15_1, hcz15_2, hcz15_3, hcz15_4, hfz15_0, hfz15_1, hfz15_2, hfz15_3, hfz15_4⟩ := cz5 BK166.out
    go_wp2
    repeat (go_quiet (fail); try go_wp2)
    refine bodyPost_ret (results_ct rfl _ _ gb166 32 #[.int .i64 0, .bool false, .int .i64 0, .string (⟨#[]⟩ : ByteArray), .slice none 0 0] (0, 0) _ rfl (bkp BK166.out) Tryd.underlying32 rfl (by kernel_rfl)) rfl ?_
    exact ⟨_, by first | rfl | (simp [errW_none, errW_some] <;> rfl) | (simp [*, errW_none, errW_some] <;> rfl), by first | exact Kd.R_nil _ _ _ _ _ | exact Kd.N_nil _ _ _ _ _ | exact Kd.V_nil _ _ _ _ _ | exact Kd.Q_nil _ _ _ _ _ | exact Kd.S_nil _ _ _ _ _, by repeat (first | (with_reducible first | exact HB.out | apply below_alloc | apply pw_below_drewN | apply below_drew1 | refine below_set ?_ GE166.out | refine below_set ?_ GE167.out) | exact HB.out)⟩
   ·
    replace c12 := Bool.eq_false_iff.mpr c12
    subst c12
    have H1 : (stowageref14_Join.l0 kj2 l0 l1 1 0 false 0 (⟨#[]⟩ : ByteArray)) = some (r1, r2, r3, r4, r5, r6) := by rw [if_neg (show ¬ (false = true) by decide)] at H; exact H
    clear H
    have H := H1
    clear H1
    have H' := Aside0.mk H
    clear H
    go_wp2
    repeat (go_quiet (fail); try go_wp2)
    go_loopg [7] kj2 (fun kq v7 w' => ∃ (x7_2 : Int) (x167000_2 : Int) (x167001_2 : Bool) (x167002_2 : Int) (x167003_2 : ByteArray), v7 = .int .i64 x7_2 ∧ Aside0 (stowageref14_Join.l0 kq l0 l1 x7_2 0 false 0 (⟨#[]⟩ : ByteArray) = some (r1, r2, r3, r4, r5, r6)) ∧ Aside0 (kq ≤ kj2) ∧ Aside0 (w'.heap[gb166]? = some (.cells #[.int .i64 x167000_2, .bool x167001_2, .int .i64 x167002_2, .string x167003_2, (.slice none 0 0)] 32 (0, 0))) ∧ Aside0 (w'.heap[gb167]? = some (.cells #[.int .i64 0, .bool false, .int .i64 0, .string (⟨#[]⟩ : ByteArray), (.slice none 0 0)] 32 (0, 0))) ∧ Aside0 (Below w.heap.size w w'))
    case atStart => exact ⟨(1), (0), (false), (0), ((⟨#[]⟩ : ByteArray)), (by first | rfl | (simp; done) | (simp [*]; done)), H', ⟨Nat.le_refl _⟩, ⟨bk BK166.out⟩, ⟨bk BK167.out⟩, ⟨bws HB.out⟩⟩
    case round =>
     clear H'
     try clear c1
     try clear p2
     try clear c6
     try clear c9
     try clear c10
     try clear c12
     try clear c13
     try clear hcz14_0
     try clear hcz14_1
     try clear hcz14_2
     try clear hcz14_3
     try clear hcz14_4
     try clear hcz15_0
     try clear hcz15_1
     try clear hcz15_2
     try clear hcz15_3
     try clear hcz15_4
     try clear hcz7_0
     try clear hcz7_1
     try clear hcz7_2
     try clear hcz7_3
     try clear hcz7_4
     try clear hfz14_0
     try clear hfz14_1
     try clear hfz14_2
     try clear hfz14_3
     try clear hfz14_4
     try clear hfz15_0
     try clear hfz15_1
     try clear hfz15_2
     try clear hfz15_3
     try clear hfz15_4
     try clear hfz7_0
     try clear hfz7_1
     try clear hfz7_2
     try clear hfz7_3
     try clear hfz7_4
     try clear p2
     obtain ⟨x7_2, x167000_2, x167001_2, x167002_2, x167003_2, rfl, HA, HK2, BK166, BK167, HB⟩ := hrel
     cases gk with
     | zero => exact absurd HA.out (by simp [stowageref14_Join.l0])
     | succ k2 =>
      have H := HA.out
      clear HA
      simp only [stowageref14_Join.l0] at H
      by_cases c16 : x7_2 < (l1.length : Int)
      ·
       rw [if_pos c16] at H
       have c16b0 : decide (x7_2 < (l1.length : Int)) = true := decide_eq_true c16
       clear c16
       by_cases c17 : 0 ≤ x7_2
       ·
        rw [if_pos c17] at H
        have c17b0 : decide (0 ≤ x7_2) = true := decide_eq_true c17
        clear c17
        obtain ⟨ji18, hji18⟩ : ∃ j_ : Int, (wrap64 (x7_2 - 1)) = j_ := ⟨_, rfl⟩
        replace H : (if 0 ≤ (ji18) then (if (ji18) < (l1.length : Int) then (if ((rd_T79 l1 x7_2).f0) ≤ ((rd_T79 l1 (ji18)).f0) then (some (0, false, 0, (⟨#[]⟩ : ByteArray), ([] : List (S85)), 1)) else (stowageref14_Join.l0 k2 l0 l1 (wrap64 (x7_2 + 1)) 0 false 0 (⟨#[]⟩ : ByteArray))) else (none)) else (none)) = some (r1, r2, r3, r4, r5, r6) := by first | (rw [hji18] at H; exact H) | (simp only [hji18] at H ⊢; exact H)
        have hji18w : (IntKind.i64.wrap (x7_2 - 1)) = ji18 := (i64_w _).trans hji18
        by_cases c19 : 0 ≤ (ji18)
        ·
         rw [if_pos c19] at H
         have c19b0 : decide (0 ≤ (ji18)) = true := decide_eq_true c19
         clear c19
         by_cases c20 : (ji18) < (l1.length : Int)
         ·
          rw [if_pos c20] at H
          have c20b0 : decide ((ji18) < (l1.length : Int)) = true := decide_eq_true c20
          clear c20
          by_cases c21 : ((rd_T79 l1 x7_2).f0) ≤ ((rd_T79 l1 (ji18)).f0)
          ·
           rw [if_pos c21] at H
           have c21b0 : decide (((rd_T79 l1 x7_2).f0) ≤ ((rd_T79 l1 (ji18)).f0)) = true := decide_eq_true c21
           clear c21
           simp only [Option.some.injEq, Prod.mk.injEq] at H
           obtain ⟨rfl, rfl, rfl, rfl, rfl, rfl⟩ := H
           have p169 : 0 ≤ (x7_2 : Int) := of_decide_eq_true asm
           have q169 : x7_2 < (l1.length : Int) := of_decide_eq_true asm
           obtain ⟨ad169, e169, hx169_0, hx169_1⟩ := at_T79 HR1.out x7_2 p169 q169
           cases e169
           replace hx169_0 := bc HB.out hx169_0
           replace hx169_1 := bc HB.out hx169_1
           replace p169 := eq_true p169
           replace q169 := eq_true q169
           have p170 : 0 ≤ ((ji18) : Int) := of_decide_eq_true asm
           have q170 : (ji18) < (l1.length : Int) := of_decide_eq_true asm
           obtain ⟨ad170, e170, hx170_0, hx170_1⟩ := at_T79 HR1.out (ji18) p170 q170
           obtain rfl : ad169 = ad170 := (by injection e170)
           replace hx170_0 := bc HB.out hx170_0
           replace hx170_1 := bc HB.out hx170_1
           replace p170 := eq_true p170
           replace q170 := eq_true q170
           have hnb22 := NB167_166.out
           have hnc22 := NB166_167.out
           obtain ⟨hcz23_0, hcz23_1, hcz23_2, hcz23_3, hcz23_4, hfz23_0, hfz23_1, hfz23_2, hfz23_3, hfz23_4⟩ := cz5 BK167.out
           obtain ⟨hcz24_0, hcz24_1, hcz24_2, hcz24_3, hcz24_4, hfz24_0, hfz24_1, hfz24_2, hfz24_3, hfz24_4⟩ := cz5 BK166.out
           go_wp2
           repeat (go_quiet (fail); try go_wp2)
           refine bodyPost_ret (results_ct rfl _ _ gb166 32 #[.int .i64 0, .bool false, .int .i64 0, .string (⟨#[]⟩ : ByteArray), .slice none 0 0] (0, 0) _ rfl (bkp BK166.out) Tryd.underlying32 rfl (by kernel_rfl)) rfl ?_
           exact ⟨_, by first | rfl | (simp [errW_none, errW_some] <;> rfl) | (simp only [← hji18]; first | rfl | (simp [errW_none, errW_some] <;> rfl)) | (simp [*, errW_none, errW_some] <;> rfl), by first | exact Kd.R_nil _ _ _ _ _ | exact Kd.N_nil _ _ _ _ _ | exact Kd.V_nil _ _ _ _ _ | exact Kd.Q_nil _ _ _ _ _ | exact Kd.S_nil _ _ _ _ _, by repeat (first | (with_reducible first | exact HB.out | apply below_alloc | apply pw_below_drewN | apply below_drew1 | refine below_set ?_ GE166.out | refine below_set ?_ GE167.out) | exact HB.out)⟩
          ·
           rw [if_neg c21] at H
           have c21b0 : decide (((rd_T79 l1 x7_2).f0) ≤ ((rd_T79 l1 (ji18)).f0)) = false := decide_eq_false c21
           clear c21
           have H' := Aside0.mk H
           clear H
           have p169 : 0 ≤ (x7_2 : Int) := of_decide_eq_true asm
           have q169 : x7_2 < (l1.length : Int) := of_decide_eq_true asm
           obtain ⟨ad169, e169, hx169_0, hx169_1⟩ := at_T79 HR1.out x7_2 p169 q169
           cases e169
           replace hx169_0 := bc HB.out hx169_0
           replace hx169_1 := bc HB.out hx169_1
           replace p169 := eq_true p169
           replace q169 := eq_true q169
           have p170 : 0 ≤ ((ji18) : Int) := of_decide_eq_true asm
           have q170 : (ji18) < (l1.length : Int) := of_decide_eq_true asm
           obtain ⟨ad170, e170, hx170_0, hx170_1⟩ := at_T79 HR1.out (ji18) p170 q170
           obtain rfl : ad169 = ad170 := (by injection e170)
           replace hx170_0 := bc HB.out hx170_0
           replace hx170_1 := bc HB.out hx170_1
           replace p170 := eq_true p170
           replace q170 := eq_true q170
           go_wp2
           repeat (go_quiet (fail); try go_wp2)
           go_roundg k2
           case measure => have := HJ2.out; have := HK2.out; omega
           case rel => exact ⟨(wrap64 (x7_2 + 1)), (x167000_2), (x167001_2), (x167002_2), (x167003_2), (by first | rfl | (simp; done) | (simp [*]; done)), H', ⟨by have := HJ2.out; have := HK2.out; omega⟩, ⟨bk BK166.out⟩, ⟨bk BK167.out⟩, ⟨bws HB.out⟩⟩
         ·
          rw [if_neg c20] at H
          exact absurd H (by simp)
        ·
         rw [if_neg c19] at H
         exact absurd H (by simp)
       ·
        rw [if_neg c17] at H
        exact absurd H (by simp)
      ·
       rw [if_neg c16] at H
       have c16b0 : decide (x7_2 < (l1.length : Int)) = false := decide_eq_false c16
       clear c16
       have H' := Aside0.mk H
       clear H
       go_wp2
       repeat (go_quiet (fail); try go_wp2)
       go_loopg [8] k2 (fun kq v8 w' => ∃ (x8_3 : Int) (x167000_3 : Int) (x167001_3 : Bool) (x167002_3 : Int) (x167003_3 : ByteArray), v8 = .int .i64 x8_3 ∧ Aside0 (stowageref14_Join.l1 kq l0 l1 x8_3 0 false 0 (⟨#[]⟩ : ByteArray) = some (r1, r2, r3, r4, r5, r6)) ∧ Aside0 (kq ≤ k2) ∧ Aside0 (w'.heap[gb166]? = some (.cells #[.int .i64 x167000_3, .bool x167001_3, .int .i64 x167002_3, .string x167003_3, (.slice none 0 0)] 32 (0, 0))) ∧ Aside0 (w'.heap[gb167]? = some (.cells #[.int .i64 0, .bool false, .int .i64 0, .string (⟨#[]⟩ : ByteArray), (.slice none 0 0)] 32 (0, 0))) ∧ Aside0 (Below w.heap.size w w'))
       case atStart => exact ⟨(0), (x167000_2), (x167001_2), (x167002_2), (x167003_2), (by first | rfl | (simp; done) | (simp [*]; done)), H', ⟨Nat.le_refl _⟩, ⟨bk BK166.out⟩, ⟨bk BK167.out⟩, ⟨bws HB.out⟩⟩
       case round =>
        clear H'
        try clear c1
        try clear p1
        try clear q1
        try clear hx1
        try clear c2
        try clear p2
        try clear c6
        try clear p6
        try clear c9
        try clear c10
        try clear c12
        try clear c13
        try clear c16
        try clear c16b0
        try clear p16
        try clear q16
        try clear hx16
        try clear c17
        try clear c17b0
        try clear p17
        try clear q17
        try clear hx17
        try clear c19
        try clear c19b0
        try clear c20
        try clear c20b0
        try clear c21
        try clear c21b0
        try clear c22
        try clear hcz14_0
        try clear hcz14_1
        try clear hcz14_2
        try clear hcz14_3
        try clear hcz14_4
        try clear hcz15_0
        try clear hcz15_1
        try clear hcz15_2
        try clear hcz15_3
        try clear hcz15_4
        try clear hcz23_0
        try clear hcz23_1
        try clear hcz23_2
        try clear hcz23_3
        try clear hcz23_4
        try clear hcz24_0
        try clear hcz24_1
        try clear hcz24_2
        try clear hcz24_3
        try clear hcz24_4
        try clear hcz7_0
        try clear hcz7_1
        try clear hcz7_2
        try clear hcz7_3
        try clear hcz7_4
        try clear hfz14_0
        try clear hfz14_1
        try clear hfz14_2
        try clear hfz14_3
        try clear hfz14_4
        try clear hfz15_0
        try clear hfz15_1
        try clear hfz15_2
        try clear hfz15_3
        try clear hfz15_4
        try clear hfz23_0
        try clear hfz23_1
        try clear hfz23_2
        try clear hfz23_3
        try clear hfz23_4
        try clear hfz24_0
        try clear hfz24_1
        try clear hfz24_2
        try clear hfz24_3
        try clear hfz24_4
        try clear hfz7_0
        try clear hfz7_1
        try clear hfz7_2
        try clear hfz7_3
        try clear hfz7_4
        try clear hx169_0
        try clear hx169_1
        try clear hx170_0
        try clear hx170_1
        try clear p169
        try clear p170
        try clear p2
        try clear q169
        try clear q170
        obtain ⟨x8_3, x167000_3, x167001_3, x167002_3, x167003_3, rfl, HA, HK3, BK166, BK167, HB⟩ := hrel
        cases gk with
        | zero => exact absurd HA.out (by simp [stowageref14_Join.l1])
        | succ k3 =>
         have H := HA.out
         clear HA
         simp only [stowageref14_Join.l1] at H
         by_cases c25 : x8_3 < (l1.length : Int)
         ·
          rw [if_pos c25] at H
          have c25b0 : decide (x8_3 < (l1.length : Int)) = true := decide_eq_true c25
          clear c25
          by_cases c26 : 0 ≤ x8_3
          ·
           rw [if_pos c26] at H
           have c26b0 : decide (0 ≤ x8_3) = true := decide_eq_true c26
           clear c26
           replace H := Option.bind_eq_some_iff.mp H
           obtain ⟨t172, A270, H⟩ := H
           replace H : (if t172 < 0 then (some (0, false, 0, (⟨#[]⟩ : ByteArray), ([] : List (S85)), 140)) else (stowageref14_Join.l1 k3 l0 l1 (wrap64 (x8_3 + 1)) 0 false 0 (⟨#[]⟩ : ByteArray))) = some (r1, r2, r3, r4, r5, r6) := H
           have A27 := Aside0.mk A270
           clear A270
           by_cases c28 : t172 < 0
           ·
            rw [if_pos c28] at H
            have c28b0 : decide (t172 < 0) = true := decide_eq_true c28
            clear c28
            simp only [Option.some.injEq, Prod.mk.injEq] at H
            obtain ⟨rfl, rfl, rfl, rfl, rfl, rfl⟩ := H
            have p171 : 0 ≤ (x8_3 : Int) := of_decide_eq_true asm
            have q171 : x8_3 < (l1.length : Int) := of_decide_eq_true asm
            obtain ⟨ad171, e171, hx171_0, hx171_1⟩ := at_T79 HR1.out x8_3 p171 q171
            cases e171
            replace hx171_0 := bc HB.out hx171_0
            replace hx171_1 := bc HB.out hx171_1
            replace p171 := eq_true p171
            replace q171 := eq_true q171
            go_wp2_with (first | (go_at_call 34; (with_reducible refine (stowageref14_at.calls k3 _ _ l0 ((rd_T79 l1 x8_3).f0) ((rd_T79 l1 x8_3).f1) t172 _ ?side1 ?side2 A27.out).mono ?_); (case side1 => exact kC (Kd.C_below HR0.out HB.out)); (case side2 => exact HC0.out); rintro e w29 ⟨rfl, hb⟩; replace BK166 := Aside0.mk (blk_below (g := gb166) (o := .cells #[.int .i64 x167000_3, .bool x167001_3, .int .i64 x167002_3, .string x167003_3, .slice none 0 0] 32 (0, 0)) (bk BK166.out) hb); replace BK167 := Aside0.mk (blk_below (g := gb167) (o := .cells #[.int .i64 0, .bool false, .int .i64 0, .string (⟨#[]⟩ : ByteArray), .slice none 0 0] 32 (0, 0)) (bk BK167.out) hb); replace HB := Aside0.mk (below_step (bws HB.out) hb); (try clear hb); (try clear hb2); (try clear hk); (try clear hi); have hnb30 := NB167_166.out; have hnc30 := NB166_167.out; obtain ⟨hcz31_0, hcz31_1, hcz31_2, hcz31_3, hcz31_4, hfz31_0, hfz31_1, hfz31_2, hfz31_3, hfz31_4⟩ := cz5 BK167.out; obtain ⟨hcz32_0, hcz32_1, hcz32_2, hcz32_3, hcz32_4, hfz32_0, hfz32_1, hfz32_2, hfz32_3, hfz32_4⟩ := cz5 BK166.out))
            repeat (go_quiet (first | (go_at_call 34; (with_reducible refine (stowageref14_at.calls k3 _ _ l0 ((rd_T79 l1 x8_3).f0) ((rd_T79 l1 x8_3).f1) t172 _ ?side1 ?side2 A27.out).mono ?_); (case side1 => exact kC (Kd.C_below HR0.out HB.out)); (case side2 => exact HC0.out); rintro e w29 ⟨rfl, hb⟩; replace BK166 := Aside0.mk (blk_below (g := gb166) (o := .cells #[.int .i64 x167000_3, .bool x167001_3, .int .i64 x167002_3, .string x167003_3, .slice none 0 0] 32 (0, 0)) (bk BK166.out) hb); replace BK167 := Aside0.mk (blk_below (g := gb167) (o := .cells #[.int .i64 0, .bool false, .int .i64 0, .string (⟨#[]⟩ : ByteArray), .slice none 0 0] 32 (0, 0)) (bk BK167.out) hb); replace HB := Aside0.mk (below_step (bws HB.out) hb); (try clear hb); (try clear hb2); (try clear hk); (try clear hi); have hnb30 := NB167_166.out; have hnc30 := NB166_167.out; obtain ⟨hcz31_0, hcz31_1, hcz31_2, hcz31_3, hcz31_4, hfz31_0, hfz31_1, hfz31_2, hfz31_3, hfz31_4⟩ := cz5 BK167.out; obtain ⟨hcz32_0, hcz32_1, hcz32_2, hcz32_3, hcz32_4, hfz32_0, hfz32_1, hfz32_2, hfz32_3, hfz32_4⟩ := cz5 BK166.out; clear A27)); try go_wp2_with (first | (go_at_call 34; (with_reducible refine (stowageref14_at.calls k3 _ _ l0 ((rd_T79 l1 x8_3).f0) ((rd_T79 l1 x8_3).f1) t172 _ ?side1 ?side2 A27.out).mono ?_); (case side1 => exact kC (Kd.C_below HR0.out HB.out)); (case side2 => exact HC0.out); rintro e w29 ⟨rfl, hb⟩; replace BK166 := Aside0.mk (blk_below (g := gb166) (o := .cells #[.int .i64 x167000_3, .bool x167001_3, .int .i64 x167002_3, .string x167003_3, .slice none 0 0] 32 (0, 0)) (bk BK166.out) hb); replace BK167 := Aside0.mk (blk_below (g := gb167) (o := .cells #[.int .i64 0, .bool false, .int .i64 0, .string (⟨#[]⟩ : ByteArray), .slice none 0 0] 32 (0, 0)) (bk BK167.out) hb); replace HB := Aside0.mk (below_step (bws HB.out) hb); (try clear hb); (try clear hb2); (try clear hk); (try clear hi); have hnb30 := NB167_166.out; have hnc30 := NB166_167.out; obtain ⟨hcz31_0, hcz31_1, hcz31_2, hcz31_3, hcz31_4, hfz31_0, hfz31_1, hfz31_2, hfz31_3, hfz31_4⟩ := cz5 BK167.out; obtain ⟨hcz32_0, hcz32_1, hcz32_2, hcz32_3, hcz32_4, hfz32_0, hfz32_1, hfz32_2, hfz32_3, hfz32_4⟩ := cz5 BK166.out; clear A27)))
            refine bodyPost_ret (results_ct rfl _ _ gb166 32 #[.int .i64 0, .bool false, .int .i64 0, .string (⟨#[]⟩ : ByteArray), .slice none 0 0] (0, 0) _ rfl (bkp BK166.out) Tryd.underlying32 rfl (by kernel_rfl)) rfl ?_
            exact ⟨_, by first | rfl | (simp [errW_none, errW_some] <;> rfl) | (simp [*, errW_none, errW_some] <;> rfl), by first | exact Kd.R_nil _ _ _ _ _ | exact Kd.N_nil _ _ _ _ _ | exact Kd.V_nil _ _ _ _ _ | exact Kd.Q_nil _ _ _ _ _ | exact Kd.S_nil _ _ _ _ _, by repeat (first | (with_reducible first | exact HB.out | apply below_alloc | apply pw_below_drewN | apply below_drew1 | refine below_set ?_ GE166.out | refine below_set ?_ GE167.out) | exact HB.out)⟩
           ·
            rw [if_neg c28] at H
            have c28b0 : decide (t172 < 0) = false := decide_eq_false c28
            clear c28
            have H' := Aside0.mk H
            clear H
            have p171 : 0 ≤ (x8_3 : Int) := of_decide_eq_true asm
            have q171 : x8_3 < (l1.length : Int) := of_decide_eq_true asm
            obtain ⟨ad171, e171, hx171_0, hx171_1⟩ := at_T79 HR1.out x8_3 p171 q171
            cases e171
            replace hx171_0 := bc HB.out hx171_0
            replace hx171_1 := bc HB.out hx171_1
            replace p171 := eq_true p171
            replace q171 := eq_true q171
            go_wp2_with (first | (go_at_call 34; (with_reducible refine (stowageref14_at.calls k3 _ _ l0 ((rd_T79 l1 x8_3).f0) ((rd_T79 l1 x8_3).f1) t172 _ ?side1 ?side2 A27.out).mono ?_); (case side1 => exact kC (Kd.C_below HR0.out HB.out)); (case side2 => exact HC0.out); rintro e w33 ⟨rfl, hb⟩; replace BK166 := Aside0.mk (blk_below (g := gb166) (o := .cells #[.int .i64 x167000_3, .bool x167001_3, .int .i64 x167002_3, .string x167003_3, .slice none 0 0] 32 (0, 0)) (bk BK166.out) hb); replace BK167 := Aside0.mk (blk_below (g := gb167) (o := .cells #[.int .i64 0, .bool false, .int .i64 0, .string (⟨#[]⟩ : ByteArray), .slice none 0 0] 32 (0, 0)) (bk BK167.out) hb); replace HB := Aside0.mk (below_step (bws HB.out) hb); (try clear hb); (try clear hb2); (try clear hk); (try clear hi)))
            repeat (go_quiet (first | (go_at_call 34; (with_reducible refine (stowageref14_at.calls k3 _ _ l0 ((rd_T79 l1 x8_3).f0) ((rd_T79 l1 x8_3).f1) t172 _ ?side1 ?side2 A27.out).mono ?_); (case side1 => exact kC (Kd.C_below HR0.out HB.out)); (case side2 => exact HC0.out); rintro e w33 ⟨rfl, hb⟩; replace BK166 := Aside0.mk (blk_below (g := gb166) (o := .cells #[.int .i64 x167000_3, .bool x167001_3, .int .i64 x167002_3, .string x167003_3, .slice none 0 0] 32 (0, 0)) (bk BK166.out) hb); replace BK167 := Aside0.mk (blk_below (g := gb167) (o := .cells #[.int .i64 0, .bool false, .int .i64 0, .string (⟨#[]⟩ : ByteArray), .slice none 0 0] 32 (0, 0)) (bk BK167.out) hb); replace HB := Aside0.mk (below_step (bws HB.out) hb); (try clear hb); (try clear hb2); (try clear hk); (try clear hi); clear A27)); try go_wp2_with (first | (go_at_call 34; (with_reducible refine (stowageref14_at.calls k3 _ _ l0 ((rd_T79 l1 x8_3).f0) ((rd_T79 l1 x8_3).f1) t172 _ ?side1 ?side2 A27.out).mono ?_); (case side1 => exact kC (Kd.C_below HR0.out HB.out)); (case side2 => exact HC0.out); rintro e w33 ⟨rfl, hb⟩; replace BK166 := Aside0.mk (blk_below (g := gb166) (o := .cells #[.int .i64 x167000_3, .bool x167001_3, .int .i64 x167002_3, .string x167003_3, .slice none 0 0] 32 (0, 0)) (bk BK166.out) hb); replace BK167 := Aside0.mk (blk_below (g := gb167) (o := .cells #[.int .i64 0, .bool false, .int .i64 0, .string (⟨#[]⟩ : ByteArray), .slice none 0 0] 32 (0, 0)) (bk BK167.out) hb); replace HB := Aside0.mk (below_step (bws HB.out) hb); (try clear hb); (try clear hb2); (try clear hk); (try clear hi); clear A27)))
            go_roundg k3
            case measure => have := HJ2.out; have := HK2.out; have := HK3.out; omega
            case rel => exact ⟨(wrap64 (x8_3 + 1)), (x167000_3), (x167001_3), (x167002_3), (x167003_3), (by first | rfl | (simp; done) | (simp [*]; done)), H', ⟨by have := HJ2.out; have := HK2.out; have := HK3.out; omega⟩, ⟨bk BK166.out⟩, ⟨bk BK167.out⟩, ⟨bws HB.out⟩⟩
          ·
           rw [if_neg c26] at H
           exact absurd H (by simp)
         ·
          rw [if_neg c25] at H
          have c25b0 : decide (x8_3 < (l1.length : Int)) = false := decide_eq_false c25
          clear c25
          have H' := Aside0.mk H
          clear H
          go_wp2
          repeat (go_quiet (fail); try go_wp2)
          go_loopg [9, 10, 11, 12] k3 (fun kq v9 v10 v11 v12 w' => ∃ (x9_4 : Int) (x10_4 : List (S85)) (x11_4 : List ByteArray) (x12_4 : Int) (x167000_4 : Int) (x167001_4 : Bool) (x167002_4 : Int) (x167003_4 : ByteArray), v9 = .int .i64 x9_4 ∧ v12 = .int .i64 x12_4 ∧ Aside0 (stowageref14_Join.l2 kq l0 l1 x9_4 x10_4 x11_4 x12_4 0 false 0 (⟨#[]⟩ : ByteArray) = some (r1, r2, r3, r4, r5, r6)) ∧ Aside0 (kq ≤ k3) ∧ Aside0 (Kd.R k85 85 w' w.heap.size (fun _ => True) v10 x10_4) ∧ Aside0 (Kd.R Kd.string 9 w' w.heap.size (fun _ => True) v11 x11_4) ∧ Aside0 (w'.heap[gb166]? = some (.cells #[.int .i64 x167000_4, .bool x167001_4, .int .i64 x167002_4, .string x167003_4, (.slice none 0 0)] 32 (0, 0))) ∧ Aside0 (w'.heap[gb167]? = some (.cells #[.int .i64 0, .bool false, .int .i64 0, .string (⟨#[]⟩ : ByteArray), (.slice none 0 0)] 32 (0, 0))) ∧ Aside0 (Below w.heap.size w w'))
          case atStart => exact ⟨(0), (([] : List (S85))), (([] : List ByteArray)), (0), (x167000_3), (x167001_3), (x167002_3), (x167003_3), (by first | rfl | (simp; done) | (simp [*]; done)), (by first | rfl | (simp; done) | (simp [*]; done)), H', ⟨Nat.le_refl _⟩, ⟨by first | exact Kd.R_nil _ _ _ _ _ | exact Kd.N_nil _ _ _ _ _ | exact Kd.V_nil _ _ _ _ _ | exact Kd.Q_nil _ _ _ _ _ | exact Kd.S_nil _ _ _ _ _⟩, ⟨by first | exact Kd.R_nil _ _ _ _ _ | exact Kd.N_nil _ _ _ _ _ | exact Kd.V_nil _ _ _ _ _ | exact Kd.Q_nil _ _ _ _ _ | exact Kd.S_nil _ _ _ _ _⟩, ⟨bk BK166.out⟩, ⟨bk BK167.out⟩, ⟨bws HB.out⟩⟩
          case round =>
           clear H'
           try clear c1
           try clear p1
           try clear q1
           try clear hx1
           try clear c2
           try clear p2
           try clear c3
           try clear c6
           try clear p6
           try clear c9
           try clear c10
           try clear c12
           try clear c13
           try clear c16
           try clear c16b0
           try clear p16
           try clear q16
           try clear hx16
           try clear c17
           try clear c17b0
           try clear p17
           try clear q17
           try clear hx17
           try clear c19
           try clear c19b0
           try clear c20
           try clear c20b0
           try clear c21
           try clear c21b0
           try clear c22
           try clear c25
           try clear c25b0
           try clear c26
           try clear c26b0
           try clear c28
           try clear c28b0
           try clear c30
           try clear hcz14_0
           try clear hcz14_1
           try clear hcz14_2
           try clear hcz14_3
           try clear hcz14_4
           try clear hcz15_0
           try clear hcz15_1
           try clear hcz15_2
           try clear hcz15_3
           try clear hcz15_4
           try clear hcz23_0
           try clear hcz23_1
           try clear hcz23_2
           try clear hcz23_3
           try clear hcz23_4
           try clear hcz24_0
           try clear hcz24_1
           try clear hcz24_2
           try clear hcz24_3
           try clear hcz24_4
           try clear hcz31_0
           try clear hcz31_1
           try clear hcz31_2
           try clear hcz31_3
           try clear hcz31_4
           try clear hcz32_0
           try clear hcz32_1
           try clear hcz32_2
           try clear hcz32_3
           try clear hcz32_4
           try clear hcz7_0
           try clear hcz7_1
           try clear hcz7_2
           try clear hcz7_3
           try clear hcz7_4
           try clear hfz14_0
           try clear hfz14_1
           try clear hfz14_2
           try clear hfz14_3
           try clear hfz14_4
           try clear hfz15_0
           try clear hfz15_1
           try clear hfz15_2
           try clear hfz15_3
           try clear hfz15_4
           try clear hfz23_0
           try clear hfz23_1
           try clear hfz23_2
           try clear hfz23_3
           try clear hfz23_4
           try clear hfz24_0
           try clear hfz24_1
           try clear hfz24_2
           try clear hfz24_3
           try clear hfz24_4
           try clear hfz31_0
           try clear hfz31_1
           try clear hfz31_2
           try clear hfz31_3
           try clear hfz31_4
           try clear hfz32_0
           try clear hfz32_1
           try clear hfz32_2
           try clear hfz32_3
           try clear hfz32_4
           try clear hfz7_0
           try clear hfz7_1
           try clear hfz7_2
           try clear hfz7_3
           try clear hfz7_4
           try clear hx169_0
           try clear hx169_1
           try clear hx170_0
           try clear hx170_1
           try clear hx171_0
           try clear hx171_1
           try clear p1
           try clear p16
           try clear p169
           try clear p17
           try clear p170
           try clear p171
           try clear p2
           try clear p6
           try clear q1
           try clear q16
           try clear q169
           try clear q17
           try clear q170
           try clear q171
           obtain ⟨x9_4, x10_4, x11_4, x12_4, x167000_4, x167001_4, x167002_4, x167003_4, rfl, rfl, HA, HK4, HO_10, HO_11, BK166, BK167, HB⟩ := hrel
           cases gk with
           | zero => exact absurd HA.out (by simp [stowageref14_Join.l2])
           | succ k4 =>
            have H := HA.out
            clear HA
            simp only [stowageref14_Join.l2] at H
            by_cases c34 : x12_4 < (l1.length : Int)
            ·
             rw [if_pos c34] at H
             have c34b0 : decide (x12_4 < (l1.length : Int)) = true := decide_eq_true c34
             clear c34
             by_cases c35 : 0 ≤ x12_4
             ·
              rw [if_pos c35] at H
              have c35b0 : decide (0 ≤ x12_4) = true := decide_eq_true c35
              clear c35
              replace H := Option.bind_eq_some_iff.mp H
              obtain ⟨t174, A360, H⟩ := H
              replace H : (if 0 ≤ t174 then (if t174 < (l0.length : Int) then (if ((rd_T52 l0 t174).f1) < 64 then (if x12_4 < (wrap64 ((l1.length : Int) - 1)) then (some (0, false, 0, (⟨#[]⟩ : ByteArray), ([] : List (S85)), 141)) else (if x10_4.length + ((rd_T52 l0 t174).f3).length < 5864062014805 then (if x11_4.length < 8796093022208 then (stowageref14_Join.l2 k4 l0 l1 (wrap64 (x9_4 + ((rd_T52 l0 t174).f1))) (x10_4 ++ ((rd_T52 l0 t174).f3)) (x11_4 ++ [(rd_T52 l0 t174).f2]) (wrap64 (x12_4 + 1)) 0 false 0 (⟨#[]⟩ : ByteArray)) else (none)) else (none))) else (if x10_4.length + ((rd_T52 l0 t174).f3).length < 5864062014805 then (if x11_4.length < 8796093022208 then (stowageref14_Join.l2 k4 l0 l1 (wrap64 (x9_4 + ((rd_T52 l0 t174).f1))) (x10_4 ++ ((rd_T52 l0 t174).f3)) (x11_4 ++ [(rd_T52 l0 t174).f2]) (wrap64 (x12_4 + 1)) 0 false 0 (⟨#[]⟩ : ByteArray)) else (none)) else (none))) else (none)) else (none)) = some (r1, r2, r3, r4, r5, r6) := H
              have A36 := Aside0.mk A360
              clear A360
              by_cases c37 : 0 ≤ t174
              ·
               rw [if_pos c37] at H
               have c37b0 : decide (0 ≤ t174) = true := decide_eq_true c37
               clear c37
               by_cases c38 : t174 < (l0.length : Int)
               ·
                rw [if_pos c38] at H
                have c38b0 : decide (t174 < (l0.length : Int)) = true := decide_eq_true c38
                clear c38
                by_cases c39 : ((rd_T52 l0 t174).f1) < 64
                ·
                 rw [if_pos c39] at H
                 have c39b0 : decide (((rd_T52 l0 t174).f1) < 64) = true := decide_eq_true c39
                 clear c39
                 by_cases c40 : x12_4 < (wrap64 ((l1.length : Int) - 1))
                 ·
                  rw [if_pos c40] at H
                  have c40b0 : decide (x12_4 < (wrap64 ((l1.length : Int) - 1))) = true := decide_eq_true c40
                  clear c40
                  simp only [Option.some.injEq, Prod.mk.injEq] at H
                  obtain ⟨rfl, rfl, rfl, rfl, rfl, rfl⟩ := H
                  have p173 : 0 ≤ (x12_4 : Int) := of_decide_eq_true asm
                  have q173 : x12_4 < (l1.length : Int) := of_decide_eq_true asm
                  obtain ⟨ad173, e173, hx173_0, hx173_1⟩ := at_T79 HR1.out x12_4 p173 q173
                  cases e173
                  replace hx173_0 := bc HB.out hx173_0
                  replace hx173_1 := bc HB.out hx173_1
                  replace p173 := eq_true p173
                  replace q173 := eq_true q173
                  go_wp2_with (first | (go_at_call 34; (with_reducible refine (stowageref14_at.calls k4 _ _ l0 ((rd_T79 l1 x12_4).f0) ((rd_T79 l1 x12_4).f1) t174 _ ?side1 ?side2 A36.out).mono ?_); (case side1 => exact kC (Kd.C_below HR0.out HB.out)); (case side2 => exact HC0.out); rintro e w41 ⟨rfl, hb⟩; replace HO_10 := Aside0.mk (Kd.R_below (kR HO_10.out) hb); replace HO_11 := Aside0.mk (Kd.R_below (kR HO_11.out) hb); replace BK166 := Aside0.mk (blk_below (g := gb166) (o := .cells #[.int .i64 x167000_4, .bool x167001_4, .int .i64 x167002_4, .string x167003_4, .slice none 0 0] 32 (0, 0)) (bk BK166.out) hb); replace BK167 := Aside0.mk (blk_below (g := gb167) (o := .cells #[.int .i64 0, .bool false, .int .i64 0, .string (⟨#[]⟩ : ByteArray), .slice none 0 0] 32 (0, 0)) (bk BK167.out) hb); replace HB := Aside0.mk (below_step (bws HB.out) hb); (try clear hb); (try clear hb2); (try clear hk); (try clear hi); have p175 : 0 ≤ (t174 : Int) := of_decide_eq_true asm; have q175 : t174 < (l0.length : Int) := of_decide_eq_true asm; obtain ⟨ad175, A175_3, c175_3, e175, hx175_0, hx175_1, hx175_2, hx175_3, hl175_3, hi175_3⟩ := at_T52 HR0.out t174 p175 q175; cases e175; replace hx175_0 := bc HB.out hx175_0; replace hx175_1 := bc HB.out hx175_1; replace hx175_2 := bc HB.out hx175_2; replace hx175_3 := bc HB.out hx175_3; have HR175_3 := Aside0.mk hi175_3; have HC175_3 := Aside0.mk hl175_3; clear hi175_3 hl175_3; replace p175 := eq_true p175; replace q175 := eq_true q175) | ((with_reducible refine gate_dst (N := 13) rfl ?_); (try (refine gate_guard (by rfl) ?_; dsimp only)); refine box_event ?hg (N := 13) ?hd (cs := #[.int .i64 0, .int .i64 0, .string (⟨#[]⟩ : ByteArray), .slice none 0 0]) (t := 52) ?hr ?_; (case hd => rfl); (case hg => rfl); (case hr => first | (go_simp; done) | (go_simp; rfl)); intro gb176 hg w42 hbox hb; have n0_ := Aside0.mk (Kd.R_below (kR HO_10.out) hb); have n1_ := Aside0.mk (Kd.R_below (kR HO_11.out) hb); have n2_ := Aside0.mk (blk_below (g := gb166) (o := .cells #[.int .i64 x167000_4, .bool x167001_4, .int .i64 x167002_4, .string x167003_4, .slice none 0 0] 32 (0, 0)) (bk BK166.out) hb); have n3_ := Aside0.mk (blk_below (g := gb167) (o := .cells #[.int .i64 0, .bool false, .int .i64 0, .string (⟨#[]⟩ : ByteArray), .slice none 0 0] 32 (0, 0)) (bk BK167.out) hb); have n4_ := Aside0.mk (below_step (bws HB.out) hb); have n5_ := Aside0.mk (hbox); have n6_ := Aside0.mk ((by rw [hg]; exact (below_size (bws HB.out)) : w.heap.size ≤ gb176)); have n7_ := Aside0.mk ((by rw [hg]; exact (below_size (bws HB.out)) : w.heap.size ≤ gb176)); have n8_ := Aside0.mk ((by rw [hg]; exact Nat.ne_of_lt (blk_lt (g := gb166) (o := .cells #[.int .i64 x167000_4, .bool x167001_4, .int .i64 x167002_4, .string x167003_4, .slice none 0 0] 32 (0, 0)) (bk BK166.out)) : gb166 ≠ gb176)); have n9_ := Aside0.mk ((by rw [hg]; exact Nat.ne_of_gt (blk_lt (g := gb166) (o := .cells #[.int .i64 x167000_4, .bool x167001_4, .int .i64 x167002_4, .string x167003_4, .slice none 0 0] 32 (0, 0)) (bk BK166.out)) : gb176 ≠ gb166)); have n10_ := Aside0.mk ((by rw [hg]; exact Nat.ne_of_lt (blk_lt (g := gb167) (o := .cells #[.int .i64 0, .bool false, .int .i64 0, .string (⟨#[]⟩ : ByteArray), .slice none 0 0] 32 (0, 0)) (bk BK167.out)) : gb167 ≠ gb176)); have n11_ := Aside0.mk ((by rw [hg]; exact Nat.ne_of_gt (blk_lt (g := gb167) (o := .cells #[.int .i64 0, .bool false, .int .i64 0, .string (⟨#[]⟩ : ByteArray), .slice none 0 0] 32 (0, 0)) (bk BK167.out)) : gb176 ≠ gb167)); clear HO_10; clear HO_11; clear BK166; clear BK167; clear HB; have HO_10 := n0_; have HO_11 := n1_; have BK166 := n2_; have BK167 := n3_; have HB := n4_; have BK176 := n5_; have GW176 := n6_; have GE176 := n7_; have NB166_176 := n8_; have NB176_166 := n9_; have NB167_176 := n10_; have NB176_167 := n11_; clear n0_ n1_ n2_ n3_ n4_ n5_ n6_ n7_ n8_ n9_ n10_ n11_; clear hb hbox hg; have hnb43 := NB176_166.out; have hnc43 := NB166_176.out; have hnb44 := NB176_167.out; have hnc44 := NB167_176.out; obtain ⟨hcz45_0, hcz45_1, hcz45_2, hcz45_3, hfz45_0, hfz45_1, hfz45_2, hfz45_3⟩ := cz4 BK176.out; have hnb46 := NB167_166.out; have hnc46 := NB166_167.out; obtain ⟨hcz47_0, hcz47_1, hcz47_2, hcz47_3, hcz47_4, hfz47_0, hfz47_1, hfz47_2, hfz47_3, hfz47_4⟩ := cz5 BK167.out; obtain ⟨hcz48_0, hcz48_1, hcz48_2, hcz48_3, hcz48_4, hfz48_0, hfz48_1, hfz48_2, hfz48_3, hfz48_4⟩ := cz5 BK166.out))
                  repeat (go_quiet (first | (go_at_call 34; (with_reducible refine (stowageref14_at.calls k4 _ _ l0 ((rd_T79 l1 x12_4).f0) ((rd_T79 l1 x12_4).f1) t174 _ ?side1 ?side2 A36.out).mono ?_); (case side1 => exact kC (Kd.C_below HR0.out HB.out)); (case side2 => exact HC0.out); rintro e w41 ⟨rfl, hb⟩; replace HO_10 := Aside0.mk (Kd.R_below (kR HO_10.out) hb); replace HO_11 := Aside0.mk (Kd.R_below (kR HO_11.out) hb); replace BK166 := Aside0.mk (blk_below (g := gb166) (o := .cells #[.int .i64 x167000_4, .bool x167001_4, .int .i64 x167002_4, .string x167003_4, .slice none 0 0] 32 (0, 0)) (bk BK166.out) hb); replace BK167 := Aside0.mk (blk_below (g := gb167) (o := .cells #[.int .i64 0, .bool false, .int .i64 0, .string (⟨#[]⟩ : ByteArray), .slice none 0 0] 32 (0, 0)) (bk BK167.out) hb); replace HB := Aside0.mk (below_step (bws HB.out) hb); (try clear hb); (try clear hb2); (try clear hk); (try clear hi); have p175 : 0 ≤ (t174 : Int) := of_decide_eq_true asm; have q175 : t174 < (l0.length : Int) := of_decide_eq_true asm; obtain ⟨ad175, A175_3, c175_3, e175, hx175_0, hx175_1, hx175_2, hx175_3, hl175_3, hi175_3⟩ := at_T52 HR0.out t174 p175 q175; cases e175; replace hx175_0 := bc HB.out hx175_0; replace hx175_1 := bc HB.out hx175_1; replace hx175_2 := bc HB.out hx175_2; replace hx175_3 := bc HB.out hx175_3; have HR175_3 := Aside0.mk hi175_3; have HC175_3 := Aside0.mk hl175_3; clear hi175_3 hl175_3; replace p175 := eq_true p175; replace q175 := eq_true q175; clear A36) | ((with_reducible refine gate_dst (N := 13) rfl ?_); (try (refine gate_guard (by rfl) ?_; dsimp only)); refine box_event ?hg (N := 13) ?hd (cs := #[.int .i64 0, .int .i64 0, .string (⟨#[]⟩ : ByteArray), .slice none 0 0]) (t := 52) ?hr ?_; (case hd => rfl); (case hg => rfl); (case hr => first | (go_simp; done) | (go_simp; rfl)); intro gb176 hg w42 hbox hb; have n0_ := Aside0.mk (Kd.R_below (kR HO_10.out) hb); have n1_ := Aside0.mk (Kd.R_below (kR HO_11.out) hb); have n2_ := Aside0.mk (blk_below (g := gb166) (o := .cells #[.int .i64 x167000_4, .bool x167001_4, .int .i64 x167002_4, .string x167003_4, .slice none 0 0] 32 (0, 0)) (bk BK166.out) hb); have n3_ := Aside0.mk (blk_below (g := gb167) (o := .cells #[.int .i64 0, .bool false, .int .i64 0, .string (⟨#[]⟩ : ByteArray), .slice none 0 0] 32 (0, 0)) (bk BK167.out) hb); have n4_ := Aside0.mk (below_step (bws HB.out) hb); have n5_ := Aside0.mk (hbox); have n6_ := Aside0.mk ((by rw [hg]; exact (below_size (bws HB.out)) : w.heap.size ≤ gb176)); have n7_ := Aside0.mk ((by rw [hg]; exact (below_size (bws HB.out)) : w.heap.size ≤ gb176)); have n8_ := Aside0.mk ((by rw [hg]; exact Nat.ne_of_lt (blk_lt (g := gb166) (o := .cells #[.int .i64 x167000_4, .bool x167001_4, .int .i64 x167002_4, .string x167003_4, .slice none 0 0] 32 (0, 0)) (bk BK166.out)) : gb166 ≠ gb176)); have n9_ := Aside0.mk ((by rw [hg]; exact Nat.ne_of_gt (blk_lt (g := gb166) (o := .cells #[.int .i64 x167000_4, .bool x167001_4, .int .i64 x167002_4, .string x167003_4, .slice none 0 0] 32 (0, 0)) (bk BK166.out)) : gb176 ≠ gb166)); have n10_ := Aside0.mk ((by rw [hg]; exact Nat.ne_of_lt (blk_lt (g := gb167) (o := .cells #[.int .i64 0, .bool false, .int .i64 0, .string (⟨#[]⟩ : ByteArray), .slice none 0 0] 32 (0, 0)) (bk BK167.out)) : gb167 ≠ gb176)); have n11_ := Aside0.mk ((by rw [hg]; exact Nat.ne_of_gt (blk_lt (g := gb167) (o := .cells #[.int .i64 0, .bool false, .int .i64 0, .string (⟨#[]⟩ : ByteArray), .slice none 0 0] 32 (0, 0)) (bk BK167.out)) : gb176 ≠ gb167)); clear HO_10; clear HO_11; clear BK166; clear BK167; clear HB; have HO_10 := n0_; have HO_11 := n1_; have BK166 := n2_; have BK167 := n3_; have HB := n4_; have BK176 := n5_; have GW176 := n6_; have GE176 := n7_; have NB166_176 := n8_; have NB176_166 := n9_; have NB167_176 := n10_; have NB176_167 := n11_; clear n0_ n1_ n2_ n3_ n4_ n5_ n6_ n7_ n8_ n9_ n10_ n11_; clear hb hbox hg; have hnb43 := NB176_166.out; have hnc43 := NB166_176.out; have hnb44 := NB176_167.out; have hnc44 := NB167_176.out; obtain ⟨hcz45_0, hcz45_1, hcz45_2, hcz45_3, hfz45_0, hfz45_1, hfz45_2, hfz45_3⟩ := cz4 BK176.out; have hnb46 := NB167_166.out; have hnc46 := NB166_167.out; obtain ⟨hcz47_0, hcz47_1, hcz47_2, hcz47_3, hcz47_4, hfz47_0, hfz47_1, hfz47_2, hfz47_3, hfz47_4⟩ := cz5 BK167.out; obtain ⟨hcz48_0, hcz48_1, hcz48_2, hcz48_3, hcz48_4, hfz48_0, hfz48_1, hfz48_2, hfz48_3, hfz48_4⟩ := cz5 BK166.out)); try go_wp2_with (first | (go_at_call 34; (with_reducible refine (stowageref14_at.calls k4 _ _ l0 ((rd_T79 l1 x12_4).f0) ((rd_T79 l1 x12_4).f1) t174 _ ?side1 ?side2 A36.out).mono ?_); (case side1 => exact kC (Kd.C_below HR0.out HB.out)); (case side2 => exact HC0.out); rintro e w41 ⟨rfl, hb⟩; replace HO_10 := Aside0.mk (Kd.R_below (kR HO_10.out) hb); replace HO_11 := Aside0.mk (Kd.R_below (kR HO_11.out) hb); replace BK166 := Aside0.mk (blk_below (g := gb166) (o := .cells #[.int .i64 x167000_4, .bool x167001_4, .int .i64 x167002_4, .string x167003_4, .slice none 0 0] 32 (0, 0)) (bk BK166.out) hb); replace BK167 := Aside0.mk (blk_below (g := gb167) (o := .cells #[.int .i64 0, .bool false, .int .i64 0, .string (⟨#[]⟩ : ByteArray), .slice none 0 0] 32 (0, 0)) (bk BK167.out) hb); replace HB := Aside0.mk (below_step (bws HB.out) hb); (try clear hb); (try clear hb2); (try clear hk); (try clear hi); have p175 : 0 ≤ (t174 : Int) := of_decide_eq_true asm; have q175 : t174 < (l0.length : Int) := of_decide_eq_true asm; obtain ⟨ad175, A175_3, c175_3, e175, hx175_0, hx175_1, hx175_2, hx175_3, hl175_3, hi175_3⟩ := at_T52 HR0.out t174 p175 q175; cases e175; replace hx175_0 := bc HB.out hx175_0; replace hx175_1 := bc HB.out hx175_1; replace hx175_2 := bc HB.out hx175_2; replace hx175_3 := bc HB.out hx175_3; have HR175_3 := Aside0.mk hi175_3; have HC175_3 := Aside0.mk hl175_3; clear hi175_3 hl175_3; replace p175 := eq_true p175; replace q175 := eq_true q175; clear A36) | ((with_reducible refine gate_dst (N := 13) rfl ?_); (try (refine gate_guard (by rfl) ?_; dsimp only)); refine box_event ?hg (N := 13) ?hd (cs := #[.int .i64 0, .int .i64 0, .string (⟨#[]⟩ : ByteArray), .slice none 0 0]) (t := 52) ?hr ?_; (case hd => rfl); (case hg => rfl); (case hr => first | (go_simp; done) | (go_simp; rfl)); intro gb176 hg w42 hbox hb; have n0_ := Aside0.mk (Kd.R_below (kR HO_10.out) hb); have n1_ := Aside0.mk (Kd.R_below (kR HO_11.out) hb); have n2_ := Aside0.mk (blk_below (g := gb166) (o := .cells #[.int .i64 x167000_4, .bool x167001_4, .int .i64 x167002_4, .string x167003_4, .slice none 0 0] 32 (0, 0)) (bk BK166.out) hb); have n3_ := Aside0.mk (blk_below (g := gb167) (o := .cells #[.int .i64 0, .bool false, .int .i64 0, .string (⟨#[]⟩ : ByteArray), .slice none 0 0] 32 (0, 0)) (bk BK167.out) hb); have n4_ := Aside0.mk (below_step (bws HB.out) hb); have n5_ := Aside0.mk (hbox); have n6_ := Aside0.mk ((by rw [hg]; exact (below_size (bws HB.out)) : w.heap.size ≤ gb176)); have n7_ := Aside0.mk ((by rw [hg]; exact (below_size (bws HB.out)) : w.heap.size ≤ gb176)); have n8_ := Aside0.mk ((by rw [hg]; exact Nat.ne_of_lt (blk_lt (g := gb166) (o := .cells #[.int .i64 x167000_4, .bool x167001_4, .int .i64 x167002_4, .string x167003_4, .slice none 0 0] 32 (0, 0)) (bk BK166.out)) : gb166 ≠ gb176)); have n9_ := Aside0.mk ((by rw [hg]; exact Nat.ne_of_gt (blk_lt (g := gb166) (o := .cells #[.int .i64 x167000_4, .bool x167001_4, .int .i64 x167002_4, .string x167003_4, .slice none 0 0] 32 (0, 0)) (bk BK166.out)) : gb176 ≠ gb166)); have n10_ := Aside0.mk ((by rw [hg]; exact Nat.ne_of_lt (blk_lt (g := gb167) (o := .cells #[.int .i64 0, .bool false, .int .i64 0, .string (⟨#[]⟩ : ByteArray), .slice none 0 0] 32 (0, 0)) (bk BK167.out)) : gb167 ≠ gb176)); have n11_ := Aside0.mk ((by rw [hg]; exact Nat.ne_of_gt (blk_lt (g := gb167) (o := .cells #[.int .i64 0, .bool false, .int .i64 0, .string (⟨#[]⟩ : ByteArray), .slice none 0 0] 32 (0, 0)) (bk BK167.out)) : gb176 ≠ gb167)); clear HO_10; clear HO_11; clear BK166; clear BK167; clear HB; have HO_10 := n0_; have HO_11 := n1_; have BK166 := n2_; have BK167 := n3_; have HB := n4_; have BK176 := n5_; have GW176 := n6_; have GE176 := n7_; have NB166_176 := n8_; have NB176_166 := n9_; have NB167_176 := n10_; have NB176_167 := n11_; clear n0_ n1_ n2_ n3_ n4_ n5_ n6_ n7_ n8_ n9_ n10_ n11_; clear hb hbox hg; have hnb43 := NB176_166.out; have hnc43 := NB166_176.out; have hnb44 := NB176_167.out; have hnc44 := NB167_176.out; obtain ⟨hcz45_0, hcz45_1, hcz45_2, hcz45_3, hfz45_0, hfz45_1, hfz45_2, hfz45_3⟩ := cz4 BK176.out; have hnb46 := NB167_166.out; have hnc46 := NB166_167.out; obtain ⟨hcz47_0, hcz47_1, hcz47_2, hcz47_3, hcz47_4, hfz47_0, hfz47_1, hfz47_2, hfz47_3, hfz47_4⟩ := cz5 BK167.out; obtain ⟨hcz48_0, hcz48_1, hcz48_2, hcz48_3, hcz48_4, hfz48_0, hfz48_1, hfz48_2, hfz48_3, hfz48_4⟩ := cz5 BK166.out)))
                  refine bodyPost_ret (results_ct rfl _ _ gb166 32 #[.int .i64 0, .bool false, .int .i64 0, .string (⟨#[]⟩ : ByteArray), .slice none 0 0] (0, 0) _ rfl (bkf BK166.out) Tryd.underlying32 rfl (by kernel_rfl)) rfl ?_
                  exact ⟨_, by first | rfl | (simp [errW_none, errW_some] <;> rfl) | (simp [*, errW_none, errW_some] <;> rfl), by first | exact Kd.R_nil _ _ _ _ _ | exact Kd.N_nil _ _ _ _ _ | exact Kd.V_nil _ _ _ _ _ | exact Kd.Q_nil _ _ _ _ _ | exact Kd.S_nil _ _ _ _ _, by repeat (first | (with_reducible first | exact HB.out | apply below_alloc | apply pw_below_drewN | apply below_drew1 | refine below_set ?_ GE166.out | refine below_set ?_ GE167.out | refine below_set ?_ GE176.out) | exact HB.out)⟩
                 ·
                  rw [if_neg c40] at H
                  have c40b0 : decide (x12_4 < (wrap64 ((l1.length : Int) - 1))) = false := decide_eq_false c40
                  clear c40
                  by_cases c49 : x10_4.length + ((rd_T52 l0 t174).f3).length < 5864062014805
                  ·
                   rw [if_pos c49] at H
                   have LMc49 := Aside0.mk c49
                   clear c49
                   obtain ⟨y177, hy177⟩ : ∃ y_ : List (S85), y_ = (x10_4 ++ ((rd_T52 l0 t174).f3)) := ⟨_, rfl⟩
                   replace H : (if x11_4.length < 8796093022208 then (stowageref14_Join.l2 k4 l0 l1 (wrap64 (x9_4 + ((rd_T52 l0 t174).f1))) y177 (x11_4 ++ [(rd_T52 l0 t174).f2]) (wrap64 (x12_4 + 1)) 0 false 0 (⟨#[]⟩ : ByteArray)) else (none)) = some (r1, r2, r3, r4, r5, r6) := by first | (rw [hy177]; with_reducible exact H) | (have H2_ := (Option.bind_some _ _).symm.trans H; rw [hy177]; with_reducible exact H2_) | (have H2_ := (Option.bind_some _ _).symm.trans H; with_reducible exact H2_) | with_reducible exact H | (rw [hy177]; exact H) | exact H
                   have Ny177 := Aside0.mk hy177
                   clear hy177
                   by_cases c50 : x11_4.length < 8796093022208
                   ·
                    rw [if_pos c50] at H
                    have LMc50 := Aside0.mk c50
                    clear c50
                    obtain ⟨y180, hy180⟩ : ∃ y_ : List ByteArray, y_ = (x11_4 ++ [(rd_T52 l0 t174).f2]) := ⟨_, rfl⟩
                    replace H : (stowageref14_Join.l2 k4 l0 l1 (wrap64 (x9_4 + ((rd_T52 l0 t174).f1))) y177 y180 (wrap64 (x12_4 + 1)) 0 false 0 (⟨#[]⟩ : ByteArray)) = some (r1, r2, r3, r4, r5, r6) := by first | (rw [hy180]; with_reducible exact H) | (have H2_ := (Option.bind_some _ _).symm.trans H; rw [hy180]; with_reducible exact H2_) | (have H2_ := (Option.bind_some _ _).symm.trans H; with_reducible exact H2_) | with_reducible exact H | (rw [hy180]; exact H) | exact H
                    have Ny180 := Aside0.mk hy180
                    clear hy180
                    have H' := Aside0.mk H
                    clear H
                    have p173 : 0 ≤ (x12_4 : Int) := of_decide_eq_true asm
                    have q173 : x12_4 < (l1.length : Int) := of_decide_eq_true asm
                    obtain ⟨ad173, e173, hx173_0, hx173_1⟩ := at_T79 HR1.out x12_4 p173 q173
                    cases e173
                    replace hx173_0 := bc HB.out hx173_0
                    replace hx173_1 := bc HB.out hx173_1
                    replace p173 := eq_true p173
                    replace q173 := eq_true q173
                    go_wp2_with (first | (go_at_call 34; (with_reducible refine (stowageref14_at.calls k4 _ _ l0 ((rd_T79 l1 x12_4).f0) ((rd_T79 l1 x12_4).f1) t174 _ ?side1 ?side2 A36.out).mono ?_); (case side1 => exact kC (Kd.C_below HR0.out HB.out)); (case side2 => exact HC0.out); rintro e w51 ⟨rfl, hb⟩; replace HO_10 := Aside0.mk (Kd.R_below (kR HO_10.out) hb); replace HO_11 := Aside0.mk (Kd.R_below (kR HO_11.out) hb); replace BK166 := Aside0.mk (blk_below (g := gb166) (o := .cells #[.int .i64 x167000_4, .bool x167001_4, .int .i64 x167002_4, .string x167003_4, .slice none 0 0] 32 (0, 0)) (bk BK166.out) hb); replace BK167 := Aside0.mk (blk_below (g := gb167) (o := .cells #[.int .i64 0, .bool false, .int .i64 0, .string (⟨#[]⟩ : ByteArray), .slice none 0 0] 32 (0, 0)) (bk BK167.out) hb); replace HB := Aside0.mk (below_step (bws HB.out) hb); (try clear hb); (try clear hb2); (try clear hk); (try clear hi); have p175 : 0 ≤ (t174 : Int) := of_decide_eq_true asm; have q175 : t174 < (l0.length : Int) := of_decide_eq_true asm; obtain ⟨ad175, A175_3, c175_3, e175, hx175_0, hx175_1, hx175_2, hx175_3, hl175_3, hi175_3⟩ := at_T52 HR0.out t174 p175 q175; cases e175; replace hx175_0 := bc HB.out hx175_0; replace hx175_1 := bc HB.out hx175_1; replace hx175_2 := bc HB.out hx175_2; replace hx175_3 := bc HB.out hx175_3; have HR175_3 := Aside0.mk hi175_3; have HC175_3 := Aside0.mk hl175_3; clear hi175_3 hl175_3; replace p175 := eq_true p175; replace q175 := eq_true q175) | ((with_reducible refine gate_dst (N := 13) rfl ?_); (try (refine gate_guard (by rfl) ?_; dsimp only)); refine box_event ?hg (N := 13) ?hd (cs := #[.int .i64 0, .int .i64 0, .string (⟨#[]⟩ : ByteArray), .slice none 0 0]) (t := 52) ?hr ?_; (case hd => rfl); (case hg => rfl); (case hr => first | (go_simp; done) | (go_simp; rfl)); intro gb176 hg w52 hbox hb; have n0_ := Aside0.mk (Kd.R_below (kR HO_10.out) hb); have n1_ := Aside0.mk (Kd.R_below (kR HO_11.out) hb); have n2_ := Aside0.mk (blk_below (g := gb166) (o := .cells #[.int .i64 x167000_4, .bool x167001_4, .int .i64 x167002_4, .string x167003_4, .slice none 0 0] 32 (0, 0)) (bk BK166.out) hb); have n3_ := Aside0.mk (blk_below (g := gb167) (o := .cells #[.int .i64 0, .bool false, .int .i64 0, .string (⟨#[]⟩ : ByteArray), .slice none 0 0] 32 (0, 0)) (bk BK167.out) hb); have n4_ := Aside0.mk (below_step (bws HB.out) hb); have n5_ := Aside0.mk (hbox); have n6_ := Aside0.mk ((by rw [hg]; exact (below_size (bws HB.out)) : w.heap.size ≤ gb176)); have n7_ := Aside0.mk ((by rw [hg]; exact (below_size (bws HB.out)) : w.heap.size ≤ gb176)); have n8_ := Aside0.mk ((by rw [hg]; exact Nat.ne_of_lt (blk_lt (g := gb166) (o := .cells #[.int .i64 x167000_4, .bool x167001_4, .int .i64 x167002_4, .string x167003_4, .slice none 0 0] 32 (0, 0)) (bk BK166.out)) : gb166 ≠ gb176)); have n9_ := Aside0.mk ((by rw [hg]; exact Nat.ne_of_gt (blk_lt (g := gb166) (o := .cells #[.int .i64 x167000_4, .bool x167001_4, .int .i64 x167002_4, .string x167003_4, .slice none 0 0] 32 (0, 0)) (bk BK166.out)) : gb176 ≠ gb166)); have n10_ := Aside0.mk ((by rw [hg]; exact Nat.ne_of_lt (blk_lt (g := gb167) (o := .cells #[.int .i64 0, .bool false, .int .i64 0, .string (⟨#[]⟩ : ByteArray), .slice none 0 0] 32 (0, 0)) (bk BK167.out)) : gb167 ≠ gb176)); have n11_ := Aside0.mk ((by rw [hg]; exact Nat.ne_of_gt (blk_lt (g := gb167) (o := .cells #[.int .i64 0, .bool false, .int .i64 0, .string (⟨#[]⟩ : ByteArray), .slice none 0 0] 32 (0, 0)) (bk BK167.out)) : gb176 ≠ gb167)); clear HO_10; clear HO_11; clear BK166; clear BK167; clear HB; have HO_10 := n0_; have HO_11 := n1_; have BK166 := n2_; have BK167 := n3_; have HB := n4_; have BK176 := n5_; have GW176 := n6_; have GE176 := n7_; have NB166_176 := n8_; have NB176_166 := n9_; have NB167_176 := n10_; have NB176_167 := n11_; clear n0_ n1_ n2_ n3_ n4_ n5_ n6_ n7_ n8_ n9_ n10_ n11_; clear hb hbox hg; have hnb53 := NB176_166.out; have hnc53 := NB166_176.out; have hnb54 := NB176_167.out; have hnc54 := NB167_176.out; obtain ⟨hcz55_0, hcz55_1, hcz55_2, hcz55_3, hfz55_0, hfz55_1, hfz55_2, hfz55_3⟩ := cz4 BK176.out) | ((with_reducible refine gate_builtin (b := .append) (xs := #[.tmp 87, .tmp 89]) rfl ?_); (try (refine gate_guard (by rfl) ?_; dsimp only)); at_builtin; refine Kd.R_append_rows k85 (w0 := w) w.heap.size rfl (.tmp 87) (.tmp 89) 30 85 (.agg #[(.string ⟨#[]⟩), (.int .i64 0)]) 24 rfl Tryd.underlying30 info85 rfl (by decide) (by omega) u10 x10_4 ((rd_T52 l0 t174).f3) _ _ _ (fun _ => True) (fun _ => False) rfl rfl ?aO ?aR (fun _ _ h => h) (fun _ h => h.elim) ?aF ?aB ?aS ?aL ?_; (case aR => exact Kd.C_below HR175_3.out (bws HB.out)); (case aB => exact (bws HB.out)); (case aF => exact (fun _ _ => trivial)); (case aO => exact (by (with_reducible repeat (first | apply Kd.R_alloc | apply Kd.R_drewN | apply Kd.R_drew)); exact Kd.R_mono (Kd.R_far (p := ⟨gb176, 3, none⟩) (Kd.R_far (p := ⟨gb176, 2, none⟩) (Kd.R_far (p := ⟨gb176, 1, none⟩) (Kd.R_far (p := ⟨gb176, 0, none⟩) (Kd.R_types HO_10.out BK176.out (by decide)) (fun _ hk => hk.2) (.int .i64 ((rd_T52 l0 t174).f0))) (fun _ hk => hk.2) (.int .i64 ((rd_T52 l0 t174).f1))) (fun _ hk => hk.2) (.string ((rd_T52 l0 t174).f2))) (fun _ hk => hk.2) (.slice A175_3 ((rd_T52 l0 t174).f3).length c175_3)) (fun _ hk => trivial))); (case aS => exact (below_size (bws HB.out))); (case aL => have := LMc49.out; omega); intro v178 w56 ho hb hg hat; rw [← Ny177.out] at ho; have n0_ := Aside0.mk (Kd.R_over' (by (with_reducible repeat (first | apply Kd.R_alloc | apply Kd.R_drewN | apply Kd.R_drew)); exact (Kd.R_mono (Kd.R_far (p := ⟨gb176, 3, none⟩) (Kd.R_far (p := ⟨gb176, 2, none⟩) (Kd.R_far (p := ⟨gb176, 1, none⟩) (Kd.R_far (p := ⟨gb176, 0, none⟩) (Kd.R_types HO_11.out BK176.out (by decide)) (fun _ hk => hk.2) (.int .i64 ((rd_T52 l0 t174).f0))) (fun _ hk => hk.2) (.int .i64 ((rd_T52 l0 t174).f1))) (fun _ hk => hk.2) (.string ((rd_T52 l0 t174).f2))) (fun _ hk => hk.2) (.slice A175_3 ((rd_T52 l0 t174).f3).length c175_3)) (fun _ h_ => h_.1))) (Kd.R_typed (by (with_reducible repeat (first | apply Kd.R_alloc | apply Kd.R_drewN | apply Kd.R_drew)); exact (Kd.R_mono (Kd.R_far (p := ⟨gb176, 3, none⟩) (Kd.R_far (p := ⟨gb176, 2, none⟩) (Kd.R_far (p := ⟨gb176, 1, none⟩) (Kd.R_far (p := ⟨gb176, 0, none⟩) (Kd.R_types HO_10.out BK176.out (by decide)) (fun _ hk => hk.2) (.int .i64 ((rd_T52 l0 t174).f0))) (fun _ hk => hk.2) (.int .i64 ((rd_T52 l0 t174).f1))) (fun _ hk => hk.2) (.string ((rd_T52 l0 t174).f2))) (fun _ hk => hk.2) (.slice A175_3 ((rd_T52 l0 t174).f3).length c175_3)) (fun _ h_ => h_.1)))) (by decide) hg); have n1_ := Aside0.mk (blk_grown (g := gb166) (o := .cells #[.int .i64 x167000_4, .bool x167001_4, .int .i64 x167002_4, .string x167003_4, .slice none 0 0] 32 (0, 0)) (bkf BK166.out) hg (Kd.R_ne HO_10.out BK166.out (by decide))); have n2_ := Aside0.mk (blk_grown (g := gb167) (o := .cells #[.int .i64 0, .bool false, .int .i64 0, .string (⟨#[]⟩ : ByteArray), .slice none 0 0] 32 (0, 0)) (bkf BK167.out) hg (Kd.R_ne HO_10.out BK167.out (by decide))); have n3_ := Aside0.mk (blk_grown (g := gb176) (o := .cells #[.int .i64 ((rd_T52 l0 t174).f0), .int .i64 ((rd_T52 l0 t174).f1), .string ((rd_T52 l0 t174).f2), .slice A175_3 ((rd_T52 l0 t174).f3).length c175_3] 52 (0, 0)) (bkp BK176.out) hg (Kd.R_ne HO_10.out BK176.out (by decide))); have n4_ := Aside0.mk (hb); have n5_ := Aside0.mk (ho); clear HO_11; clear BK166; clear BK167; clear BK176; clear HB; clear HO_10; have HO_11 := n0_; have BK166 := n1_; have BK167 := n2_; have BK176 := n3_; have HB := n4_; have HO179 := n5_; clear n0_ n1_ n2_ n3_ n4_ n5_; clear ho hb hg hat; obtain ⟨hcz57_0, hcz57_1, hcz57_2, hcz57_3, hfz57_0, hfz57_1, hfz57_2, hfz57_3⟩ := cz4 BK176.out) | ((with_reducible refine gate_builtin (b := .append) (xs := #[.tmp 91, .tmp 94]) rfl ?_); (try (refine gate_guard (by rfl) ?_; dsimp only)); at_builtin; refine Kd.R_append Kd.string (w0 := w) w.heap.size rfl (.tmp 91) (.tmp 94) 56 9 (.string ⟨#[]⟩) 16 rfl Tryd.underlying56 info9 rfl (by decide) (by omega) u11 x11_4 ((rd_T52 l0 t174).f2) [.string ((rd_T52 l0 t174).f2)] (fun _ => True) (fun _ => False) rfl rfl ?aP (fun _ hk => hk.elim) ?aF ?aO ?aB ?aS ?aL ?_; (case aP => exact rfl); (case aB => exact (bws HB.out)); (case aF => exact (fun _ _ => trivial)); (case aO => exact (kR HO_11.out)); (case aS => exact (below_size (bws HB.out))); (case aL => have := LMc50.out; omega); intro v181 w58 ho hb hg hat; rw [← Ny180.out] at ho; have n0_ := Aside0.mk (blk_grown (g := gb166) (o := .cells #[.int .i64 x167000_4, .bool x167001_4, .int .i64 x167002_4, .string x167003_4, .slice none 0 0] 32 (0, 0)) (bk BK166.out) hg (Kd.R_ne HO_11.out BK166.out (by decide))); have n1_ := Aside0.mk (blk_grown (g := gb167) (o := .cells #[.int .i64 0, .bool false, .int .i64 0, .string (⟨#[]⟩ : ByteArray), .slice none 0 0] 32 (0, 0)) (bk BK167.out) hg (Kd.R_ne HO_11.out BK167.out (by decide))); have n2_ := Aside0.mk (blk_grown (g := gb176) (o := .cells #[.int .i64 ((rd_T52 l0 t174).f0), .int .i64 ((rd_T52 l0 t174).f1), .string ((rd_T52 l0 t174).f2), .slice A175_3 ((rd_T52 l0 t174).f3).length c175_3] 52 (0, 0)) (bk BK176.out) hg (Kd.R_ne HO_11.out BK176.out (by decide))); have n3_ := Aside0.mk (Kd.R_over' (kR HO179.out) (Kd.R_typed (kR HO_11.out)) (by decide) hg); have n4_ := Aside0.mk (hb); have n5_ := Aside0.mk (ho); clear BK166; clear BK167; clear BK176; clear HO179; clear HB; clear HO_11; have BK166 := n0_; have BK167 := n1_; have BK176 := n2_; have HO179 := n3_; have HB := n4_; have HO182 := n5_; clear n0_ n1_ n2_ n3_ n4_ n5_; clear ho hb hg hat))
                    repeat (go_quiet (first | (go_at_call 34; (with_reducible refine (stowageref14_at.calls k4 _ _ l0 ((rd_T79 l1 x12_4).f0) ((rd_T79 l1 x12_4).f1) t174 _ ?side1 ?side2 A36.out).mono ?_); (case side1 => exact kC (Kd.C_below HR0.out HB.out)); (case side2 => exact HC0.out); rintro e w51 ⟨rfl, hb⟩; replace HO_10 := Aside0.mk (Kd.R_below (kR HO_10.out) hb); replace HO_11 := Aside0.mk (Kd.R_below (kR HO_11.out) hb); replace BK166 := Aside0.mk (blk_below (g := gb166) (o := .cells #[.int .i64 x167000_4, .bool x167001_4, .int .i64 x167002_4, .string x167003_4, .slice none 0 0] 32 (0, 0)) (bk BK166.out) hb); replace BK167 := Aside0.mk (blk_below (g := gb167) (o := .cells #[.int .i64 0, .bool false, .int .i64 0, .string (⟨#[]⟩ : ByteArray), .slice none 0 0] 32 (0, 0)) (bk BK167.out) hb); replace HB := Aside0.mk (below_step (bws HB.out) hb); (try clear hb); (try clear hb2); (try clear hk); (try clear hi); have p175 : 0 ≤ (t174 : Int) := of_decide_eq_true asm; have q175 : t174 < (l0.length : Int) := of_decide_eq_true asm; obtain ⟨ad175, A175_3, c175_3, e175, hx175_0, hx175_1, hx175_2, hx175_3, hl175_3, hi175_3⟩ := at_T52 HR0.out t174 p175 q175; cases e175; replace hx175_0 := bc HB.out hx175_0; replace hx175_1 := bc HB.out hx175_1; replace hx175_2 := bc HB.out hx175_2; replace hx175_3 := bc HB.out hx175_3; have HR175_3 := Aside0.mk hi175_3; have HC175_3 := Aside0.mk hl175_3; clear hi175_3 hl175_3; replace p175 := eq_true p175; replace q175 := eq_true q175; clear A36) | ((with_reducible refine gate_dst (N := 13) rfl ?_); (try (refine gate_guard (by rfl) ?_; dsimp only)); refine box_event ?hg (N := 13) ?hd (cs := #[.int .i64 0, .int .i64 0, .string (⟨#[]⟩ : ByteArray), .slice none 0 0]) (t := 52) ?hr ?_; (case hd => rfl); (case hg => rfl); (case hr => first | (go_simp; done) | (go_simp; rfl)); intro gb176 hg w52 hbox hb; have n0_ := Aside0.mk (Kd.R_below (kR HO_10.out) hb); have n1_ := Aside0.mk (Kd.R_below (kR HO_11.out) hb); have n2_ := Aside0.mk (blk_below (g := gb166) (o := .cells #[.int .i64 x167000_4, .bool x167001_4, .int .i64 x167002_4, .string x167003_4, .slice none 0 0] 32 (0, 0)) (bk BK166.out) hb); have n3_ := Aside0.mk (blk_below (g := gb167) (o := .cells #[.int .i64 0, .bool false, .int .i64 0, .string (⟨#[]⟩ : ByteArray), .slice none 0 0] 32 (0, 0)) (bk BK167.out) hb); have n4_ := Aside0.mk (below_step (bws HB.out) hb); have n5_ := Aside0.mk (hbox); have n6_ := Aside0.mk ((by rw [hg]; exact (below_size (bws HB.out)) : w.heap.size ≤ gb176)); have n7_ := Aside0.mk ((by rw [hg]; exact (below_size (bws HB.out)) : w.heap.size ≤ gb176)); have n8_ := Aside0.mk ((by rw [hg]; exact Nat.ne_of_lt (blk_lt (g := gb166) (o := .cells #[.int .i64 x167000_4, .bool x167001_4, .int .i64 x167002_4, .string x167003_4, .slice none 0 0] 32 (0, 0)) (bk BK166.out)) : gb166 ≠ gb176)); have n9_ := Aside0.mk ((by rw [hg]; exact Nat.ne_of_gt (blk_lt (g := gb166) (o := .cells #[.int .i64 x167000_4, .bool x167001_4, .int .i64 x167002_4, .string x167003_4, .slice none 0 0] 32 (0, 0)) (bk BK166.out)) : gb176 ≠ gb166)); have n10_ := Aside0.mk ((by rw [hg]; exact Nat.ne_of_lt (blk_lt (g := gb167) (o := .cells #[.int .i64 0, .bool false, .int .i64 0, .string (⟨#[]⟩ : ByteArray), .slice none 0 0] 32 (0, 0)) (bk BK167.out)) : gb167 ≠ gb176)); have n11_ := Aside0.mk ((by rw [hg]; exact Nat.ne_of_gt (blk_lt (g := gb167) (o := .cells #[.int .i64 0, .bool false, .int .i64 0, .string (⟨#[]⟩ : ByteArray), .slice none 0 0] 32 (0, 0)) (bk BK167.out)) : gb176 ≠ gb167)); clear HO_10; clear HO_11; clear BK166; clear BK167; clear HB; have HO_10 := n0_; have HO_11 := n1_; have BK166 := n2_; have BK167 := n3_; have HB := n4_; have BK176 := n5_; have GW176 := n6_; have GE176 := n7_; have NB166_176 := n8_; have NB176_166 := n9_; have NB167_176 := n10_; have NB176_167 := n11_; clear n0_ n1_ n2_ n3_ n4_ n5_ n6_ n7_ n8_ n9_ n10_ n11_; clear hb hbox hg; have hnb53 := NB176_166.out; have hnc53 := NB166_176.out; have hnb54 := NB176_167.out; have hnc54 := NB167_176.out; obtain ⟨hcz55_0, hcz55_1, hcz55_2, hcz55_3, hfz55_0, hfz55_1, hfz55_2, hfz55_3⟩ := cz4 BK176.out) | ((with_reducible refine gate_builtin (b := .append) (xs := #[.tmp 87, .tmp 89]) rfl ?_); (try (refine gate_guard (by rfl) ?_; dsimp only)); at_builtin; refine Kd.R_append_rows k85 (w0 := w) w.heap.size rfl (.tmp 87) (.tmp 89) 30 85 (.agg #[(.string ⟨#[]⟩), (.int .i64 0)]) 24 rfl Tryd.underlying30 info85 rfl (by decide) (by omega) u10 x10_4 ((rd_T52 l0 t174).f3) _ _ _ (fun _ => True) (fun _ => False) rfl rfl ?aO ?aR (fun _ _ h => h) (fun _ h => h.elim) ?aF ?aB ?aS ?aL ?_; (case aR => exact Kd.C_below HR175_3.out (bws HB.out)); (case aB => exact (bws HB.out)); (case aF => exact (fun _ _ => trivial)); (case aO => exact (by (with_reducible repeat (first | apply Kd.R_alloc | apply Kd.R_drewN | apply Kd.R_drew)); exact Kd.R_mono (Kd.R_far (p := ⟨gb176, 3, none⟩) (Kd.R_far (p := ⟨gb176, 2, none⟩) (Kd.R_far (p := ⟨gb176, 1, none⟩) (Kd.R_far (p := ⟨gb176, 0, none⟩) (Kd.R_types HO_10.out BK176.out (by decide)) (fun _ hk => hk.2) (.int .i64 ((rd_T52 l0 t174).f0))) (fun _ hk => hk.2) (.int .i64 ((rd_T52 l0 t174).f1))) (fun _ hk => hk.2) (.string ((rd_T52 l0 t174).f2))) (fun _ hk => hk.2) (.slice A175_3 ((rd_T52 l0 t174).f3).length c175_3)) (fun _ hk => trivial))); (case aS => exact (below_size (bws HB.out))); (case aL => have := LMc49.out; omega); intro v178 w56 ho hb hg hat; rw [← Ny177.out] at ho; have n0_ := Aside0.mk (Kd.R_over' (by (with_reducible repeat (first | apply Kd.R_alloc | apply Kd.R_drewN | apply Kd.R_drew)); exact (Kd.R_mono (Kd.R_far (p := ⟨gb176, 3, none⟩) (Kd.R_far (p := ⟨gb176, 2, none⟩) (Kd.R_far (p := ⟨gb176, 1, none⟩) (Kd.R_far (p := ⟨gb176, 0, none⟩) (Kd.R_types HO_11.out BK176.out (by decide)) (fun _ hk => hk.2) (.int .i64 ((rd_T52 l0 t174).f0))) (fun _ hk => hk.2) (.int .i64 ((rd_T52 l0 t174).f1))) (fun _ hk => hk.2) (.string ((rd_T52 l0 t174).f2))) (fun _ hk => hk.2) (.slice A175_3 ((rd_T52 l0 t174).f3).length c175_3)) (fun _ h_ => h_.1))) (Kd.R_typed (by (with_reducible repeat (first | apply Kd.R_alloc | apply Kd.R_drewN | apply Kd.R_drew)); exact (Kd.R_mono (Kd.R_far (p := ⟨gb176, 3, none⟩) (Kd.R_far (p := ⟨gb176, 2, none⟩) (Kd.R_far (p := ⟨gb176, 1, none⟩) (Kd.R_far (p := ⟨gb176, 0, none⟩) (Kd.R_types HO_10.out BK176.out (by decide)) (fun _ hk => hk.2) (.int .i64 ((rd_T52 l0 t174).f0))) (fun _ hk => hk.2) (.int .i64 ((rd_T52 l0 t174).f1))) (fun _ hk => hk.2) (.string ((rd_T52 l0 t174).f2))) (fun _ hk => hk.2) (.slice A175_3 ((rd_T52 l0 t174).f3).length c175_3)) (fun _ h_ => h_.1)))) (by decide) hg); have n1_ := Aside0.mk (blk_grown (g := gb166) (o := .cells #[.int .i64 x167000_4, .bool x167001_4, .int .i64 x167002_4, .string x167003_4, .slice none 0 0] 32 (0, 0)) (bkf BK166.out) hg (Kd.R_ne HO_10.out BK166.out (by decide))); have n2_ := Aside0.mk (blk_grown (g := gb167) (o := .cells #[.int .i64 0, .bool false, .int .i64 0, .string (⟨#[]⟩ : ByteArray), .slice none 0 0] 32 (0, 0)) (bkf BK167.out) hg (Kd.R_ne HO_10.out BK167.out (by decide))); have n3_ := Aside0.mk (blk_grown (g := gb176) (o := .cells #[.int .i64 ((rd_T52 l0 t174).f0), .int .i64 ((rd_T52 l0 t174).f1), .string ((rd_T52 l0 t174).f2), .slice A175_3 ((rd_T52 l0 t174).f3).length c175_3] 52 (0, 0)) (bkp BK176.out) hg (Kd.R_ne HO_10.out BK176.out (by decide))); have n4_ := Aside0.mk (hb); have n5_ := Aside0.mk (ho); clear HO_11; clear BK166; clear BK167; clear BK176; clear HB; clear HO_10; have HO_11 := n0_; have BK166 := n1_; have BK167 := n2_; have BK176 := n3_; have HB := n4_; have HO179 := n5_; clear n0_ n1_ n2_ n3_ n4_ n5_; clear ho hb hg hat; obtain ⟨hcz57_0, hcz57_1, hcz57_2, hcz57_3, hfz57_0, hfz57_1, hfz57_2, hfz57_3⟩ := cz4 BK176.out) | ((with_reducible refine gate_builtin (b := .append) (xs := #[.tmp 91, .tmp 94]) rfl ?_); (try (refine gate_guard (by rfl) ?_; dsimp only)); at_builtin; refine Kd.R_append Kd.string (w0 := w) w.heap.size rfl (.tmp 91) (.tmp 94) 56 9 (.string ⟨#[]⟩) 16 rfl Tryd.underlying56 info9 rfl (by decide) (by omega) u11 x11_4 ((rd_T52 l0 t174).f2) [.string ((rd_T52 l0 t174).f2)] (fun _ => True) (fun _ => False) rfl rfl ?aP (fun _ hk => hk.elim) ?aF ?aO ?aB ?aS ?aL ?_; (case aP => exact rfl); (case aB => exact (bws HB.out)); (case aF => exact (fun _ _ => trivial)); (case aO => exact (kR HO_11.out)); (case aS => exact (below_size (bws HB.out))); (case aL => have := LMc50.out; omega); intro v181 w58 ho hb hg hat; rw [← Ny180.out] at ho; have n0_ := Aside0.mk (blk_grown (g := gb166) (o := .cells #[.int .i64 x167000_4, .bool x167001_4, .int .i64 x167002_4, .string x167003_4, .slice none 0 0] 32 (0, 0)) (bk BK166.out) hg (Kd.R_ne HO_11.out BK166.out (by decide))); have n1_ := Aside0.mk (blk_grown (g := gb167) (o := .cells #[.int .i64 0, .bool false, .int .i64 0, .string (⟨#[]⟩ : ByteArray), .slice none 0 0] 32 (0, 0)) (bk BK167.out) hg (Kd.R_ne HO_11.out BK167.out (by decide))); have n2_ := Aside0.mk (blk_grown (g := gb176) (o := .cells #[.int .i64 ((rd_T52 l0 t174).f0), .int .i64 ((rd_T52 l0 t174).f1), .string ((rd_T52 l0 t174).f2), .slice A175_3 ((rd_T52 l0 t174).f3).length c175_3] 52 (0, 0)) (bk BK176.out) hg (Kd.R_ne HO_11.out BK176.out (by decide))); have n3_ := Aside0.mk (Kd.R_over' (kR HO179.out) (Kd.R_typed (kR HO_11.out)) (by decide) hg); have n4_ := Aside0.mk (hb); have n5_ := Aside0.mk (ho); clear BK166; clear BK167; clear BK176; clear HO179; clear HB; clear HO_11; have BK166 := n0_; have BK167 := n1_; have BK176 := n2_; have HO179 := n3_; have HB := n4_; have HO182 := n5_; clear n0_ n1_ n2_ n3_ n4_ n5_; clear ho hb hg hat)); try go_wp2_with (first | (go_at_call 34; (with_reducible refine (stowageref14_at.calls k4 _ _ l0 ((rd_T79 l1 x12_4).f0) ((rd_T79 l1 x12_4).f1) t174 _ ?side1 ?side2 A36.out).mono ?_); (case side1 => exact kC (Kd.C_below HR0.out HB.out)); (case side2 => exact HC0.out); rintro e w51 ⟨rfl, hb⟩; replace HO_10 := Aside0.mk (Kd.R_below (kR HO_10.out) hb); replace HO_11 := Aside0.mk (Kd.R_below (kR HO_11.out) hb); replace BK166 := Aside0.mk (blk_below (g := gb166) (o := .cells #[.int .i64 x167000_4, .bool x167001_4, .int .i64 x167002_4, .string x167003_4, .slice none 0 0] 32 (0, 0)) (bk BK166.out) hb); replace BK167 := Aside0.mk (blk_below (g := gb167) (o := .cells #[.int .i64 0, .bool false, .int .i64 0, .string (⟨#[]⟩ : ByteArray), .slice none 0 0] 32 (0, 0)) (bk BK167.out) hb); replace HB := Aside0.mk (below_step (bws HB.out) hb); (try clear hb); (try clear hb2); (try clear hk); (try clear hi); have p175 : 0 ≤ (t174 : Int) := of_decide_eq_true asm; have q175 : t174 < (l0.length : Int) := of_decide_eq_true asm; obtain ⟨ad175, A175_3, c175_3, e175, hx175_0, hx175_1, hx175_2, hx175_3, hl175_3, hi175_3⟩ := at_T52 HR0.out t174 p175 q175; cases e175; replace hx175_0 := bc HB.out hx175_0; replace hx175_1 := bc HB.out hx175_1; replace hx175_2 := bc HB.out hx175_2; replace hx175_3 := bc HB.out hx175_3; have HR175_3 := Aside0.mk hi175_3; have HC175_3 := Aside0.mk hl175_3; clear hi175_3 hl175_3; replace p175 := eq_true p175; replace q175 := eq_true q175; clear A36) | ((with_reducible refine gate_dst (N := 13) rfl ?_); (try (refine gate_guard (by rfl) ?_; dsimp only)); refine box_event ?hg (N := 13) ?hd (cs := #[.int .i64 0, .int .i64 0, .string (⟨#[]⟩ : ByteArray), .slice none 0 0]) (t := 52) ?hr ?_; (case hd => rfl); (case hg => rfl); (case hr => first | (go_simp; done) | (go_simp; rfl)); intro gb176 hg w52 hbox hb; have n0_ := Aside0.mk (Kd.R_below (kR HO_10.out) hb); have n1_ := Aside0.mk (Kd.R_below (kR HO_11.out) hb); have n2_ := Aside0.mk (blk_below (g := gb166) (o := .cells #[.int .i64 x167000_4, .bool x167001_4, .int .i64 x167002_4, .string x167003_4, .slice none 0 0] 32 (0, 0)) (bk BK166.out) hb); have n3_ := Aside0.mk (blk_below (g := gb167) (o := .cells #[.int .i64 0, .bool false, .int .i64 0, .string (⟨#[]⟩ : ByteArray), .slice none 0 0] 32 (0, 0)) (bk BK167.out) hb); have n4_ := Aside0.mk (below_step (bws HB.out) hb); have n5_ := Aside0.mk (hbox); have n6_ := Aside0.mk ((by rw [hg]; exact (below_size (bws HB.out)) : w.heap.size ≤ gb176)); have n7_ := Aside0.mk ((by rw [hg]; exact (below_size (bws HB.out)) : w.heap.size ≤ gb176)); have n8_ := Aside0.mk ((by rw [hg]; exact Nat.ne_of_lt (blk_lt (g := gb166) (o := .cells #[.int .i64 x167000_4, .bool x167001_4, .int .i64 x167002_4, .string x167003_4, .slice none 0 0] 32 (0, 0)) (bk BK166.out)) : gb166 ≠ gb176)); have n9_ := Aside0.mk ((by rw [hg]; exact Nat.ne_of_gt (blk_lt (g := gb166) (o := .cells #[.int .i64 x167000_4, .bool x167001_4, .int .i64 x167002_4, .string x167003_4, .slice none 0 0] 32 (0, 0)) (bk BK166.out)) : gb176 ≠ gb166)); have n10_ := Aside0.mk ((by rw [hg]; exact Nat.ne_of_lt (blk_lt (g := gb167) (o := .cells #[.int .i64 0, .bool false, .int .i64 0, .string (⟨#[]⟩ : ByteArray), .slice none 0 0] 32 (0, 0)) (bk BK167.out)) : gb167 ≠ gb176)); have n11_ := Aside0.mk ((by rw [hg]; exact Nat.ne_of_gt (blk_lt (g := gb167) (o := .cells #[.int .i64 0, .bool false, .int .i64 0, .string (⟨#[]⟩ : ByteArray), .slice none 0 0] 32 (0, 0)) (bk BK167.out)) : gb176 ≠ gb167)); clear HO_10; clear HO_11; clear BK166; clear BK167; clear HB; have HO_10 := n0_; have HO_11 := n1_; have BK166 := n2_; have BK167 := n3_; have HB := n4_; have BK176 := n5_; have GW176 := n6_; have GE176 := n7_; have NB166_176 := n8_; have NB176_166 := n9_; have NB167_176 := n10_; have NB176_167 := n11_; clear n0_ n1_ n2_ n3_ n4_ n5_ n6_ n7_ n8_ n9_ n10_ n11_; clear hb hbox hg; have hnb53 := NB176_166.out; have hnc53 := NB166_176.out; have hnb54 := NB176_167.out; have hnc54 := NB167_176.out; obtain ⟨hcz55_0, hcz55_1, hcz55_2, hcz55_3, hfz55_0, hfz55_1, hfz55_2, hfz55_3⟩ := cz4 BK176.out) | ((with_reducible refine gate_builtin (b := .append) (xs := #[.tmp 87, .tmp 89]) rfl ?_); (try (refine gate_guard (by rfl) ?_; dsimp only)); at_builtin; refine Kd.R_append_rows k85 (w0 := w) w.heap.size rfl (.tmp 87) (.tmp 89) 30 85 (.agg #[(.string ⟨#[]⟩), (.int .i64 0)]) 24 rfl Tryd.underlying30 info85 rfl (by decide) (by omega) u10 x10_4 ((rd_T52 l0 t174).f3) _ _ _ (fun _ => True) (fun _ => False) rfl rfl ?aO ?aR (fun _ _ h => h) (fun _ h => h.elim) ?aF ?aB ?aS ?aL ?_; (case aR => exact Kd.C_below HR175_3.out (bws HB.out)); (case aB => exact (bws HB.out)); (case aF => exact (fun _ _ => trivial)); (case aO => exact (by (with_reducible repeat (first | apply Kd.R_alloc | apply Kd.R_drewN | apply Kd.R_drew)); exact Kd.R_mono (Kd.R_far (p := ⟨gb176, 3, none⟩) (Kd.R_far (p := ⟨gb176, 2, none⟩) (Kd.R_far (p := ⟨gb176, 1, none⟩) (Kd.R_far (p := ⟨gb176, 0, none⟩) (Kd.R_types HO_10.out BK176.out (by decide)) (fun _ hk => hk.2) (.int .i64 ((rd_T52 l0 t174).f0))) (fun _ hk => hk.2) (.int .i64 ((rd_T52 l0 t174).f1))) (fun _ hk => hk.2) (.string ((rd_T52 l0 t174).f2))) (fun _ hk => hk.2) (.slice A175_3 ((rd_T52 l0 t174).f3).length c175_3)) (fun _ hk => trivial))); (case aS => exact (below_size (bws HB.out))); (case aL => have := LMc49.out; omega); intro v178 w56 ho hb hg hat; rw [← Ny177.out] at ho; have n0_ := Aside0.mk (Kd.R_over' (by (with_reducible repeat (first | apply Kd.R_alloc | apply Kd.R_drewN | apply Kd.R_drew)); exact (Kd.R_mono (Kd.R_far (p := ⟨gb176, 3, none⟩) (Kd.R_far (p := ⟨gb176, 2, none⟩) (Kd.R_far (p := ⟨gb176, 1, none⟩) (Kd.R_far (p := ⟨gb176, 0, none⟩) (Kd.R_types HO_11.out BK176.out (by decide)) (fun _ hk => hk.2) (.int .i64 ((rd_T52 l0 t174).f0))) (fun _ hk => hk.2) (.int .i64 ((rd_T52 l0 t174).f1))) (fun _ hk => hk.2) (.string ((rd_T52 l0 t174).f2))) (fun _ hk => hk.2) (.slice A175_3 ((rd_T52 l0 t174).f3).length c175_3)) (fun _ h_ => h_.1))) (Kd.R_typed (by (with_reducible repeat (first | apply Kd.R_alloc | apply Kd.R_drewN | apply Kd.R_drew)); exact (Kd.R_mono (Kd.R_far (p := ⟨gb176, 3, none⟩) (Kd.R_far (p := ⟨gb176, 2, none⟩) (Kd.R_far (p := ⟨gb176, 1, none⟩) (Kd.R_far (p := ⟨gb176, 0, none⟩) (Kd.R_types HO_10.out BK176.out (by decide)) (fun _ hk => hk.2) (.int .i64 ((rd_T52 l0 t174).f0))) (fun _ hk => hk.2) (.int .i64 ((rd_T52 l0 t174).f1))) (fun _ hk => hk.2) (.string ((rd_T52 l0 t174).f2))) (fun _ hk => hk.2) (.slice A175_3 ((rd_T52 l0 t174).f3).length c175_3)) (fun _ h_ => h_.1)))) (by decide) hg); have n1_ := Aside0.mk (blk_grown (g := gb166) (o := .cells #[.int .i64 x167000_4, .bool x167001_4, .int .i64 x167002_4, .string x167003_4, .slice none 0 0] 32 (0, 0)) (bkf BK166.out) hg (Kd.R_ne HO_10.out BK166.out (by decide))); have n2_ := Aside0.mk (blk_grown (g := gb167) (o := .cells #[.int .i64 0, .bool false, .int .i64 0, .string (⟨#[]⟩ : ByteArray), .slice none 0 0] 32 (0, 0)) (bkf BK167.out) hg (Kd.R_ne HO_10.out BK167.out (by decide))); have n3_ := Aside0.mk (blk_grown (g := gb176) (o := .cells #[.int .i64 ((rd_T52 l0 t174).f0), .int .i64 ((rd_T52 l0 t174).f1), .string ((rd_T52 l0 t174).f2), .slice A175_3 ((rd_T52 l0 t174).f3).length c175_3] 52 (0, 0)) (bkp BK176.out) hg (Kd.R_ne HO_10.out BK176.out (by decide))); have n4_ := Aside0.mk (hb); have n5_ := Aside0.mk (ho); clear HO_11; clear BK166; clear BK167; clear BK176; clear HB; clear HO_10; have HO_11 := n0_; have BK166 := n1_; have BK167 := n2_; have BK176 := n3_; have HB := n4_; have HO179 := n5_; clear n0_ n1_ n2_ n3_ n4_ n5_; clear ho hb hg hat; obtain ⟨hcz57_0, hcz57_1, hcz57_2, hcz57_3, hfz57_0, hfz57_1, hfz57_2, hfz57_3⟩ := cz4 BK176.out) | ((with_reducible refine gate_builtin (b := .append) (xs := #[.tmp 91, .tmp 94]) rfl ?_); (try (refine gate_guard (by rfl) ?_; dsimp only)); at_builtin; refine Kd.R_append Kd.string (w0 := w) w.heap.size rfl (.tmp 91) (.tmp 94) 56 9 (.string ⟨#[]⟩) 16 rfl Tryd.underlying56 info9 rfl (by decide) (by omega) u11 x11_4 ((rd_T52 l0 t174).f2) [.string ((rd_T52 l0 t174).f2)] (fun _ => True) (fun _ => False) rfl rfl ?aP (fun _ hk => hk.elim) ?aF ?aO ?aB ?aS ?aL ?_; (case aP => exact rfl); (case aB => exact (bws HB.out)); (case aF => exact (fun _ _ => trivial)); (case aO => exact (kR HO_11.out)); (case aS => exact (below_size (bws HB.out))); (case aL => have := LMc50.out; omega); intro v181 w58 ho hb hg hat; rw [← Ny180.out] at ho; have n0_ := Aside0.mk (blk_grown (g := gb166) (o := .cells #[.int .i64 x167000_4, .bool x167001_4, .int .i64 x167002_4, .string x167003_4, .slice none 0 0] 32 (0, 0)) (bk BK166.out) hg (Kd.R_ne HO_11.out BK166.out (by decide))); have n1_ := Aside0.mk (blk_grown (g := gb167) (o := .cells #[.int .i64 0, .bool false, .int .i64 0, .string (⟨#[]⟩ : ByteArray), .slice none 0 0] 32 (0, 0)) (bk BK167.out) hg (Kd.R_ne HO_11.out BK167.out (by decide))); have n2_ := Aside0.mk (blk_grown (g := gb176) (o := .cells #[.int .i64 ((rd_T52 l0 t174).f0), .int .i64 ((rd_T52 l0 t174).f1), .string ((rd_T52 l0 t174).f2), .slice A175_3 ((rd_T52 l0 t174).f3).length c175_3] 52 (0, 0)) (bk BK176.out) hg (Kd.R_ne HO_11.out BK176.out (by decide))); have n3_ := Aside0.mk (Kd.R_over' (kR HO179.out) (Kd.R_typed (kR HO_11.out)) (by decide) hg); have n4_ := Aside0.mk (hb); have n5_ := Aside0.mk (ho); clear BK166; clear BK167; clear BK176; clear HO179; clear HB; clear HO_11; have BK166 := n0_; have BK167 := n1_; have BK176 := n2_; have HO179 := n3_; have HB := n4_; have HO182 := n5_; clear n0_ n1_ n2_ n3_ n4_ n5_; clear ho hb hg hat)))
                    go_roundg k4
                    case measure => have := HJ2.out; have := HK2.out; have := HK3.out; have := HK4.out; omega
                    case rel => exact ⟨(wrap64 (x9_4 + ((rd_T52 l0 t174).f1))), (y177), (y180), (wrap64 (x12_4 + 1)), (x167000_4), (x167001_4), (x167002_4), (x167003_4), (by first | rfl | (simp; done) | (simp [*]; done)), (by first | rfl | (simp; done) | (simp [*]; done)), H', ⟨by have := HJ2.out; have := HK2.out; have := HK3.out; have := HK4.out; omega⟩, ⟨kR HO179.out⟩, ⟨kR HO182.out⟩, ⟨bk BK166.out⟩, ⟨bk BK167.out⟩, ⟨bws HB.out⟩⟩
                   ·
                    rw [if_neg c50] at H
                    exact absurd H (by simp)
                  ·
                   rw [if_neg c49] at H
                   exact absurd H (by simp)
                ·
                 rw [if_neg c39] at H
                 have c39b0 : decide (((rd_T52 l0 t174).f1) < 64) = false := decide_eq_false c39
                 clear c39
                 by_cases c59 : x10_4.length + ((rd_T52 l0 t174).f3).length < 5864062014805
                 ·
                  rw [if_pos c59] at H
                  have LMc59 := Aside0.mk c59
                  clear c59
                  obtain ⟨y183, hy183⟩ : ∃ y_ : List (S85), y_ = (x10_4 ++ ((rd_T52 l0 t174).f3)) := ⟨_, rfl⟩
                  replace H : (if x11_4.length < 8796093022208 then (stowageref14_Join.l2 k4 l0 l1 (wrap64 (x9_4 + ((rd_T52 l0 t174).f1))) y183 (x11_4 ++ [(rd_T52 l0 t174).f2]) (wrap64 (x12_4 + 1)) 0 false 0 (⟨#[]⟩ : ByteArray)) else (none)) = some (r1, r2, r3, r4, r5, r6) := by first | (rw [hy183]; with_reducible exact H) | (have H2_ := (Option.bind_some _ _).symm.trans H; rw [hy183]; with_reducible exact H2_) | (have H2_ := (Option.bind_some _ _).symm.trans H; with_reducible exact H2_) | with_reducible exact H | (rw [hy183]; exact H) | exact H
                  have Ny183 := Aside0.mk hy183
                  clear hy183
                  by_cases c60 : x11_4.length < 8796093022208
                  ·
                   rw [if_pos c60] at H
                   have LMc60 := Aside0.mk c60
                   clear c60
                   obtain ⟨y186, hy186⟩ : ∃ y_ : List ByteArray, y_ = (x11_4 ++ [(rd_T52 l0 t174).f2]) := ⟨_, rfl⟩
                   replace H : (stowageref14_Join.l2 k4 l0 l1 (wrap64 (x9_4 + ((rd_T52 l0 t174).f1))) y183 y186 (wrap64 (x12_4 + 1)) 0 false 0 (⟨#[]⟩ : ByteArray)) = some (r1, r2, r3, r4, r5, r6) := by first | (rw [hy186]; with_reducible exact H) | (have H2_ := (Option.bind_some _ _).symm.trans H; rw [hy186]; with_reducible exact H2_) | (have H2_ := (Option.bind_some _ _).symm.trans H; with_reducible exact H2_) | with_reducible exact H | (rw [hy186]; exact H) | exact H
                   have Ny186 := Aside0.mk hy186
                   clear hy186
                   have H' := Aside0.mk H
                   clear H
                   have p173 : 0 ≤ (x12_4 : Int) := of_decide_eq_true asm
                   have q173 : x12_4 < (l1.length : Int) := of_decide_eq_true asm
                   obtain ⟨ad173, e173, hx173_0, hx173_1⟩ := at_T79 HR1.out x12_4 p173 q173
                   cases e173
                   replace hx173_0 := bc HB.out hx173_0
                   replace hx173_1 := bc HB.out hx173_1
                   replace p173 := eq_true p173
                   replace q173 := eq_true q173
                   go_wp2_with (first | (go_at_call 34; (with_reducible refine (stowageref14_at.calls k4 _ _ l0 ((rd_T79 l1 x12_4).f0) ((rd_T79 l1 x12_4).f1) t174 _ ?side1 ?side2 A36.out).mono ?_); (case side1 => exact kC (Kd.C_below HR0.out HB.out)); (case side2 => exact HC0.out); rintro e w61 ⟨rfl, hb⟩; replace HO_10 := Aside0.mk (Kd.R_below (kR HO_10.out) hb); replace HO_11 := Aside0.mk (Kd.R_below (kR HO_11.out) hb); replace BK166 := Aside0.mk (blk_below (g := gb166) (o := .cells #[.int .i64 x167000_4, .bool x167001_4, .int .i64 x167002_4, .string x167003_4, .slice none 0 0] 32 (0, 0)) (bk BK166.out) hb); replace BK167 := Aside0.mk (blk_below (g := gb167) (o := .cells #[.int .i64 0, .bool false, .int .i64 0, .string (⟨#[]⟩ : ByteArray), .slice none 0 0] 32 (0, 0)) (bk BK167.out) hb); replace HB := Aside0.mk (below_step (bws HB.out) hb); (try clear hb); (try clear hb2); (try clear hk); (try clear hi); have p175 : 0 ≤ (t174 : Int) := of_decide_eq_true asm; have q175 : t174 < (l0.length : Int) := of_decide_eq_true asm; obtain ⟨ad175, A175_3, c175_3, e175, hx175_0, hx175_1, hx175_2, hx175_3, hl175_3, hi175_3⟩ := at_T52 HR0.out t174 p175 q175; cases e175; replace hx175_0 := bc HB.out hx175_0; replace hx175_1 := bc HB.out hx175_1; replace hx175_2 := bc HB.out hx175_2; replace hx175_3 := bc HB.out hx175_3; have HR175_3 := Aside0.mk hi175_3; have HC175_3 := Aside0.mk hl175_3; clear hi175_3 hl175_3; replace p175 := eq_true p175; replace q175 := eq_true q175) | ((with_reducible refine gate_dst (N := 13) rfl ?_); (try (refine gate_guard (by rfl) ?_; dsimp only)); refine box_event ?hg (N := 13) ?hd (cs := #[.int .i64 0, .int .i64 0, .string (⟨#[]⟩ : ByteArray), .slice none 0 0]) (t := 52) ?hr ?_; (case hd => rfl); (case hg => rfl); (case hr => first | (go_simp; done) | (go_simp; rfl)); intro gb176 hg w62 hbox hb; have n0_ := Aside0.mk (Kd.R_below (kR HO_10.out) hb); have n1_ := Aside0.mk (Kd.R_below (kR HO_11.out) hb); have n2_ := Aside0.mk (blk_below (g := gb166) (o := .cells #[.int .i64 x167000_4, .bool x167001_4, .int .i64 x167002_4, .string x167003_4, .slice none 0 0] 32 (0, 0)) (bk BK166.out) hb); have n3_ := Aside0.mk (blk_below (g := gb167) (o := .cells #[.int .i64 0, .bool false, .int .i64 0, .string (⟨#[]⟩ : ByteArray), .slice none 0 0] 32 (0, 0)) (bk BK167.out) hb); have n4_ := Aside0.mk (below_step (bws HB.out) hb); have n5_ := Aside0.mk (hbox); have n6_ := Aside0.mk ((by rw [hg]; exact (below_size (bws HB.out)) : w.heap.size ≤ gb176)); have n7_ := Aside0.mk ((by rw [hg]; exact (below_size (bws HB.out)) : w.heap.size ≤ gb176)); have n8_ := Aside0.mk ((by rw [hg]; exact Nat.ne_of_lt (blk_lt (g := gb166) (o := .cells #[.int .i64 x167000_4, .bool x167001_4, .int .i64 x167002_4, .string x167003_4, .slice none 0 0] 32 (0, 0)) (bk BK166.out)) : gb166 ≠ gb176)); have n9_ := Aside0.mk ((by rw [hg]; exact Nat.ne_of_gt (blk_lt (g := gb166) (o := .cells #[.int .i64 x167000_4, .bool x167001_4, .int .i64 x167002_4, .string x167003_4, .slice none 0 0] 32 (0, 0)) (bk BK166.out)) : gb176 ≠ gb166)); have n10_ := Aside0.mk ((by rw [hg]; exact Nat.ne_of_lt (blk_lt (g := gb167) (o := .cells #[.int .i64 0, .bool false, .int .i64 0, .string (⟨#[]⟩ : ByteArray), .slice none 0 0] 32 (0, 0)) (bk BK167.out)) : gb167 ≠ gb176)); have n11_ := Aside0.mk ((by rw [hg]; exact Nat.ne_of_gt (blk_lt (g := gb167) (o := .cells #[.int .i64 0, .bool false, .int .i64 0, .string (⟨#[]⟩ : ByteArray), .slice none 0 0] 32 (0, 0)) (bk BK167.out)) : gb176 ≠ gb167)); clear HO_10; clear HO_11; clear BK166; clear BK167; clear HB; have HO_10 := n0_; have HO_11 := n1_; have BK166 := n2_; have BK167 := n3_; have HB := n4_; have BK176 := n5_; have GW176 := n6_; have GE176 := n7_; have NB166_176 := n8_; have NB176_166 := n9_; have NB167_176 := n10_; have NB176_167 := n11_; clear n0_ n1_ n2_ n3_ n4_ n5_ n6_ n7_ n8_ n9_ n10_ n11_; clear hb hbox hg; have hnb63 := NB176_166.out; have hnc63 := NB166_176.out; have hnb64 := NB176_167.out; have hnc64 := NB167_176.out; obtain ⟨hcz65_0, hcz65_1, hcz65_2, hcz65_3, hfz65_0, hfz65_1, hfz65_2, hfz65_3⟩ := cz4 BK176.out) | ((with_reducible refine gate_builtin (b := .append) (xs := #[.tmp 87, .tmp 89]) rfl ?_); (try (refine gate_guard (by rfl) ?_; dsimp only)); at_builtin; refine Kd.R_append_rows k85 (w0 := w) w.heap.size rfl (.tmp 87) (.tmp 89) 30 85 (.agg #[(.string ⟨#[]⟩), (.int .i64 0)]) 24 rfl Tryd.underlying30 info85 rfl (by decide) (by omega) u10 x10_4 ((rd_T52 l0 t174).f3) _ _ _ (fun _ => True) (fun _ => False) rfl rfl ?aO ?aR (fun _ _ h => h) (fun _ h => h.elim) ?aF ?aB ?aS ?aL ?_; (case aR => exact Kd.C_below HR175_3.out (bws HB.out)); (case aB => exact (bws HB.out)); (case aF => exact (fun _ _ => trivial)); (case aO => exact (by (with_reducible repeat (first | apply Kd.R_alloc | apply Kd.R_drewN | apply Kd.R_drew)); exact Kd.R_mono (Kd.R_far (p := ⟨gb176, 3, none⟩) (Kd.R_far (p := ⟨gb176, 2, none⟩) (Kd.R_far (p := ⟨gb176, 1, none⟩) (Kd.R_far (p := ⟨gb176, 0, none⟩) (Kd.R_types HO_10.out BK176.out (by decide)) (fun _ hk => hk.2) (.int .i64 ((rd_T52 l0 t174).f0))) (fun _ hk => hk.2) (.int .i64 ((rd_T52 l0 t174).f1))) (fun _ hk => hk.2) (.string ((rd_T52 l0 t174).f2))) (fun _ hk => hk.2) (.slice A175_3 ((rd_T52 l0 t174).f3).length c175_3)) (fun _ hk => trivial))); (case aS => exact (below_size (bws HB.out))); (case aL => have := LMc59.out; omega); intro v184 w66 ho hb hg hat; rw [← Ny183.out] at ho; have n0_ := Aside0.mk (Kd.R_over' (by (with_reducible repeat (first | apply Kd.R_alloc | apply Kd.R_drewN | apply Kd.R_drew)); exact (Kd.R_mono (Kd.R_far (p := ⟨gb176, 3, none⟩) (Kd.R_far (p := ⟨gb176, 2, none⟩) (Kd.R_far (p := ⟨gb176, 1, none⟩) (Kd.R_far (p := ⟨gb176, 0, none⟩) (Kd.R_types HO_11.out BK176.out (by decide)) (fun _ hk => hk.2) (.int .i64 ((rd_T52 l0 t174).f0))) (fun _ hk => hk.2) (.int .i64 ((rd_T52 l0 t174).f1))) (fun _ hk => hk.2) (.string ((rd_T52 l0 t174).f2))) (fun _ hk => hk.2) (.slice A175_3 ((rd_T52 l0 t174).f3).length c175_3)) (fun _ h_ => h_.1))) (Kd.R_typed (by (with_reducible repeat (first | apply Kd.R_alloc | apply Kd.R_drewN | apply Kd.R_drew)); exact (Kd.R_mono (Kd.R_far (p := ⟨gb176, 3, none⟩) (Kd.R_far (p := ⟨gb176, 2, none⟩) (Kd.R_far (p := ⟨gb176, 1, none⟩) (Kd.R_far (p := ⟨gb176, 0, none⟩) (Kd.R_types HO_10.out BK176.out (by decide)) (fun _ hk => hk.2) (.int .i64 ((rd_T52 l0 t174).f0))) (fun _ hk => hk.2) (.int .i64 ((rd_T52 l0 t174).f1))) (fun _ hk => hk.2) (.string ((rd_T52 l0 t174).f2))) (fun _ hk => hk.2) (.slice A175_3 ((rd_T52 l0 t174).f3).length c175_3)) (fun _ h_ => h_.1)))) (by decide) hg); have n1_ := Aside0.mk (blk_grown (g := gb166) (o := .cells #[.int .i64 x167000_4, .bool x167001_4, .int .i64 x167002_4, .string x167003_4, .slice none 0 0] 32 (0, 0)) (bkf BK166.out) hg (Kd.R_ne HO_10.out BK166.out (by decide))); have n2_ := Aside0.mk (blk_grown (g := gb167) (o := .cells #[.int .i64 0, .bool false, .int .i64 0, .string (⟨#[]⟩ : ByteArray), .slice none 0 0] 32 (0, 0)) (bkf BK167.out) hg (Kd.R_ne HO_10.out BK167.out (by decide))); have n3_ := Aside0.mk (blk_grown (g := gb176) (o := .cells #[.int .i64 ((rd_T52 l0 t174).f0), .int .i64 ((rd_T52 l0 t174).f1), .string ((rd_T52 l0 t174).f2), .slice A175_3 ((rd_T52 l0 t174).f3).length c175_3] 52 (0, 0)) (bkp BK176.out) hg (Kd.R_ne HO_10.out BK176.out (by decide))); have n4_ := Aside0.mk (hb); have n5_ := Aside0.mk (ho); clear HO_11; clear BK166; clear BK167; clear BK176; clear HB; clear HO_10; have HO_11 := n0_; have BK166 := n1_; have BK167 := n2_; have BK176 := n3_; have HB := n4_; have HO185 := n5_; clear n0_ n1_ n2_ n3_ n4_ n5_; clear ho hb hg hat; obtain ⟨hcz67_0, hcz67_1, hcz67_2, hcz67_3, hfz67_0, hfz67_1, hfz67_2, hfz67_3⟩ := cz4 BK176.out) | ((with_reducible refine gate_builtin (b := .append) (xs := #[.tmp 91, .tmp 94]) rfl ?_); (try (refine gate_guard (by rfl) ?_; dsimp only)); at_builtin; refine Kd.R_append Kd.string (w0 := w) w.heap.size rfl (.tmp 91) (.tmp 94) 56 9 (.string ⟨#[]⟩) 16 rfl Tryd.underlying56 info9 rfl (by decide) (by omega) u11 x11_4 ((rd_T52 l0 t174).f2) [.string ((rd_T52 l0 t174).f2)] (fun _ => True) (fun _ => False) rfl rfl ?aP (fun _ hk => hk.elim) ?aF ?aO ?aB ?aS ?aL ?_; (case aP => exact rfl); (case aB => exact (bws HB.out)); (case aF => exact (fun _ _ => trivial)); (case aO => exact (kR HO_11.out)); (case aS => exact (below_size (bws HB.out))); (case aL => have := LMc60.out; omega); intro v187 w68 ho hb hg hat; rw [← Ny186.out] at ho; have n0_ := Aside0.mk (blk_grown (g := gb166) (o := .cells #[.int .i64 x167000_4, .bool x167001_4, .int .i64 x167002_4, .string x167003_4, .slice none 0 0] 32 (0, 0)) (bk BK166.out) hg (Kd.R_ne HO_11.out BK166.out (by decide))); have n1_ := Aside0.mk (blk_grown (g := gb167) (o := .cells #[.int .i64 0, .bool false, .int .i64 0, .string (⟨#[]⟩ : ByteArray), .slice none 0 0] 32 (0, 0)) (bk BK167.out) hg (Kd.R_ne HO_11.out BK167.out (by decide))); have n2_ := Aside0.mk (blk_grown (g := gb176) (o := .cells #[.int .i64 ((rd_T52 l0 t174).f0), .int .i64 ((rd_T52 l0 t174).f1), .string ((rd_T52 l0 t174).f2), .slice A175_3 ((rd_T52 l0 t174).f3).length c175_3] 52 (0, 0)) (bk BK176.out) hg (Kd.R_ne HO_11.out BK176.out (by decide))); have n3_ := Aside0.mk (Kd.R_over' (kR HO185.out) (Kd.R_typed (kR HO_11.out)) (by decide) hg); have n4_ := Aside0.mk (hb); have n5_ := Aside0.mk (ho); clear BK166; clear BK167; clear BK176; clear HO185; clear HB; clear HO_11; have BK166 := n0_; have BK167 := n1_; have BK176 := n2_; have HO185 := n3_; have HB := n4_; have HO188 := n5_; clear n0_ n1_ n2_ n3_ n4_ n5_; clear ho hb hg hat))
                   repeat (go_quiet (first | (go_at_call 34; (with_reducible refine (stowageref14_at.calls k4 _ _ l0 ((rd_T79 l1 x12_4).f0) ((rd_T79 l1 x12_4).f1) t174 _ ?side1 ?side2 A36.out).mono ?_); (case side1 => exact kC (Kd.C_below HR0.out HB.out)); (case side2 => exact HC0.out); rintro e w61 ⟨rfl, hb⟩; replace HO_10 := Aside0.mk (Kd.R_below (kR HO_10.out) hb); replace HO_11 := Aside0.mk (Kd.R_below (kR HO_11.out) hb); replace BK166 := Aside0.mk (blk_below (g := gb166) (o := .cells #[.int .i64 x167000_4, .bool x167001_4, .int .i64 x167002_4, .string x167003_4, .slice none 0 0] 32 (0, 0)) (bk BK166.out) hb); replace BK167 := Aside0.mk (blk_below (g := gb167) (o := .cells #[.int .i64 0, .bool false, .int .i64 0, .string (⟨#[]⟩ : ByteArray), .slice none 0 0] 32 (0, 0)) (bk BK167.out) hb); replace HB := Aside0.mk (below_step (bws HB.out) hb); (try clear hb); (try clear hb2); (try clear hk); (try clear hi); have p175 : 0 ≤ (t174 : Int) := of_decide_eq_true asm; have q175 : t174 < (l0.length : Int) := of_decide_eq_true asm; obtain ⟨ad175, A175_3, c175_3, e175, hx175_0, hx175_1, hx175_2, hx175_3, hl175_3, hi175_3⟩ := at_T52 HR0.out t174 p175 q175; cases e175; replace hx175_0 := bc HB.out hx175_0; replace hx175_1 := bc HB.out hx175_1; replace hx175_2 := bc HB.out hx175_2; replace hx175_3 := bc HB.out hx175_3; have HR175_3 := Aside0.mk hi175_3; have HC175_3 := Aside0.mk hl175_3; clear hi175_3 hl175_3; replace p175 := eq_true p175; replace q175 := eq_true q175; clear A36) | ((with_reducible refine gate_dst (N := 13) rfl ?_); (try (refine gate_guard (by rfl) ?_; dsimp only)); refine box_event ?hg (N := 13) ?hd (cs := #[.int .i64 0, .int .i64 0, .string (⟨#[]⟩ : ByteArray), .slice none 0 0]) (t := 52) ?hr ?_; (case hd => rfl); (case hg => rfl); (case hr => first | (go_simp; done) | (go_simp; rfl)); intro gb176 hg w62 hbox hb; have n0_ := Aside0.mk (Kd.R_below (kR HO_10.out) hb); have n1_ := Aside0.mk (Kd.R_below (kR HO_11.out) hb); have n2_ := Aside0.mk (blk_below (g := gb166) (o := .cells #[.int .i64 x167000_4, .bool x167001_4, .int .i64 x167002_4, .string x167003_4, .slice none 0 0] 32 (0, 0)) (bk BK166.out) hb); have n3_ := Aside0.mk (blk_below (g := gb167) (o := .cells #[.int .i64 0, .bool false, .int .i64 0, .string (⟨#[]⟩ : ByteArray), .slice none 0 0] 32 (0, 0)) (bk BK167.out) hb); have n4_ := Aside0.mk (below_step (bws HB.out) hb); have n5_ := Aside0.mk (hbox); have n6_ := Aside0.mk ((by rw [hg]; exact (below_size (bws HB.out)) : w.heap.size ≤ gb176)); have n7_ := Aside0.mk ((by rw [hg]; exact (below_size (bws HB.out)) : w.heap.size ≤ gb176)); have n8_ := Aside0.mk ((by rw [hg]; exact Nat.ne_of_lt (blk_lt (g := gb166) (o := .cells #[.int .i64 x167000_4, .bool x167001_4, .int .i64 x167002_4, .string x167003_4, .slice none 0 0] 32 (0, 0)) (bk BK166.out)) : gb166 ≠ gb176)); have n9_ := Aside0.mk ((by rw [hg]; exact Nat.ne_of_gt (blk_lt (g := gb166) (o := .cells #[.int .i64 x167000_4, .bool x167001_4, .int .i64 x167002_4, .string x167003_4, .slice none 0 0] 32 (0, 0)) (bk BK166.out)) : gb176 ≠ gb166)); have n10_ := Aside0.mk ((by rw [hg]; exact Nat.ne_of_lt (blk_lt (g := gb167) (o := .cells #[.int .i64 0, .bool false, .int .i64 0, .string (⟨#[]⟩ : ByteArray), .slice none 0 0] 32 (0, 0)) (bk BK167.out)) : gb167 ≠ gb176)); have n11_ := Aside0.mk ((by rw [hg]; exact Nat.ne_of_gt (blk_lt (g := gb167) (o := .cells #[.int .i64 0, .bool false, .int .i64 0, .string (⟨#[]⟩ : ByteArray), .slice none 0 0] 32 (0, 0)) (bk BK167.out)) : gb176 ≠ gb167)); clear HO_10; clear HO_11; clear BK166; clear BK167; clear HB; have HO_10 := n0_; have HO_11 := n1_; have BK166 := n2_; have BK167 := n3_; have HB := n4_; have BK176 := n5_; have GW176 := n6_; have GE176 := n7_; have NB166_176 := n8_; have NB176_166 := n9_; have NB167_176 := n10_; have NB176_167 := n11_; clear n0_ n1_ n2_ n3_ n4_ n5_ n6_ n7_ n8_ n9_ n10_ n11_; clear hb hbox hg; have hnb63 := NB176_166.out; have hnc63 := NB166_176.out; have hnb64 := NB176_167.out; have hnc64 := NB167_176.out; obtain ⟨hcz65_0, hcz65_1, hcz65_2, hcz65_3, hfz65_0, hfz65_1, hfz65_2, hfz65_3⟩ := cz4 BK176.out) | ((with_reducible refine gate_builtin (b := .append) (xs := #[.tmp 87, .tmp 89]) rfl ?_); (try (refine gate_guard (by rfl) ?_; dsimp only)); at_builtin; refine Kd.R_append_rows k85 (w0 := w) w.heap.size rfl (.tmp 87) (.tmp 89) 30 85 (.agg #[(.string ⟨#[]⟩), (.int .i64 0)]) 24 rfl Tryd.underlying30 info85 rfl (by decide) (by omega) u10 x10_4 ((rd_T52 l0 t174).f3) _ _ _ (fun _ => True) (fun _ => False) rfl rfl ?aO ?aR (fun _ _ h => h) (fun _ h => h.elim) ?aF ?aB ?aS ?aL ?_; (case aR => exact Kd.C_below HR175_3.out (bws HB.out)); (case aB => exact (bws HB.out)); (case aF => exact (fun _ _ => trivial)); (case aO => exact (by (with_reducible repeat (first | apply Kd.R_alloc | apply Kd.R_drewN | apply Kd.R_drew)); exact Kd.R_mono (Kd.R_far (p := ⟨gb176, 3, none⟩) (Kd.R_far (p := ⟨gb176, 2, none⟩) (Kd.R_far (p := ⟨gb176, 1, none⟩) (Kd.R_far (p := ⟨gb176, 0, none⟩) (Kd.R_types HO_10.out BK176.out (by decide)) (fun _ hk => hk.2) (.int .i64 ((rd_T52 l0 t174).f0))) (fun _ hk => hk.2) (.int .i64 ((rd_T52 l0 t174).f1))) (fun _ hk => hk.2) (.string ((rd_T52 l0 t174).f2))) (fun _ hk => hk.2) (.slice A175_3 ((rd_T52 l0 t174).f3).length c175_3)) (fun _ hk => trivial))); (case aS => exact (below_size (bws HB.out))); (case aL => have := LMc59.out; omega); intro v184 w66 ho hb hg hat; rw [← Ny183.out] at ho; have n0_ := Aside0.mk (Kd.R_over' (by (with_reducible repeat (first | apply Kd.R_alloc | apply Kd.R_drewN | apply Kd.R_drew)); exact (Kd.R_mono (Kd.R_far (p := ⟨gb176, 3, none⟩) (Kd.R_far (p := ⟨gb176, 2, none⟩) (Kd.R_far (p := ⟨gb176, 1, none⟩) (Kd.R_far (p := ⟨gb176, 0, none⟩) (Kd.R_types HO_11.out BK176.out (by decide)) (fun _ hk => hk.2) (.int .i64 ((rd_T52 l0 t174).f0))) (fun _ hk => hk.2) (.int .i64 ((rd_T52 l0 t174).f1))) (fun _ hk => hk.2) (.string ((rd_T52 l0 t174).f2))) (fun _ hk => hk.2) (.slice A175_3 ((rd_T52 l0 t174).f3).length c175_3)) (fun _ h_ => h_.1))) (Kd.R_typed (by (with_reducible repeat (first | apply Kd.R_alloc | apply Kd.R_drewN | apply Kd.R_drew)); exact (Kd.R_mono (Kd.R_far (p := ⟨gb176, 3, none⟩) (Kd.R_far (p := ⟨gb176, 2, none⟩) (Kd.R_far (p := ⟨gb176, 1, none⟩) (Kd.R_far (p := ⟨gb176, 0, none⟩) (Kd.R_types HO_10.out BK176.out (by decide)) (fun _ hk => hk.2) (.int .i64 ((rd_T52 l0 t174).f0))) (fun _ hk => hk.2) (.int .i64 ((rd_T52 l0 t174).f1))) (fun _ hk => hk.2) (.string ((rd_T52 l0 t174).f2))) (fun _ hk => hk.2) (.slice A175_3 ((rd_T52 l0 t174).f3).length c175_3)) (fun _ h_ => h_.1)))) (by decide) hg); have n1_ := Aside0.mk (blk_grown (g := gb166) (o := .cells #[.int .i64 x167000_4, .bool x167001_4, .int .i64 x167002_4, .string x167003_4, .slice none 0 0] 32 (0, 0)) (bkf BK166.out) hg (Kd.R_ne HO_10.out BK166.out (by decide))); have n2_ := Aside0.mk (blk_grown (g := gb167) (o := .cells #[.int .i64 0, .bool false, .int .i64 0, .string (⟨#[]⟩ : ByteArray), .slice none 0 0] 32 (0, 0)) (bkf BK167.out) hg (Kd.R_ne HO_10.out BK167.out (by decide))); have n3_ := Aside0.mk (blk_grown (g := gb176) (o := .cells #[.int .i64 ((rd_T52 l0 t174).f0), .int .i64 ((rd_T52 l0 t174).f1), .string ((rd_T52 l0 t174).f2), .slice A175_3 ((rd_T52 l0 t174).f3).length c175_3] 52 (0, 0)) (bkp BK176.out) hg (Kd.R_ne HO_10.out BK176.out (by decide))); have n4_ := Aside0.mk (hb); have n5_ := Aside0.mk (ho); clear HO_11; clear BK166; clear BK167; clear BK176; clear HB; clear HO_10; have HO_11 := n0_; have BK166 := n1_; have BK167 := n2_; have BK176 := n3_; have HB := n4_; have HO185 := n5_; clear n0_ n1_ n2_ n3_ n4_ n5_; clear ho hb hg hat; obtain ⟨hcz67_0, hcz67_1, hcz67_2, hcz67_3, hfz67_0, hfz67_1, hfz67_2, hfz67_3⟩ := cz4 BK176.out) | ((with_reducible refine gate_builtin (b := .append) (xs := #[.tmp 91, .tmp 94]) rfl ?_); (try (refine gate_guard (by rfl) ?_; dsimp only)); at_builtin; refine Kd.R_append Kd.string (w0 := w) w.heap.size rfl (.tmp 91) (.tmp 94) 56 9 (.string ⟨#[]⟩) 16 rfl Tryd.underlying56 info9 rfl (by decide) (by omega) u11 x11_4 ((rd_T52 l0 t174).f2) [.string ((rd_T52 l0 t174).f2)] (fun _ => True) (fun _ => False) rfl rfl ?aP (fun _ hk => hk.elim) ?aF ?aO ?aB ?aS ?aL ?_; (case aP => exact rfl); (case aB => exact (bws HB.out)); (case aF => exact (fun _ _ => trivial)); (case aO => exact (kR HO_11.out)); (case aS => exact (below_size (bws HB.out))); (case aL => have := LMc60.out; omega); intro v187 w68 ho hb hg hat; rw [← Ny186.out] at ho; have n0_ := Aside0.mk (blk_grown (g := gb166) (o := .cells #[.int .i64 x167000_4, .bool x167001_4, .int .i64 x167002_4, .string x167003_4, .slice none 0 0] 32 (0, 0)) (bk BK166.out) hg (Kd.R_ne HO_11.out BK166.out (by decide))); have n1_ := Aside0.mk (blk_grown (g := gb167) (o := .cells #[.int .i64 0, .bool false, .int .i64 0, .string (⟨#[]⟩ : ByteArray), .slice none 0 0] 32 (0, 0)) (bk BK167.out) hg (Kd.R_ne HO_11.out BK167.out (by decide))); have n2_ := Aside0.mk (blk_grown (g := gb176) (o := .cells #[.int .i64 ((rd_T52 l0 t174).f0), .int .i64 ((rd_T52 l0 t174).f1), .string ((rd_T52 l0 t174).f2), .slice A175_3 ((rd_T52 l0 t174).f3).length c175_3] 52 (0, 0)) (bk BK176.out) hg (Kd.R_ne HO_11.out BK176.out (by decide))); have n3_ := Aside0.mk (Kd.R_over' (kR HO185.out) (Kd.R_typed (kR HO_11.out)) (by decide) hg); have n4_ := Aside0.mk (hb); have n5_ := Aside0.mk (ho); clear BK166; clear BK167; clear BK176; clear HO185; clear HB; clear HO_11; have BK166 := n0_; have BK167 := n1_; have BK176 := n2_; have HO185 := n3_; have HB := n4_; have HO188 := n5_; clear n0_ n1_ n2_ n3_ n4_ n5_; clear ho hb hg hat)); try go_wp2_with (first | (go_at_call 34; (with_reducible refine (stowageref14_at.calls k4 _ _ l0 ((rd_T79 l1 x12_4).f0) ((rd_T79 l1 x12_4).f1) t174 _ ?side1 ?side2 A36.out).mono ?_); (case side1 => exact kC (Kd.C_below HR0.out HB.out)); (case side2 => exact HC0.out); rintro e w61 ⟨rfl, hb⟩; replace HO_10 := Aside0.mk (Kd.R_below (kR HO_10.out) hb); replace HO_11 := Aside0.mk (Kd.R_below (kR HO_11.out) hb); replace BK166 := Aside0.mk (blk_below (g := gb166) (o := .cells #[.int .i64 x167000_4, .bool x167001_4, .int .i64 x167002_4, .string x167003_4, .slice none 0 0] 32 (0, 0)) (bk BK166.out) hb); replace BK167 := Aside0.mk (blk_below (g := gb167) (o := .cells #[.int .i64 0, .bool false, .int .i64 0, .string (⟨#[]⟩ : ByteArray), .slice none 0 0] 32 (0, 0)) (bk BK167.out) hb); replace HB := Aside0.mk (below_step (bws HB.out) hb); (try clear hb); (try clear hb2); (try clear hk); (try clear hi); have p175 : 0 ≤ (t174 : Int) := of_decide_eq_true asm; have q175 : t174 < (l0.length : Int) := of_decide_eq_true asm; obtain ⟨ad175, A175_3, c175_3, e175, hx175_0, hx175_1, hx175_2, hx175_3, hl175_3, hi175_3⟩ := at_T52 HR0.out t174 p175 q175; cases e175; replace hx175_0 := bc HB.out hx175_0; replace hx175_1 := bc HB.out hx175_1; replace hx175_2 := bc HB.out hx175_2; replace hx175_3 := bc HB.out hx175_3; have HR175_3 := Aside0.mk hi175_3; have HC175_3 := Aside0.mk hl175_3; clear hi175_3 hl175_3; replace p175 := eq_true p175; replace q175 := eq_true q175; clear A36) | ((with_reducible refine gate_dst (N := 13) rfl ?_); (try (refine gate_guard (by rfl) ?_; dsimp only)); refine box_event ?hg (N := 13) ?hd (cs := #[.int .i64 0, .int .i64 0, .string (⟨#[]⟩ : ByteArray), .slice none 0 0]) (t := 52) ?hr ?_; (case hd => rfl); (case hg => rfl); (case hr => first | (go_simp; done) | (go_simp; rfl)); intro gb176 hg w62 hbox hb; have n0_ := Aside0.mk (Kd.R_below (kR HO_10.out) hb); have n1_ := Aside0.mk (Kd.R_below (kR HO_11.out) hb); have n2_ := Aside0.mk (blk_below (g := gb166) (o := .cells #[.int .i64 x167000_4, .bool x167001_4, .int .i64 x167002_4, .string x167003_4, .slice none 0 0] 32 (0, 0)) (bk BK166.out) hb); have n3_ := Aside0.mk (blk_below (g := gb167) (o := .cells #[.int .i64 0, .bool false, .int .i64 0, .string (⟨#[]⟩ : ByteArray), .slice none 0 0] 32 (0, 0)) (bk BK167.out) hb); have n4_ := Aside0.mk (below_step (bws HB.out) hb); have n5_ := Aside0.mk (hbox); have n6_ := Aside0.mk ((by rw [hg]; exact (below_size (bws HB.out)) : w.heap.size ≤ gb176)); have n7_ := Aside0.mk ((by rw [hg]; exact (below_size (bws HB.out)) : w.heap.size ≤ gb176)); have n8_ := Aside0.mk ((by rw [hg]; exact Nat.ne_of_lt (blk_lt (g := gb166) (o := .cells #[.int .i64 x167000_4, .bool x167001_4, .int .i64 x167002_4, .string x167003_4, .slice none 0 0] 32 (0, 0)) (bk BK166.out)) : gb166 ≠ gb176)); have n9_ := Aside0.mk ((by rw [hg]; exact Nat.ne_of_gt (blk_lt (g := gb166) (o := .cells #[.int .i64 x167000_4, .bool x167001_4, .int .i64 x167002_4, .string x167003_4, .slice none 0 0] 32 (0, 0)) (bk BK166.out)) : gb176 ≠ gb166)); have n10_ := Aside0.mk ((by rw [hg]; exact Nat.ne_of_lt (blk_lt (g := gb167) (o := .cells #[.int .i64 0, .bool false, .int .i64 0, .string (⟨#[]⟩ : ByteArray), .slice none 0 0] 32 (0, 0)) (bk BK167.out)) : gb167 ≠ gb176)); have n11_ := Aside0.mk ((by rw [hg]; exact Nat.ne_of_gt (blk_lt (g := gb167) (o := .cells #[.int .i64 0, .bool false, .int .i64 0, .string (⟨#[]⟩ : ByteArray), .slice none 0 0] 32 (0, 0)) (bk BK167.out)) : gb176 ≠ gb167)); clear HO_10; clear HO_11; clear BK166; clear BK167; clear HB; have HO_10 := n0_; have HO_11 := n1_; have BK166 := n2_; have BK167 := n3_; have HB := n4_; have BK176 := n5_; have GW176 := n6_; have GE176 := n7_; have NB166_176 := n8_; have NB176_166 := n9_; have NB167_176 := n10_; have NB176_167 := n11_; clear n0_ n1_ n2_ n3_ n4_ n5_ n6_ n7_ n8_ n9_ n10_ n11_; clear hb hbox hg; have hnb63 := NB176_166.out; have hnc63 := NB166_176.out; have hnb64 := NB176_167.out; have hnc64 := NB167_176.out; obtain ⟨hcz65_0, hcz65_1, hcz65_2, hcz65_3, hfz65_0, hfz65_1, hfz65_2, hfz65_3⟩ := cz4 BK176.out) | ((with_reducible refine gate_builtin (b := .append) (xs := #[.tmp 87, .tmp 89]) rfl ?_); (try (refine gate_guard (by rfl) ?_; dsimp only)); at_builtin; refine Kd.R_append_rows k85 (w0 := w) w.heap.size rfl (.tmp 87) (.tmp 89) 30 85 (.agg #[(.string ⟨#[]⟩), (.int .i64 0)]) 24 rfl Tryd.underlying30 info85 rfl (by decide) (by omega) u10 x10_4 ((rd_T52 l0 t174).f3) _ _ _ (fun _ => True) (fun _ => False) rfl rfl ?aO ?aR (fun _ _ h => h) (fun _ h => h.elim) ?aF ?aB ?aS ?aL ?_; (case aR => exact Kd.C_below HR175_3.out (bws HB.out)); (case aB => exact (bws HB.out)); (case aF => exact (fun _ _ => trivial)); (case aO => exact (by (with_reducible repeat (first | apply Kd.R_alloc | apply Kd.R_drewN | apply Kd.R_drew)); exact Kd.R_mono (Kd.R_far (p := ⟨gb176, 3, none⟩) (Kd.R_far (p := ⟨gb176, 2, none⟩) (Kd.R_far (p := ⟨gb176, 1, none⟩) (Kd.R_far (p := ⟨gb176, 0, none⟩) (Kd.R_types HO_10.out BK176.out (by decide)) (fun _ hk => hk.2) (.int .i64 ((rd_T52 l0 t174).f0))) (fun _ hk => hk.2) (.int .i64 ((rd_T52 l0 t174).f1))) (fun _ hk => hk.2) (.string ((rd_T52 l0 t174).f2))) (fun _ hk => hk.2) (.slice A175_3 ((rd_T52 l0 t174).f3).length c175_3)) (fun _ hk => trivial))); (case aS => exact (below_size (bws HB.out))); (case aL => have := LMc59.out; omega); intro v184 w66 ho hb hg hat; rw [← Ny183.out] at ho; have n0_ := Aside0.mk (Kd.R_over' (by (with_reducible repeat (first | apply Kd.R_alloc | apply Kd.R_drewN | apply Kd.R_drew)); exact (Kd.R_mono (Kd.R_far (p := ⟨gb176, 3, none⟩) (Kd.R_far (p := ⟨gb176, 2, none⟩) (Kd.R_far (p := ⟨gb176, 1, none⟩) (Kd.R_far (p := ⟨gb176, 0, none⟩) (Kd.R_types HO_11.out BK176.out (by decide)) (fun _ hk => hk.2) (.int .i64 ((rd_T52 l0 t174).f0))) (fun _ hk => hk.2) (.int .i64 ((rd_T52 l0 t174).f1))) (fun _ hk => hk.2) (.string ((rd_T52 l0 t174).f2))) (fun _ hk => hk.2) (.slice A175_3 ((rd_T52 l0 t174).f3).length c175_3)) (fun _ h_ => h_.1))) (Kd.R_typed (by (with_reducible repeat (first | apply Kd.R_alloc | apply Kd.R_drewN | apply Kd.R_drew)); exact (Kd.R_mono (Kd.R_far (p := ⟨gb176, 3, none⟩) (Kd.R_far (p := ⟨gb176, 2, none⟩) (Kd.R_far (p := ⟨gb176, 1, none⟩) (Kd.R_far (p := ⟨gb176, 0, none⟩) (Kd.R_types HO_10.out BK176.out (by decide)) (fun _ hk => hk.2) (.int .i64 ((rd_T52 l0 t174).f0))) (fun _ hk => hk.2) (.int .i64 ((rd_T52 l0 t174).f1))) (fun _ hk => hk.2) (.string ((rd_T52 l0 t174).f2))) (fun _ hk => hk.2) (.slice A175_3 ((rd_T52 l0 t174).f3).length c175_3)) (fun _ h_ => h_.1)))) (by decide) hg); have n1_ := Aside0.mk (blk_grown (g := gb166) (o := .cells #[.int .i64 x167000_4, .bool x167001_4, .int .i64 x167002_4, .string x167003_4, .slice none 0 0] 32 (0, 0)) (bkf BK166.out) hg (Kd.R_ne HO_10.out BK166.out (by decide))); have n2_ := Aside0.mk (blk_grown (g := gb167) (o := .cells #[.int .i64 0, .bool false, .int .i64 0, .string (⟨#[]⟩ : ByteArray), .slice none 0 0] 32 (0, 0)) (bkf BK167.out) hg (Kd.R_ne HO_10.out BK167.out (by decide))); have n3_ := Aside0.mk (blk_grown (g := gb176) (o := .cells #[.int .i64 ((rd_T52 l0 t174).f0), .int .i64 ((rd_T52 l0 t174).f1), .string ((rd_T52 l0 t174).f2), .slice A175_3 ((rd_T52 l0 t174).f3).length c175_3] 52 (0, 0)) (bkp BK176.out) hg (Kd.R_ne HO_10.out BK176.out (by decide))); have n4_ := Aside0.mk (hb); have n5_ := Aside0.mk (ho); clear HO_11; clear BK166; clear BK167; clear BK176; clear HB; clear HO_10; have HO_11 := n0_; have BK166 := n1_; have BK167 := n2_; have BK176 := n3_; have HB := n4_; have HO185 := n5_; clear n0_ n1_ n2_ n3_ n4_ n5_; clear ho hb hg hat; obtain ⟨hcz67_0, hcz67_1, hcz67_2, hcz67_3, hfz67_0, hfz67_1, hfz67_2, hfz67_3⟩ := cz4 BK176.out) | ((with_reducible refine gate_builtin (b := .append) (xs := #[.tmp 91, .tmp 94]) rfl ?_); (try (refine gate_guard (by rfl) ?_; dsimp only)); at_builtin; refine Kd.R_append Kd.string (w0 := w) w.heap.size rfl (.tmp 91) (.tmp 94) 56 9 (.string ⟨#[]⟩) 16 rfl Tryd.underlying56 info9 rfl (by decide) (by omega) u11 x11_4 ((rd_T52 l0 t174).f2) [.string ((rd_T52 l0 t174).f2)] (fun _ => True) (fun _ => False) rfl rfl ?aP (fun _ hk => hk.elim) ?aF ?aO ?aB ?aS ?aL ?_; (case aP => exact rfl); (case aB => exact (bws HB.out)); (case aF => exact (fun _ _ => trivial)); (case aO => exact (kR HO_11.out)); (case aS => exact (below_size (bws HB.out))); (case aL => have := LMc60.out; omega); intro v187 w68 ho hb hg hat; rw [← Ny186.out] at ho; have n0_ := Aside0.mk (blk_grown (g := gb166) (o := .cells #[.int .i64 x167000_4, .bool x167001_4, .int .i64 x167002_4, .string x167003_4, .slice none 0 0] 32 (0, 0)) (bk BK166.out) hg (Kd.R_ne HO_11.out BK166.out (by decide))); have n1_ := Aside0.mk (blk_grown (g := gb167) (o := .cells #[.int .i64 0, .bool false, .int .i64 0, .string (⟨#[]⟩ : ByteArray), .slice none 0 0] 32 (0, 0)) (bk BK167.out) hg (Kd.R_ne HO_11.out BK167.out (by decide))); have n2_ := Aside0.mk (blk_grown (g := gb176) (o := .cells #[.int .i64 ((rd_T52 l0 t174).f0), .int .i64 ((rd_T52 l0 t174).f1), .string ((rd_T52 l0 t174).f2), .slice A175_3 ((rd_T52 l0 t174).f3).length c175_3] 52 (0, 0)) (bk BK176.out) hg (Kd.R_ne HO_11.out BK176.out (by decide))); have n3_ := Aside0.mk (Kd.R_over' (kR HO185.out) (Kd.R_typed (kR HO_11.out)) (by decide) hg); have n4_ := Aside0.mk (hb); have n5_ := Aside0.mk (ho); clear BK166; clear BK167; clear BK176; clear HO185; clear HB; clear HO_11; have BK166 := n0_; have BK167 := n1_; have BK176 := n2_; have HO185 := n3_; have HB := n4_; have HO188 := n5_; clear n0_ n1_ n2_ n3_ n4_ n5_; clear ho hb hg hat)))
                   go_roundg k4
                   case measure => have := HJ2.out; have := HK2.out; have := HK3.out; have := HK4.out; omega
                   case rel => exact ⟨(wrap64 (x9_4 + ((rd_T52 l0 t174).f1))), (y183), (y186), (wrap64 (x12_4 + 1)), (x167000_4), (x167001_4), (x167002_4), (x167003_4), (by first | rfl | (simp; done) | (simp [*]; done)), (by first | rfl | (simp; done) | (simp [*]; done)), H', ⟨by have := HJ2.out; have := HK2.out; have := HK3.out; have := HK4.out; omega⟩, ⟨kR HO185.out⟩, ⟨kR HO188.out⟩, ⟨bk BK166.out⟩, ⟨bk BK167.out⟩, ⟨bws HB.out⟩⟩
                  ·
                   rw [if_neg c60] at H
                   exact absurd H (by simp)
                 ·
                  rw [if_neg c59] at H
                  exact absurd H (by simp)
               ·
                rw [if_neg c38] at H
                exact absurd H (by simp)
              ·
               rw [if_neg c37] at H
               exact absurd H (by simp)
             ·
              rw [if_neg c35] at H
              exact absurd H (by simp)
            ·
             rw [if_neg c34] at H
             have c34b0 : decide (x12_4 < (l1.length : Int)) = false := decide_eq_false c34
             clear c34
             have HC69 := Aside0.mk H
             clear H
             go_upto_region 26 with (fail)
             repeat (go_quiet (fail); go_upto_region 26 with (fail))
             go_cut [102] (fun v102 wc => ∃ (kq : Nat) (x102_68 : Bool), v102 = .bool x102_68 ∧ Aside0 (stowageref14_Join.j4 kq x9_4 x10_4 x11_4 x102_68 0 false 0 (⟨#[]⟩ : ByteArray) = some (r1, r2, r3, r4, r5, r6)) ∧ Aside0 (kq ≤ k4) ∧ Aside0 (Kd.R k85 85 wc w.heap.size (fun _ => True) u10 x10_4) ∧ Aside0 (Kd.R Kd.string 9 wc w.heap.size (fun _ => True) u11 x11_4) ∧ Aside0 (wc.heap[gb166]? = some (.cells #[.int .i64 x167000_4, .bool x167001_4, .int .i64 x167002_4, .string x167003_4, (.slice none 0 0)] 32 (0, 0))) ∧ Aside0 (wc.heap[gb167]? = some (.cells #[.int .i64 0, .bool false, .int .i64 0, .string (⟨#[]⟩ : ByteArray), (.slice none 0 0)] 32 (0, 0))) ∧ Aside0 (Below w.heap.size w wc))
             case first =>
              have H := HC69.out
              clear HC69
              by_cases c70 : x9_4 > 1048576
              ·
               rw [if_pos c70] at H
               have c70b0 : decide (1048576 < x9_4) = true := decide_eq_true c70
               clear c70
               (first | rw [c70b0] | (simp only [i64_w, i32_w]; rw [c70b0]) | skip)
               have H' := Aside0.mk H
               clear H
               go_wp2
               repeat (go_quiet (fail); try go_wp2)
               go_meet
               case rel => exact ⟨_, (true), (by first | rfl | (simp; done) | (simp [*]; done)), H', ⟨by have := HJ2.out; have := HK2.out; have := HK3.out; have := HK4.out; first | omega | exact Nat.le_refl _⟩, ⟨kR HO_10.out⟩, ⟨kR HO_11.out⟩, ⟨bk BK166.out⟩, ⟨bk BK167.out⟩, ⟨bws HB.out⟩⟩
              ·
               rw [if_neg c70] at H
               have c70b0 : decide (1048576 < x9_4) = false := decide_eq_false c70
               clear c70
               (first | rw [c70b0] | (simp only [i64_w, i32_w]; rw [c70b0]) | skip)
               have H' := Aside0.mk H
               clear H
               obtain ⟨Ao71, co71, eo71⟩ := Kd.R_slice HO_10.out
               subst eo71
               go_wp2
               repeat (go_quiet (fail); try go_wp2)
               go_meet
               case rel => exact ⟨_, (decide ((x10_4.length : Int) > 512)), (by first | rfl | (simp; done) | (simp [*]; done)), H', ⟨by have := HJ2.out; have := HK2.out; have := HK3.out; have := HK4.out; first | omega | exact Nat.le_refl _⟩, ⟨kR HO_10.out⟩, ⟨kR HO_11.out⟩, ⟨bk BK166.out⟩, ⟨bk BK167.out⟩, ⟨bws HB.out⟩⟩
             case rest =>
              clear HC69
              try clear c1
              try clear p1
              try clear q1
              try clear hx1
              try clear c2
              try clear p2
              try clear c3
              try clear c4
              try clear c5
              try clear c6
              try clear p6
              try clear c7
              try clear c9
              try clear c10
              try clear c12
              try clear c13
              try clear c16
              try clear c16b0
              try clear p16
              try clear q16
              try clear hx16
              try clear c17
              try clear c17b0
              try clear p17
              try clear q17
              try clear hx17
              try clear c19
              try clear c19b0
              try clear c20
              try clear c20b0
              try clear c21
              try clear c21b0
              try clear c22
              try clear c25
              try clear c25b0
              try clear c26
              try clear c26b0
              try clear c28
              try clear c28b0
              try clear c30
              try clear c34
              try clear c34b0
              try clear c35
              try clear c35b0
              try clear c37
              try clear c37b0
              try clear c38
              try clear c38b0
              try clear c39
              try clear c39b0
              try clear c40
              try clear c40b0
              try clear c43
              try clear c44
              try clear c46
              try clear c49
              try clear c50
              try clear c53
              try clear c54
              try clear c59
              try clear c60
              try clear c63
              try clear c64
              try clear p64
              try clear c70
              try clear c70b0
              try clear hcz14_0
              try clear hcz14_1
              try clear hcz14_2
              try clear hcz14_3
              try clear hcz14_4
              try clear hcz15_0
              try clear hcz15_1
              try clear hcz15_2
              try clear hcz15_3
              try clear hcz15_4
              try clear hcz23_0
              try clear hcz23_1
              try clear hcz23_2
              try clear hcz23_3
              try clear hcz23_4
              try clear hcz24_0
              try clear hcz24_1
              try clear hcz24_2
              try clear hcz24_3
              try clear hcz24_4
              try clear hcz31_0
              try clear hcz31_1
              try clear hcz31_2
              try clear hcz31_3
              try clear hcz31_4
              try clear hcz32_0
              try clear hcz32_1
              try clear hcz32_2
              try clear hcz32_3
              try clear hcz32_4
              try clear hcz45_0
              try clear hcz45_1
              try clear hcz45_2
              try clear hcz45_3
              try clear hcz47_0
              try clear hcz47_1
              try clear hcz47_2
              try clear hcz47_3
              try clear hcz47_4
              try clear hcz48_0
              try clear hcz48_1
              try clear hcz48_2
              try clear hcz48_3
              try clear hcz48_4
              try clear hcz55_0
              try clear hcz55_1
              try clear hcz55_2
              try clear hcz55_3
              try clear hcz57_0
              try clear hcz57_1
              try clear hcz57_2
              try clear hcz57_3
              try clear hcz65_0
              try clear hcz65_1
              try clear hcz65_2
              try clear hcz65_3
              try clear hcz67_0
              try clear hcz67_1
              try clear hcz67_2
              try clear hcz67_3
              try clear hcz7_0
              try clear hcz7_1
              try clear hcz7_2
              try clear hcz7_3
              try clear hcz7_4
              try clear hfz14_0
              try clear hfz14_1
              try clear hfz14_2
              try clear hfz14_3
              try clear hfz14_4
              try clear hfz15_0
              try clear hfz15_1
              try clear hfz15_2
              try clear hfz15_3
              try clear hfz15_4
              try clear hfz23_0
              try clear hfz23_1
              try clear hfz23_2
              try clear hfz23_3
              try clear hfz23_4
              try clear hfz24_0
              try clear hfz24_1
              try clear hfz24_2
              try clear hfz24_3
              try clear hfz24_4
              try clear hfz31_0
              try clear hfz31_1
              try clear hfz31_2
              try clear hfz31_3
              try clear hfz31_4
              try clear hfz32_0
              try clear hfz32_1
              try clear hfz32_2
              try clear hfz32_3
              try clear hfz32_4
              try clear hfz45_0
              try clear hfz45_1
              try clear hfz45_2
              try clear hfz45_3
              try clear hfz47_0
              try clear hfz47_1
              try clear hfz47_2
              try clear hfz47_3
              try clear hfz47_4
              try clear hfz48_0
              try clear hfz48_1
              try clear hfz48_2
              try clear hfz48_3
              try clear hfz48_4
              try clear hfz55_0
              try clear hfz55_1
              try clear hfz55_2
              try clear hfz55_3
              try clear hfz57_0
              try clear hfz57_1
              try clear hfz57_2
              try clear hfz57_3
              try clear hfz65_0
              try clear hfz65_1
              try clear hfz65_2
              try clear hfz65_3
              try clear hfz67_0
              try clear hfz67_1
              try clear hfz67_2
              try clear hfz67_3
              try clear hfz7_0
              try clear hfz7_1
              try clear hfz7_2
              try clear hfz7_3
              try clear hfz7_4
              try clear hx169_0
              try clear hx169_1
              try clear hx170_0
              try clear hx170_1
              try clear hx171_0
              try clear hx171_1
              try clear hx173_0
              try clear hx173_1
              try clear hx175_0
              try clear hx175_1
              try clear hx175_2
              try clear hx175_3
              try clear p1
              try clear p16
              try clear p169
              try clear p17
              try clear p170
              try clear p171
              try clear p173
              try clear p175
              try clear p2
              try clear p6
              try clear q1
              try clear q16
              try clear q169
              try clear q17
              try clear q170
              try clear q171
              try clear q173
              try clear q175
              obtain ⟨kq, x102_68, rfl, HA, HJ68, HO_10, HO_11, BK166, BK167, HB⟩ := hcut
              cases kq with
              | zero => exact absurd HA.out (by simp [stowageref14_Join.j4])
              | succ kj68 =>
               have H := HA.out
               clear HA
               simp only [stowageref14_Join.j4] at H
               by_cases c72 : x102_68 = true
               ·
                subst c72
                have H1 : (some (0, false, 0, (⟨#[]⟩ : ByteArray), ([] : List (S85)), 2)) = some (r1, r2, r3, r4, r5, r6) := by rw [if_pos rfl] at H; exact H
                clear H
                have H := H1
                clear H1
                simp only [Option.some.injEq, Prod.mk.injEq] at H
                obtain ⟨rfl, rfl, rfl, rfl, rfl, rfl⟩ := H
                have hnb73 := NB167_166.out
                have hnc73 := NB166_167.out
                obtain ⟨hcz74_0, hcz74_1, hcz74_2, hcz74_3, hcz74_4, hfz74_0, hfz74_1, hfz74_2, hfz74_3, hfz74_4⟩ := cz5 BK167.out
                obtain ⟨hcz75_0, hcz75_1, hcz75_2, hcz75_3, hcz75_4, hfz75_0, hfz75_1, hfz75_2, hfz75_3, hfz75_4⟩ := cz5 BK166.out
                go_wp2
                repeat (go_quiet (fail); try go_wp2)
                refine bodyPost_ret (results_ct rfl _ _ gb166 32 #[.int .i64 0, .bool false, .int .i64 0, .string (⟨#[]⟩ : ByteArray), .slice none 0 0] (0, 0) _ rfl (bkp BK166.out) Tryd.underlying32 rfl (by kernel_rfl)) rfl ?_
                exact ⟨_, by first | rfl | (simp [errW_none, errW_some] <;> rfl) | (simp [*, errW_none, errW_some] <;> rfl), by first | exact Kd.R_nil _ _ _ _ _ | exact Kd.N_nil _ _ _ _ _ | exact Kd.V_nil _ _ _ _ _ | exact Kd.Q_nil _ _ _ _ _ | exact Kd.S_nil _ _ _ _ _, by repeat (first | (with_reducible first | exact HB.out | apply below_alloc | apply pw_below_drewN | apply below_drew1 | refine below_set ?_ GE166.out | refine below_set ?_ GE167.out) | exact HB.out)⟩
               ·
                replace c72 := Bool.eq_false_iff.mpr c72
                subst c72
                have H1 : ((stowageref03_Tagged.f 77 x11_4).bind fun t189 => ((stowageref03_Hex.f kj68 t189).bind fun t190 => (some (0, false, x9_4, t190, x10_4, 0)))) = some (r1, r2, r3, r4, r5, r6) := by rw [if_neg (show ¬ (false = true) by decide)] at H; exact H
                clear H
                have H := H1
                clear H1
                replace H := Option.bind_eq_some_iff.mp H
                obtain ⟨t189, A760, H⟩ := H
                replace H : ((stowageref03_Hex.f kj68 t189).bind fun t190 => (some (0, false, x9_4, t190, x10_4, 0))) = some (r1, r2, r3, r4, r5, r6) := H
                have A76 := Aside0.mk A760
                clear A760
                replace H := Option.bind_eq_some_iff.mp H
                obtain ⟨t190, A770, H⟩ := H
                replace H : (some (0, false, x9_4, t190, x10_4, 0)) = some (r1, r2, r3, r4, r5, r6) := H
                have A77 := Aside0.mk A770
                clear A770
                simp only [Option.some.injEq, Prod.mk.injEq] at H
                obtain ⟨rfl, rfl, rfl, rfl, rfl, rfl⟩ := H
                obtain ⟨Ao78, co78, eo78⟩ := Kd.R_slice HO_11.out
                subst eo78
                go_wp2_with (first | (go_at_call 36; (with_reducible refine (stowageref03_Tagged.calls 77 _ _ x11_4 t189 _ ?side1 ?side2 A76.out).mono ?_); (case side1 => repeat (first | exact (Kd.R_reads' HO_11.out).2.2 | (with_reducible refine Kd.C_alloc ?_ _) | (with_reducible refine Kd.C_drewN ?_ _) | (with_reducible refine Kd.C_drew ?_))); (case side2 => exact (Kd.R_reads' HO_11.out).2.1); rintro e w79 ⟨rfl, hb⟩; replace HO_10 := Aside0.mk (Kd.R_below (kR HO_10.out) hb); replace HO_11 := Aside0.mk (Kd.R_below (kR HO_11.out) hb); replace BK166 := Aside0.mk (blk_below (g := gb166) (o := .cells #[.int .i64 x167000_4, .bool x167001_4, .int .i64 x167002_4, .string x167003_4, .slice none 0 0] 32 (0, 0)) (bk BK166.out) hb); replace BK167 := Aside0.mk (blk_below (g := gb167) (o := .cells #[.int .i64 0, .bool false, .int .i64 0, .string (⟨#[]⟩ : ByteArray), .slice none 0 0] 32 (0, 0)) (bk BK167.out) hb); replace HB := Aside0.mk (below_step (bws HB.out) hb); (try clear hb); (try clear hb2); (try clear hk); (try clear hi)) | (go_at_call 35; (with_reducible refine (stowageref03_Hex.calls kj68 t189 t190 _ A77.out).mono ?_); rintro e w80 ⟨rfl, hb⟩; replace HO_10 := Aside0.mk (Kd.R_below (kR HO_10.out) hb); replace HO_11 := Aside0.mk (Kd.R_below (kR HO_11.out) hb); replace BK166 := Aside0.mk (blk_below (g := gb166) (o := .cells #[.int .i64 x167000_4, .bool x167001_4, .int .i64 x167002_4, .string x167003_4, .slice none 0 0] 32 (0, 0)) (bk BK166.out) hb); replace BK167 := Aside0.mk (blk_below (g := gb167) (o := .cells #[.int .i64 0, .bool false, .int .i64 0, .string (⟨#[]⟩ : ByteArray), .slice none 0 0] 32 (0, 0)) (bk BK167.out) hb); replace HB := Aside0.mk (below_step (bws HB.out) hb); (try clear hb); (try clear hb2); (try clear hk); (try clear hi); obtain ⟨Ao81, co81, eo81⟩ := Kd.R_slice HO_10.out; subst eo81; have hnb82 := NB166_167.out; have hnc82 := NB167_166.out; obtain ⟨hcz83_0, hcz83_1, hcz83_2, hcz83_3, hcz83_4, hfz83_0, hfz83_1, hfz83_2, hfz83_3, hfz83_4⟩ := cz5 BK166.out))
                repeat (go_quiet (first | (go_at_call 36; (with_reducible refine (stowageref03_Tagged.calls 77 _ _ x11_4 t189 _ ?side1 ?side2 A76.out).mono ?_); (case side1 => repeat (first | exact (Kd.R_reads' HO_11.out).2.2 | (with_reducible refine Kd.C_alloc ?_ _) | (with_reducible refine Kd.C_drewN ?_ _) | (with_reducible refine Kd.C_drew ?_))); (case side2 => exact (Kd.R_reads' HO_11.out).2.1); rintro e w79 ⟨rfl, hb⟩; replace HO_10 := Aside0.mk (Kd.R_below (kR HO_10.out) hb); replace HO_11 := Aside0.mk (Kd.R_below (kR HO_11.out) hb); replace BK166 := Aside0.mk (blk_below (g := gb166) (o := .cells #[.int .i64 x167000_4, .bool x167001_4, .int .i64 x167002_4, .string x167003_4, .slice none 0 0] 32 (0, 0)) (bk BK166.out) hb); replace BK167 := Aside0.mk (blk_below (g := gb167) (o := .cells #[.int .i64 0, .bool false, .int .i64 0, .string (⟨#[]⟩ : ByteArray), .slice none 0 0] 32 (0, 0)) (bk BK167.out) hb); replace HB := Aside0.mk (below_step (bws HB.out) hb); (try clear hb); (try clear hb2); (try clear hk); (try clear hi); clear A76) | (go_at_call 35; (with_reducible refine (stowageref03_Hex.calls kj68 t189 t190 _ A77.out).mono ?_); rintro e w80 ⟨rfl, hb⟩; replace HO_10 := Aside0.mk (Kd.R_below (kR HO_10.out) hb); replace HO_11 := Aside0.mk (Kd.R_below (kR HO_11.out) hb); replace BK166 := Aside0.mk (blk_below (g := gb166) (o := .cells #[.int .i64 x167000_4, .bool x167001_4, .int .i64 x167002_4, .string x167003_4, .slice none 0 0] 32 (0, 0)) (bk BK166.out) hb); replace BK167 := Aside0.mk (blk_below (g := gb167) (o := .cells #[.int .i64 0, .bool false, .int .i64 0, .string (⟨#[]⟩ : ByteArray), .slice none 0 0] 32 (0, 0)) (bk BK167.out) hb); replace HB := Aside0.mk (below_step (bws HB.out) hb); (try clear hb); (try clear hb2); (try clear hk); (try clear hi); obtain ⟨Ao81, co81, eo81⟩ := Kd.R_slice HO_10.out; subst eo81; have hnb82 := NB166_167.out; have hnc82 := NB167_166.out; obtain ⟨hcz83_0, hcz83_1, hcz83_2, hcz83_3, hcz83_4, hfz83_0, hfz83_1, hfz83_2, hfz83_3, hfz83_4⟩ := cz5 BK166.out; clear A77)); try go_wp2_with (first | (go_at_call 36; (with_reducible refine (stowageref03_Tagged.calls 77 _ _ x11_4 t189 _ ?side1 ?side2 A76.out).mono ?_); (case side1 => repeat (first | exact (Kd.R_reads' HO_11.out).2.2 | (with_reducible refine Kd.C_alloc ?_ _) | (with_reducible refine Kd.C_drewN ?_ _) | (with_reducible refine Kd.C_drew ?_))); (case side2 => exact (Kd.R_reads' HO_11.out).2.1); rintro e w79 ⟨rfl, hb⟩; replace HO_10 := Aside0.mk (Kd.R_below (kR HO_10.out) hb); replace HO_11 := Aside0.mk (Kd.R_below (kR HO_11.out) hb); replace BK166 := Aside0.mk (blk_below (g := gb166) (o := .cells #[.int .i64 x167000_4, .bool x167001_4, .int .i64 x167002_4, .string x167003_4, .slice none 0 0] 32 (0, 0)) (bk BK166.out) hb); replace BK167 := Aside0.mk (blk_below (g := gb167) (o := .cells #[.int .i64 0, .bool false, .int .i64 0, .string (⟨#[]⟩ : ByteArray), .slice none 0 0] 32 (0, 0)) (bk BK167.out) hb); replace HB := Aside0.mk (below_step (bws HB.out) hb); (try clear hb); (try clear hb2); (try clear hk); (try clear hi); clear A76) | (go_at_call 35; (with_reducible refine (stowageref03_Hex.calls kj68 t189 t190 _ A77.out).mono ?_); rintro e w80 ⟨rfl, hb⟩; replace HO_10 := Aside0.mk (Kd.R_below (kR HO_10.out) hb); replace HO_11 := Aside0.mk (Kd.R_below (kR HO_11.out) hb); replace BK166 := Aside0.mk (blk_below (g := gb166) (o := .cells #[.int .i64 x167000_4, .bool x167001_4, .int .i64 x167002_4, .string x167003_4, .slice none 0 0] 32 (0, 0)) (bk BK166.out) hb); replace BK167 := Aside0.mk (blk_below (g := gb167) (o := .cells #[.int .i64 0, .bool false, .int .i64 0, .string (⟨#[]⟩ : ByteArray), .slice none 0 0] 32 (0, 0)) (bk BK167.out) hb); replace HB := Aside0.mk (below_step (bws HB.out) hb); (try clear hb); (try clear hb2); (try clear hk); (try clear hi); obtain ⟨Ao81, co81, eo81⟩ := Kd.R_slice HO_10.out; subst eo81; have hnb82 := NB166_167.out; have hnc82 := NB167_166.out; obtain ⟨hcz83_0, hcz83_1, hcz83_2, hcz83_3, hcz83_4, hfz83_0, hfz83_1, hfz83_2, hfz83_3, hfz83_4⟩ := cz5 BK166.out; clear A77)))
                refine bodyPost_ret (results_ct rfl _ _ gb166 32 #[.int .i64 0, .bool false, .int .i64 x9_4, .string t190, .slice Ao81 x10_4.length co81] (0, 0) _ rfl (bkp BK166.out) Tryd.underlying32 rfl (by kernel_rfl)) rfl ?_
                exact ⟨_, by first | rfl | (simp [errW_none, errW_some] <;> rfl) | (simp [*, errW_none, errW_some] <;> rfl), by (with_reducible repeat (first | apply Kd.R_alloc | apply Kd.R_drewN | apply Kd.R_drew)); exact Kd.R_mono (Kd.R_far (p := ⟨gb166, 4, none⟩) (Kd.R_far (p := ⟨gb166, 3, none⟩) (Kd.R_far (p := ⟨gb166, 2, none⟩) (Kd.R_far (p := ⟨gb166, 1, none⟩) (Kd.R_far (p := ⟨gb166, 0, none⟩) (Kd.R_types HO_10.out BK166.out (by decide)) (fun _ hk => hk.2) (.int .i64 0)) (fun _ hk => hk.2) (.bool false)) (fun _ hk => hk.2) (.int .i64 x9_4)) (fun _ hk => hk.2) (.string t190)) (fun _ hk => hk.2) (.slice Ao81 x10_4.length co81)) (fun _ hk => trivial), by repeat (first | (with_reducible first | exact HB.out | apply below_alloc | apply pw_below_drewN | apply below_drew1 | refine below_set ?_ GE166.out | refine below_set ?_ GE167.out) | exact HB.out)⟩

end Go.Proofs.YtoiockmmlanimaaDoor.Oj
