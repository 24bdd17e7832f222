/- Merged of several texts of this session's by merge.py. -/
import Derived.Test.YtoiockmmlanimaaDoorMj3
-- Written for this claim by hyb.py, a driver of this session's over the kit's printer.
namespace Go.Proofs.YtoiockmmlanimaaDoor.Oj
open Go.RowKit Go.Proofs.YtoiockmmlanimaaDoorW.PrintWords Go.Proofs.YtoiockmmlanimaaDoorW.PrintLast Go.Proofs.YtoiockmmlanimaaDoorW.PrintMore
attribute [local go_sem] max2_int min2_int max_two min_two max_three min_three max_four min_four   -- for this text's walks alone
set_option linter.unusedVariables false
set_option linter.unusedSimpArgs false

/-! ### parts_Join: function 9 -/
mutual
def parts_Join.j0 : Nat → List (S46) → List (S61) → Bool → Option (Int × Bool × Int × ByteArray × (List (S63)) × Int)
 | 0, _, _, _ => none
 | k + 1, x0, x1, x21 => if x21 = true then (some (0, false, 0, (⟨#[]⟩ : ByteArray), ([] : List (S63)), 1)) else (parts_Join.l0 k x0 x1 1)
def parts_Join.l0 : Nat → List (S46) → List (S61) → Int → Option (Int × Bool × Int × ByteArray × (List (S63)) × Int)
 | 0, _, _, _ => none
 | k + 1, x0, x1, x6 => if x6 < (x1.length : Int) then (if 0 ≤ x6 then (if 0 ≤ (wrap64 (x6 - 1)) then (if (wrap64 (x6 - 1)) < (x1.length : Int) then (if ((rd_T61 x1 x6).f0) ≤ ((rd_T61 x1 (wrap64 (x6 - 1))).f0) then (some (0, false, 0, (⟨#[]⟩ : ByteArray), ([] : List (S63)), 1)) else (parts_Join.l0 k x0 x1 (wrap64 (x6 + 1)))) else (none)) else (none)) else (none)) else (parts_Join.l1 k x0 x1 ([] : List ByteArray) false x1 (x1.length : Int) 0 0 false 0 (⟨#[]⟩ : ByteArray) ([] : List (S63)))
def parts_Join.l1 : Nat → List (S46) → List (S61) → List ByteArray → Bool → List (S61) → Int → Int → Int → Bool → Int → ByteArray → List (S63) → Option (Int × Bool × Int × ByteArray × (List (S63)) × Int)
 | 0, _, _, _, _, _, _, _, _, _, _, _, _ => none
 | k + 1, x0, x1, x8, x9, x42, x43, x44, x118000, x118001, x118002, x118003, x118004 => if x44 < x43 then (if 0 ≤ x44 then (if x44 < (x42.length : Int) then ((parts_find.f x0 ((rd_T61 x42 x44).f0)).bind fun bt120 => (if bt120.2 = true then (if 0 ≤ bt120.1 then (if bt120.1 < (x0.length : Int) then (if ((rd_T46 x0 bt120.1).f2).toList = ((rd_T61 x42 x44).f1).toList then (if x118004.length + ((rd_T46 x0 bt120.1).f3).length < 5864062014805 then ((some (x118004 ++ ((rd_T46 x0 bt120.1).f3) : List (S63))).bind fun y125 => (if x8.length < 8796093022208 then ((some (x8 ++ [(rd_T46 x0 bt120.1).f2] : List ByteArray)).bind fun y129 => (if x9 = true then (parts_Join.l1 k x0 x1 y129 true x42 x43 (wrap64 (x44 + 1)) x118000 x118001 (wrap64 (x118002 + ((rd_T46 x0 bt120.1).f1))) x118003 y125) else (if x44 < (wrap64 ((x1.length : Int) - 1)) then (parts_Join.l1 k x0 x1 y129 (decide (((rd_T46 x0 bt120.1).f1) < 64)) x42 x43 (wrap64 (x44 + 1)) x118000 x118001 (wrap64 (x118002 + ((rd_T46 x0 bt120.1).f1))) x118003 y125) else (parts_Join.l1 k x0 x1 y129 false x42 x43 (wrap64 (x44 + 1)) x118000 x118001 (wrap64 (x118002 + ((rd_T46 x0 bt120.1).f1))) x118003 y125)))) else (none))) else (none)) else (some (0, false, 0, (⟨#[]⟩ : ByteArray), ([] : List (S63)), 140))) else (none)) else (none)) else (some (0, false, 0, (⟨#[]⟩ : ByteArray), ([] : List (S63)), 140)))) else (none)) else (none)) else (if x9 = true then (some (0, false, 0, (⟨#[]⟩ : ByteArray), ([] : List (S63)), 141)) else (if x118002 > 1048576 then (parts_Join.j3 k x8 true x118000 x118001 x118002 x118003 x118004) else (parts_Join.j3 k x8 (decide ((x118004.length : Int) > 512)) x118000 x118001 x118002 x118003 x118004)))
def parts_Join.j3 : Nat → List ByteArray → Bool → Int → Bool → Int → ByteArray → List (S63) → Option (Int × Bool × Int × ByteArray × (List (S63)) × Int)
 | 0, _, _, _, _, _, _, _ => none
 | k + 1, x8, x122, x118000, x118001, x118002, x118003, x118004 => if x122 = true then (some (0, false, 0, (⟨#[]⟩ : ByteArray), ([] : List (S63)), 2)) else ((digest_Tagged.f 77 x8).bind fun t133 => ((digest_Hex.f t133).bind fun t134 => (some (x118000, x118001, x118002, t134, x118004, 0))))
end
def parts_Join.f (k : Nat) (l0 : List (S46)) (l1 : List (S61)) : Option (Int × Bool × Int × ByteArray × (List (S63)) × Int) := (parts_right.f k l0).bind fun t114 => (if t114 = true then (parts_Join.j0 k l0 l1 ((l1.length : Int) == 0)) else (parts_Join.j0 k l0 l1 true))
theorem parts_Join.mono_l : ∀ k, (∀ y0 y1 y2, LeO (parts_Join.j0 k y0 y1 y2) (parts_Join.j0 (k + 1) y0 y1 y2)) ∧ (∀ y0 y1 y2, LeO (parts_Join.l0 k y0 y1 y2) (parts_Join.l0 (k + 1) y0 y1 y2)) ∧ (∀ y0 y1 y2 y3 y4 y5 y6 y7 y8 y9 y10 y11, LeO (parts_Join.l1 k y0 y1 y2 y3 y4 y5 y6 y7 y8 y9 y10 y11) (parts_Join.l1 (k + 1) y0 y1 y2 y3 y4 y5 y6 y7 y8 y9 y10 y11)) ∧ (∀ y0 y1 y2 y3 y4 y5 y6, LeO (parts_Join.j3 k y0 y1 y2 y3 y4 y5 y6) (parts_Join.j3 (k + 1) y0 y1 y2 y3 y4 y5 y6))
 | 0 => ⟨fun _ _ _ r h => by simp [parts_Join.j0] at h, fun _ _ _ r h => by simp [parts_Join.l0] at h, fun _ _ _ _ _ _ _ _ _ _ _ _ r h => by simp [parts_Join.l1] at h, fun _ _ _ _ _ _ _ r h => by simp [parts_Join.j3] at h⟩
 | k + 1 => by
  obtain ⟨ih0, ih1, ih2, ih3⟩ := parts_Join.mono_l k
  refine ⟨?_, ?_, ?_, ?_⟩
  all_goals intros
  all_goals first | unfold parts_Join.j0 | unfold parts_Join.l0 | unfold parts_Join.l1 | unfold parts_Join.j3
  all_goals repeat' first
  | (with_reducible exact ih0 _ _ _)
  | (with_reducible exact ih1 _ _ _)
  | (with_reducible exact ih2 _ _ _ _ _ _ _ _ _ _ _ _)
  | (with_reducible exact ih3 _ _ _ _ _ _ _)
  | (with_reducible exact parts_right.mono _ _)
  | (with_reducible exact LeO.refl _)
  | (with_reducible exact LeO.none _)
  | (with_reducible refine LeO.ite ?_ ?_)
  | (with_reducible refine LeO.bind ?_ (fun _ => ?_))
  | exact ih0 _ _ _
  | exact ih1 _ _ _
  | exact ih2 _ _ _ _ _ _ _ _ _ _ _ _
  | exact ih3 _ _ _ _ _ _ _
  | exact parts_right.mono _ _
  | exact LeO.none _
  | refine LeO.ite ?_ ?_
  | refine LeO.bind ?_ (fun _ => ?_)
theorem parts_Join.mono : ∀ a0 a1 k, LeO (parts_Join.f k a0 a1) (parts_Join.f (k + 1) a0 a1) := by
 intro a0 a1 k
 obtain ⟨ih0, ih1, ih2, ih3⟩ := parts_Join.mono_l k
 unfold parts_Join.f
 repeat' first
   | (with_reducible exact ih0 _ _ _)
   | (with_reducible exact ih1 _ _ _)
   | (with_reducible exact ih2 _ _ _ _ _ _ _ _ _ _ _ _)
   | (with_reducible exact ih3 _ _ _ _ _ _ _)
   | (with_reducible exact parts_right.mono _ _)
   | (with_reducible exact LeO.refl _)
   | (with_reducible exact LeO.none _)
   | (with_reducible refine LeO.ite ?_ ?_)
   | (with_reducible refine LeO.bind ?_ (fun _ => ?_))
   | exact ih0 _ _ _
   | exact ih1 _ _ _
   | exact ih2 _ _ _ _ _ _ _ _ _ _ _ _
   | exact ih3 _ _ _ _ _ _ _
   | exact parts_right.mono _ _
   | exact LeO.none _
   | refine LeO.ite ?_ ?_
   | refine LeO.bind ?_ (fun _ => ?_)
def parts_Join.T6 : Bool × List (List Nat × List Nat) := (true, [([], []), ([], []), ([0, 1], [0, 1]), ([2], [2]), ([3], [3]), ([], []), ([], []), ([6], [6]), ([5, 7], [5, 7]), ([8], [8]), ([9], [9]), ([4, 10], [4, 10])])
def parts_Join.B6 : List Nat := [0, 0, 3, 7, 15, 0, 0, 64, 224, 480, 992, 2047]
theorem parts_Join.tab6 : rtab .any (opsOf Tryd.f9 6) = parts_Join.T6 := by kernel_rfl
theorem parts_Join.bits6 : waitsOk parts_Join.T6.2 parts_Join.B6 = true := by kernel_rfl
def parts_Join.T15 : Bool × List (List Nat × List Nat) := (true, [([], []), ([0], [0]), ([1], [1]), ([2], [2]), ([2], [2]), ([3, 4, 2], [2, 3, 4]), ([5, 2], [2, 5]), ([6, 2], [2, 6]), ([2], [2]), ([8, 2], [2, 8]), ([7, 9, 2], [2, 7, 9]), ([2, 10], [2, 10])])
def parts_Join.B15 : List Nat := [0, 1, 3, 7, 7, 31, 63, 127, 7, 263, 1023, 2047]
theorem parts_Join.tab15 : rtab .any (opsOf Tryd.f9 15) = parts_Join.T15 := by kernel_rfl
theorem parts_Join.bits15 : waitsOk parts_Join.T15.2 parts_Join.B15 = true := by kernel_rfl
def parts_Join.T17 : Bool × List (List Nat × List Nat) := (true, [([], []), ([0], [0]), ([], []), ([], []), ([2, 3], [2, 3]), ([4], [4]), ([5], [5]), ([1, 6], [1, 6]), ([0, 1, 2, 3, 4, 5, 6, 7], []), ([8, 7, 0, 1, 2, 3, 4, 5, 6, 7], [7, 8])])
def parts_Join.B17 : List Nat := [0, 1, 0, 0, 12, 28, 60, 127, 255, 511]
theorem parts_Join.tab17 : rtab .any (opsOf Tryd.f9 17) = parts_Join.T17 := by kernel_rfl
theorem parts_Join.bits17 : waitsOk parts_Join.T17.2 parts_Join.B17 = true := by kernel_rfl
def parts_Join.T18 : Bool × List (List Nat × List Nat) := (true, [([], []), ([0], [0]), ([], []), ([], []), ([2, 3], [2, 3]), ([4], [4]), ([5], [5]), ([1, 6], [1, 6]), ([0, 1, 2, 3, 4, 5, 6, 7], []), ([8, 7, 7, 0, 1, 2, 3, 4, 5, 6, 7], [7, 8])])
def parts_Join.B18 : List Nat := [0, 1, 0, 0, 12, 28, 60, 127, 255, 511]
theorem parts_Join.tab18 : rtab .any (opsOf Tryd.f9 18) = parts_Join.T18 := by kernel_rfl
theorem parts_Join.bits18 : waitsOk parts_Join.T18.2 parts_Join.B18 = true := by kernel_rfl
set_option maxHeartbeats 8000000 in
set_option maxRecDepth 100000 in
theorem parts_Join.calls (k : Nat) (A0 : Option Addr) (c0 : Nat) (l0 : List (S46)) (A1 : Option Addr) (c1 : Nat) (l1 : List (S61)) (r1 : Int) (r2 : Bool) (r3 : Int) (r4 : ByteArray) (r5 : List (S63)) (r6 : Int) (w : World) (hr0 : Kd.C k46 w A0 l0.length l0) (hc0 : l0.length ≤ c0) (hr1 : Kd.C k61 w A1 l1.length l1) (hc1 : l1.length ≤ c1) (h : parts_Join.f k l0 l1 = some (r1, r2, r3, r4, r5, r6)) (hG : GG w) :
  Calls Tryd.prog 9 #[.slice A0 l0.length c0, .slice A1 l1.length c1] w fun e w' => ∃ v4_ : Value, e = .returned (.tuple #[.agg #[.int .i64 r1, .bool r2, .int .i64 r3, .string r4, v4_], .int .i64 r6]) ∧ Kd.R k63 63 w' w.heap.size (fun _ => True) v4_ r5 ∧ Below w.heap.size w w' := by
 have HG := Aside0.mk hG
 clear hG
 have hu26 := Tryd.underlying26
 have hu61 := Tryd.underlying61
 have HR0 := Aside0.mk hr0
 have HC0 := Aside0.mk hc0
 clear hr0 hc0
 have HR1 := Aside0.mk hr1
 have HC1 := Aside0.mk hc1
 clear hr1 hc1
 have HB := Aside0.mk (Below.refl w.heap.size w)
 have H : ((parts_right.f k l0).bind fun t114 => (if t114 = true then (parts_Join.j0 k l0 l1 ((l1.length : Int) == 0)) else (parts_Join.j0 k l0 l1 true))) = some (r1, r2, r3, r4, r5, r6) := h
 clear h
 have HC3 := Aside0.mk H
 clear H
 go_enter Tryd.func9, Tryd.ntmps9
 go_upto_region 1 with (first | ((with_reducible refine gate_dst (N := 4) rfl ?_); (try (refine gate_guard (by rfl) ?_; dsimp only)); refine box_event ?hg (N := 4) ?hd (cs := #[.int .i64 0, .bool false, .int .i64 0, .string (⟨#[]⟩ : ByteArray), .slice none 0 0]) (t := 26) ?hr ?_; (case hd => rfl); (case hg => rfl); (case hr => first | (go_simp; done) | (go_simp; rfl)); intro gb113 hg w4 hbox hb; have n0_ := Aside0.mk (below_step (bw HB.out) hb); have n1_ := Aside0.mk (hbox); have n2_ := Aside0.mk ((by rw [hg]; exact (below_size (bw HB.out)) : w.heap.size ≤ gb113)); have n3_ := Aside0.mk ((by rw [hg]; exact (below_size (bw HB.out)) : w.heap.size ≤ gb113)); clear HB; have HB := n0_; have BK113 := n1_; have GW113 := n2_; have GE113 := n3_; clear n0_ n1_ n2_ n3_; clear hb hbox hg))
 (try simp only [Act.put, List.setIfInBounds_toArray, List.set_cons_zero, List.set_cons_succ])
 go_cut [21] (fun v21 wc => ∃ (kq : Nat) (x21_2 : Bool), v21 = .bool x21_2 ∧ Aside0 (parts_Join.j0 kq l0 l1 x21_2 = some (r1, r2, r3, r4, r5, r6)) ∧ Aside0 (kq ≤ k) ∧ Aside0 (wc.heap[gb113]? = some (.cells #[.int .i64 0, .bool false, .int .i64 0, .string (⟨#[]⟩ : ByteArray), (.slice none 0 0)] 26 (0, 0))) ∧ Aside0 (Below w.heap.size w wc))
 case first =>
  have H := HC3.out
  clear HC3
  replace H := Option.bind_eq_some_iff.mp H
  obtain ⟨t114, A50, H⟩ := H
  replace H : (if t114 = true then (parts_Join.j0 k l0 l1 ((l1.length : Int) == 0)) else (parts_Join.j0 k l0 l1 true)) = some (r1, r2, r3, r4, r5, r6) := H
  have A5 := Aside0.mk A50
  clear A50
  by_cases c6 : t114 = true
  ·
   subst c6
   have H1 : (parts_Join.j0 k l0 l1 ((l1.length : Int) == 0)) = some (r1, r2, r3, r4, r5, r6) := by rw [if_pos rfl] at H; exact H
   clear H
   have H := H1
   clear H1
   have H' := Aside0.mk H
   clear H
   go_wp2_with (first | ((with_reducible refine gate_callee (f := 29) rfl ?_); refine goesL_ (some 15) rfl rfl Tryd.func29 (by kernel_rfl) rfl #[.slice A0 l0.length c0] rfl gl ?_; (with_reducible refine (parts_right.calls k _ _ l0 true _ ?side1 ?side2 A5.out).mono ?_); (case side1 => exact kC (Kd.C_below HR0.out HB.out)); (case side2 => exact HC0.out); rintro e w7 ⟨rfl, hb⟩; refine ⟨_, rfl, ?_⟩; replace BK113 := Aside0.mk (blk_below (g := gb113) (o := .cells #[.int .i64 0, .bool false, .int .i64 0, .string (⟨#[]⟩ : ByteArray), .slice none 0 0] 26 (0, 0)) (bk BK113.out) hb); replace HB := Aside0.mk (below_step (bws HB.out) hb); (try clear hb); (try clear hb2); (try clear hk); (try clear hi)))
   go_meet
   case rel => exact ⟨_, (((l1.length : Int) == 0)), (by first | rfl | (simp; done) | (simp [*]; done)), H', ⟨by first | omega | exact Nat.le_refl _⟩, ⟨bk BK113.out⟩, ⟨bws HB.out⟩⟩
  ·
   replace c6 := Bool.eq_false_iff.mpr c6
   subst c6
   have H1 : (parts_Join.j0 k l0 l1 true) = some (r1, r2, r3, r4, r5, r6) := by rw [if_neg (show ¬ (false = true) by decide)] at H; exact H
   clear H
   have H := H1
   clear H1
   have H' := Aside0.mk H
   clear H
   go_wp2_with (first | ((with_reducible refine gate_callee (f := 29) rfl ?_); refine goesL_ (some 15) rfl rfl Tryd.func29 (by kernel_rfl) rfl #[.slice A0 l0.length c0] rfl gl ?_; (with_reducible refine (parts_right.calls k _ _ l0 false _ ?side1 ?side2 A5.out).mono ?_); (case side1 => exact kC (Kd.C_below HR0.out HB.out)); (case side2 => exact HC0.out); rintro e w8 ⟨rfl, hb⟩; refine ⟨_, rfl, ?_⟩; replace BK113 := Aside0.mk (blk_below (g := gb113) (o := .cells #[.int .i64 0, .bool false, .int .i64 0, .string (⟨#[]⟩ : ByteArray), .slice none 0 0] 26 (0, 0)) (bk BK113.out) hb); replace HB := Aside0.mk (below_step (bws HB.out) hb); (try clear hb); (try clear hb2); (try clear hk); (try clear hi)))
   go_meet
   case rel => exact ⟨_, (true), (by first | rfl | (simp; done) | (simp [*]; done)), H', ⟨by first | omega | exact Nat.le_refl _⟩, ⟨bk BK113.out⟩, ⟨bws HB.out⟩⟩
 case rest =>
  clear HC3
  try clear c1
  try clear c2
  try clear p2
  try clear c6
  obtain ⟨kq, x21_2, rfl, HA, HJ2, BK113, HB⟩ := hcut
  cases kq with
  | zero => exact absurd HA.out (by simp [parts_Join.j0])
  | succ kj2 =>
   have H := HA.out
   clear HA
   simp only [parts_Join.j0] at H
   by_cases c9 : x21_2 = true
   ·
    subst c9
    have H1 : (some (0, false, 0, (⟨#[]⟩ : ByteArray), ([] : List (S63)), 1)) = some (r1, r2, r3, r4, r5, r6) := by rw [if_pos rfl] at H; exact H
    clear H
    have H := H1
    clear H1
    simp only [Option.some.injEq, Prod.mk.injEq] at H
    obtain ⟨rfl, rfl, rfl, rfl, rfl, rfl⟩ := H
    obtain ⟨hcz10_0, hcz10_1, hcz10_2, hcz10_3, hcz10_4, hfz10_0, hfz10_1, hfz10_2, hfz10_3, hfz10_4⟩ := cz5 BK113.out
    go_wp2
    refine bodyPost_ret (results_ct rfl _ _ gb113 26 #[.int .i64 0, .bool false, .int .i64 0, .string (⟨#[]⟩ : ByteArray), .slice none 0 0] (0, 0) _ rfl (bkp BK113.out) Tryd.underlying26 rfl (by kernel_rfl)) rfl ?_
    exact ⟨_, by first | rfl | (simp [errW_none, errW_some] <;> rfl) | (simp [*, errW_none, errW_some] <;> rfl), by first | exact Kd.R_nil _ _ _ _ _ | exact Kd.N_nil _ _ _ _ _ | exact Kd.V_nil _ _ _ _ _ | exact Kd.Q_nil _ _ _ _ _ | exact Kd.S_nil _ _ _ _ _, by repeat (first | (with_reducible first | exact HB.out | apply below_alloc | apply pw_below_drewN | apply below_drew1 | refine below_set ?_ GE113.out) | exact HB.out)⟩
   ·
    replace c9 := Bool.eq_false_iff.mpr c9
    subst c9
    have H1 : (parts_Join.l0 kj2 l0 l1 1) = some (r1, r2, r3, r4, r5, r6) := by rw [if_neg (show ¬ (false = true) by decide)] at H; exact H
    clear H
    have H := H1
    clear H1
    have H' := Aside0.mk H
    clear H
    go_wp2
    go_loopg [6] kj2 (fun kq v6 w' => ∃ (x6_2 : Int) (x114000_2 : Int) (x114001_2 : Bool) (x114002_2 : Int) (x114003_2 : ByteArray), v6 = .int .i64 x6_2 ∧ Aside0 (parts_Join.l0 kq l0 l1 x6_2 = some (r1, r2, r3, r4, r5, r6)) ∧ Aside0 (kq ≤ kj2) ∧ Aside0 (w'.heap[gb113]? = some (.cells #[.int .i64 x114000_2, .bool x114001_2, .int .i64 x114002_2, .string x114003_2, (.slice none 0 0)] 26 (0, 0))) ∧ Aside0 (Below w.heap.size w w'))
    case atStart => exact ⟨(1), (0), (false), (0), ((⟨#[]⟩ : ByteArray)), (by first | rfl | (simp; done) | (simp [*]; done)), H', ⟨Nat.le_refl _⟩, ⟨bk BK113.out⟩, ⟨bws HB.out⟩⟩
    case round =>
     clear H'
     try clear c1
     try clear c2
     try clear p2
     try clear c6
     try clear c9
     try clear hcz10_0
     try clear hcz10_1
     try clear hcz10_2
     try clear hcz10_3
     try clear hcz10_4
     try clear hfz10_0
     try clear hfz10_1
     try clear hfz10_2
     try clear hfz10_3
     try clear hfz10_4
     try clear p2
     obtain ⟨x6_2, x114000_2, x114001_2, x114002_2, x114003_2, rfl, HA, HK2, BK113, HB⟩ := hrel
     cases gk with
     | zero => exact absurd HA.out (by simp [parts_Join.l0])
     | succ k2 =>
      have H := HA.out
      clear HA
      simp only [parts_Join.l0] at H
      by_cases c11 : x6_2 < (l1.length : Int)
      ·
       rw [if_pos c11] at H
       have c11b0 : decide (x6_2 < (l1.length : Int)) = true := decide_eq_true c11
       clear c11
       by_cases c12 : 0 ≤ x6_2
       ·
        rw [if_pos c12] at H
        have c12b0 : decide (0 ≤ x6_2) = true := decide_eq_true c12
        clear c12
        obtain ⟨ji13, hji13⟩ : ∃ j_ : Int, (wrap64 (x6_2 - 1)) = j_ := ⟨_, rfl⟩
        replace H : (if 0 ≤ (ji13) then (if (ji13) < (l1.length : Int) then (if ((rd_T61 l1 x6_2).f0) ≤ ((rd_T61 l1 (ji13)).f0) then (some (0, false, 0, (⟨#[]⟩ : ByteArray), ([] : List (S63)), 1)) else (parts_Join.l0 k2 l0 l1 (wrap64 (x6_2 + 1)))) else (none)) else (none)) = some (r1, r2, r3, r4, r5, r6) := by first | (rw [hji13] at H; exact H) | (simp only [hji13] at H ⊢; exact H)
        have hji13w : (IntKind.i64.wrap (x6_2 - 1)) = ji13 := (i64_w _).trans hji13
        by_cases c14 : 0 ≤ (ji13)
        ·
         rw [if_pos c14] at H
         have c14b0 : decide (0 ≤ (ji13)) = true := decide_eq_true c14
         clear c14
         by_cases c15 : (ji13) < (l1.length : Int)
         ·
          rw [if_pos c15] at H
          have c15b0 : decide ((ji13) < (l1.length : Int)) = true := decide_eq_true c15
          clear c15
          by_cases c16 : ((rd_T61 l1 x6_2).f0) ≤ ((rd_T61 l1 (ji13)).f0)
          ·
           rw [if_pos c16] at H
           have c16b0 : decide (((rd_T61 l1 x6_2).f0) ≤ ((rd_T61 l1 (ji13)).f0)) = true := decide_eq_true c16
           clear c16
           simp only [Option.some.injEq, Prod.mk.injEq] at H
           obtain ⟨rfl, rfl, rfl, rfl, rfl, rfl⟩ := H
           try go_wp2
           replace BK113 := Aside0.mk (blk_drew BK113.out)
           replace HB := Aside0.mk (below_drew1 HB.out)
           have p115 : 0 ≤ (x6_2 : Int) := of_decide_eq_true asm
           have q115 : x6_2 < (l1.length : Int) := of_decide_eq_true asm
           obtain ⟨ad115, e115, hx115_0, hx115_1⟩ := at_T61 HR1.out x6_2 p115 q115
           have hw115_1 := hx115_1
           have hw115_0 := hx115_0
           cases e115
           replace hx115_0 := bc HB.out hx115_0
           replace hx115_1 := bc HB.out hx115_1
           replace p115 := eq_true p115
           replace q115 := eq_true q115
           have p116 : 0 ≤ ((ji13) : Int) := of_decide_eq_true asm
           have q116 : (ji13) < (l1.length : Int) := of_decide_eq_true asm
           obtain ⟨ad116, e116, hx116_0, hx116_1⟩ := at_T61 HR1.out (ji13) p116 q116
           have hw116_1 := hx116_1
           have hw116_0 := hx116_0
           obtain rfl : ad115 = ad116 := (by injection e116)
           replace hx116_0 := bc HB.out hx116_0
           replace hx116_1 := bc HB.out hx116_1
           replace p116 := eq_true p116
           replace q116 := eq_true q116
           refine start_ (n := 12) (S := fun w' => w'.cell? (ad115.add ((x6_2).toNat * 2)) = some (.int .i64 ((rd_T61 l1 x6_2).f0)) ∧ w'.cell? ⟨(ad115.add ((x6_2).toNat * 2)).block, (ad115.add ((x6_2).toNat * 2)).off + 1, none⟩ = some (.string ((rd_T61 l1 x6_2).f1)) ∧ w'.cell? (ad115.add (((ji13)).toNat * 2)) = some (.int .i64 ((rd_T61 l1 (ji13)).f0)) ∧ w'.cell? ⟨(ad115.add (((ji13)).toNat * 2)).block, (ad115.add (((ji13)).toNat * 2)).off + 1, none⟩ = some (.string ((rd_T61 l1 (ji13)).f1))) (ds := []) #[false, false, false, false, false, false, false, false, false, false, false, false] (by kernel_rfl) rfl rfl ⟨(bc HB.out hw115_0), (bc HB.out hw115_1), (bc HB.out hw116_0), (bc HB.out hw116_1)⟩ (fun hHeld => ?_); refine with_tabW parts_Join.tab6 parts_Join.bits6 (fun HT_ HW_ => ?_)
           generalize wr.drew = w17 at BK113 HB hx115_0 hx115_1 hx116_0 hx116_1 hHeld ⊢
           refine pu 0 (some 29) HT_.out ?_
           refine pu 1 (some 30) HT_.out ?_
           refine pu 2 (some 31) HT_.out ?_
           refine pu 3 (some 32) HT_.out ?_
           refine pu 5 (some 34) HT_.out ?_
           refine pu 6 (some 35) HT_.out ?_
           refine pu 7 (some 36) HT_.out ?_
           refine pu 8 (some 37) HT_.out ?_
           refine pu 9 (some 38) HT_.out ?_
           refine tk 4 (some 33) HT_.out HW_.out hHeld ?_
           refine tk 10 (some 39) HT_.out HW_.out hHeld ?_
           refine pu 11 (some 40) HT_.out ?_
           refine done_ (done_of HT_.out (by kernel_rfl)) ?_
           obtain ⟨hcz18_0, hcz18_1, hcz18_2, hcz18_3, hcz18_4, hfz18_0, hfz18_1, hfz18_2, hfz18_3, hfz18_4⟩ := cz5 BK113.out
           try go_wp2
           refine bodyPost_ret (results_ct rfl _ _ gb113 26 #[.int .i64 0, .bool false, .int .i64 0, .string (⟨#[]⟩ : ByteArray), .slice none 0 0] (0, 0) _ rfl (bkp BK113.out) Tryd.underlying26 rfl (by kernel_rfl)) rfl ?_
           exact ⟨_, by first | rfl | (simp [errW_none, errW_some] <;> rfl) | (simp only [← hji13]; first | rfl | (simp [errW_none, errW_some] <;> rfl)) | (simp [*, errW_none, errW_some] <;> rfl), by first | exact Kd.R_nil _ _ _ _ _ | exact Kd.N_nil _ _ _ _ _ | exact Kd.V_nil _ _ _ _ _ | exact Kd.Q_nil _ _ _ _ _ | exact Kd.S_nil _ _ _ _ _, by repeat (first | (with_reducible first | exact HB.out | apply below_alloc | apply pw_below_drewN | apply below_drew1 | refine below_set ?_ GE113.out) | exact HB.out)⟩
          ·
           rw [if_neg c16] at H
           have c16b0 : decide (((rd_T61 l1 x6_2).f0) ≤ ((rd_T61 l1 (ji13)).f0)) = false := decide_eq_false c16
           clear c16
           have H' := Aside0.mk H
           clear H
           try go_wp2
           replace BK113 := Aside0.mk (blk_drew BK113.out)
           replace HB := Aside0.mk (below_drew1 HB.out)
           have p115 : 0 ≤ (x6_2 : Int) := of_decide_eq_true asm
           have q115 : x6_2 < (l1.length : Int) := of_decide_eq_true asm
           obtain ⟨ad115, e115, hx115_0, hx115_1⟩ := at_T61 HR1.out x6_2 p115 q115
           have hw115_1 := hx115_1
           have hw115_0 := hx115_0
           cases e115
           replace hx115_0 := bc HB.out hx115_0
           replace hx115_1 := bc HB.out hx115_1
           replace p115 := eq_true p115
           replace q115 := eq_true q115
           have p116 : 0 ≤ ((ji13) : Int) := of_decide_eq_true asm
           have q116 : (ji13) < (l1.length : Int) := of_decide_eq_true asm
           obtain ⟨ad116, e116, hx116_0, hx116_1⟩ := at_T61 HR1.out (ji13) p116 q116
           have hw116_1 := hx116_1
           have hw116_0 := hx116_0
           obtain rfl : ad115 = ad116 := (by injection e116)
           replace hx116_0 := bc HB.out hx116_0
           replace hx116_1 := bc HB.out hx116_1
           replace p116 := eq_true p116
           replace q116 := eq_true q116
           refine start_ (n := 12) (S := fun w' => w'.cell? (ad115.add ((x6_2).toNat * 2)) = some (.int .i64 ((rd_T61 l1 x6_2).f0)) ∧ w'.cell? ⟨(ad115.add ((x6_2).toNat * 2)).block, (ad115.add ((x6_2).toNat * 2)).off + 1, none⟩ = some (.string ((rd_T61 l1 x6_2).f1)) ∧ w'.cell? (ad115.add (((ji13)).toNat * 2)) = some (.int .i64 ((rd_T61 l1 (ji13)).f0)) ∧ w'.cell? ⟨(ad115.add (((ji13)).toNat * 2)).block, (ad115.add (((ji13)).toNat * 2)).off + 1, none⟩ = some (.string ((rd_T61 l1 (ji13)).f1))) (ds := []) #[false, false, false, false, false, false, false, false, false, false, false, false] (by kernel_rfl) rfl rfl ⟨(bc HB.out hw115_0), (bc HB.out hw115_1), (bc HB.out hw116_0), (bc HB.out hw116_1)⟩ (fun hHeld => ?_); refine with_tabW parts_Join.tab6 parts_Join.bits6 (fun HT_ HW_ => ?_)
           generalize wr.drew = w19 at BK113 HB hx115_0 hx115_1 hx116_0 hx116_1 hHeld ⊢
           refine pu 0 (some 29) HT_.out ?_
           refine pu 1 (some 30) HT_.out ?_
           refine pu 2 (some 31) HT_.out ?_
           refine pu 3 (some 32) HT_.out ?_
           refine pu 5 (some 34) HT_.out ?_
           refine pu 6 (some 35) HT_.out ?_
           refine pu 7 (some 36) HT_.out ?_
           refine pu 8 (some 37) HT_.out ?_
           refine pu 9 (some 38) HT_.out ?_
           refine tk 4 (some 33) HT_.out HW_.out hHeld ?_
           refine tk 10 (some 39) HT_.out HW_.out hHeld ?_
           refine pu 11 (some 40) HT_.out ?_
           refine done_ (done_of HT_.out (by kernel_rfl)) ?_
           try go_wp2
           go_roundg k2
           case measure => have := HJ2.out; have := HK2.out; omega
           case rel => exact ⟨(wrap64 (x6_2 + 1)), (x114000_2), (x114001_2), (x114002_2), (x114003_2), (by first | rfl | (simp; done) | (simp [*]; done)), H', ⟨by have := HJ2.out; have := HK2.out; omega⟩, ⟨bk BK113.out⟩, ⟨bws HB.out⟩⟩
         ·
          rw [if_neg c15] at H
          exact absurd H (by simp)
        ·
         rw [if_neg c14] at H
         exact absurd H (by simp)
       ·
        rw [if_neg c12] at H
        exact absurd H (by simp)
      ·
       rw [if_neg c11] at H
       have c11b0 : decide (x6_2 < (l1.length : Int)) = false := decide_eq_false c11
       clear c11
       have H' := Aside0.mk H
       clear H
       go_wp2_with (first | ((with_reducible refine gate_dst (N := 7) rfl ?_); (try (refine gate_guard (by rfl) ?_; dsimp only)); refine box_event ?hg (N := 7) ?hd (cs := #[.int .i64 0, .bool false, .int .i64 0, .string (⟨#[]⟩ : ByteArray), .slice none 0 0]) (t := 26) ?hr ?_; (case hd => rfl); (case hg => rfl); (case hr => first | (go_simp; done) | (go_simp; rfl)); intro gb117 hg w20 hbox hb; have n0_ := Aside0.mk (blk_below (g := gb113) (o := .cells #[.int .i64 x114000_2, .bool x114001_2, .int .i64 x114002_2, .string x114003_2, .slice none 0 0] 26 (0, 0)) (bk BK113.out) hb); have n1_ := Aside0.mk (below_step (bws HB.out) hb); have n2_ := Aside0.mk (hbox); have n3_ := Aside0.mk ((by rw [hg]; exact (below_size (bws HB.out)) : w.heap.size ≤ gb117)); have n4_ := Aside0.mk ((by rw [hg]; exact (below_size (bws HB.out)) : w.heap.size ≤ gb117)); have n5_ := Aside0.mk ((by rw [hg]; exact Nat.ne_of_lt (blk_lt (g := gb113) (o := .cells #[.int .i64 x114000_2, .bool x114001_2, .int .i64 x114002_2, .string x114003_2, .slice none 0 0] 26 (0, 0)) (bk BK113.out)) : gb113 ≠ gb117)); have n6_ := Aside0.mk ((by rw [hg]; exact Nat.ne_of_gt (blk_lt (g := gb113) (o := .cells #[.int .i64 x114000_2, .bool x114001_2, .int .i64 x114002_2, .string x114003_2, .slice none 0 0] 26 (0, 0)) (bk BK113.out)) : gb117 ≠ gb113)); clear BK113; clear HB; have BK113 := n0_; have HB := n1_; have BK117 := n2_; have GW117 := n3_; have GE117 := n4_; have NB113_117 := n5_; have NB117_113 := n6_; clear n0_ n1_ n2_ n3_ n4_ n5_ n6_; clear hb hbox hg))
       go_loopg [8, 9, 44] k2 (fun kq v8 v9 v44 w' => ∃ (x8_3 : List ByteArray) (x9_3 : Bool) (x44_3 : Int) (x114000_3 : Int) (x114001_3 : Bool) (x114002_3 : Int) (x114003_3 : ByteArray) (x118002_3 : Int) (x118004_3 : List (S63)) (u118004 : Value), v9 = .bool x9_3 ∧ v44 = .int .i64 x44_3 ∧ Aside0 (parts_Join.l1 kq l0 l1 x8_3 x9_3 l1 (l1.length : Int) x44_3 0 false x118002_3 (⟨#[]⟩ : ByteArray) x118004_3 = some (r1, r2, r3, r4, r5, r6)) ∧ Aside0 (kq ≤ k2) ∧ Aside0 (Kd.R Kd.string 9 w' w.heap.size (fun _ => True) v8 x8_3) ∧ Aside0 (Kd.R k63 63 w' w.heap.size (fun _ => True) u118004 x118004_3) ∧ Aside0 (w'.heap[gb113]? = some (.cells #[.int .i64 x114000_3, .bool x114001_3, .int .i64 x114002_3, .string x114003_3, (.slice none 0 0)] 26 (0, 0))) ∧ Aside0 (w'.heap[gb117]? = some (.cells #[.int .i64 0, .bool false, .int .i64 x118002_3, .string (⟨#[]⟩ : ByteArray), u118004] 26 (0, 0))) ∧ Aside0 (Below w.heap.size w w'))
       case atStart => exact ⟨(([] : List ByteArray)), (false), (0), (x114000_2), (x114001_2), (x114002_2), (x114003_2), (0), (([] : List (S63))), (.slice none 0 0), (by first | rfl | (simp; done) | (simp [*]; done)), (by first | rfl | (simp; done) | (simp [*]; done)), H', ⟨Nat.le_refl _⟩, ⟨by first | exact Kd.R_nil _ _ _ _ _ | exact Kd.N_nil _ _ _ _ _ | exact Kd.V_nil _ _ _ _ _ | exact Kd.Q_nil _ _ _ _ _ | exact Kd.S_nil _ _ _ _ _⟩, ⟨by first | exact Kd.R_nil _ _ _ _ _ | exact Kd.N_nil _ _ _ _ _ | exact Kd.V_nil _ _ _ _ _ | exact Kd.Q_nil _ _ _ _ _ | exact Kd.S_nil _ _ _ _ _⟩, ⟨bk BK113.out⟩, ⟨bk BK117.out⟩, ⟨bws HB.out⟩⟩
       case round =>
        clear H'
        try clear c1
        try clear p1
        try clear q1
        try clear hx1
        try clear c2
        try clear p2
        try clear c6
        try clear p6
        try clear c9
        try clear c11
        try clear c11b0
        try clear p11
        try clear q11
        try clear hx11
        try clear c12
        try clear c12b0
        try clear c14
        try clear c14b0
        try clear c15
        try clear c15b0
        try clear c16
        try clear c16b0
        try clear hcz10_0
        try clear hcz10_1
        try clear hcz10_2
        try clear hcz10_3
        try clear hcz10_4
        try clear hcz18_0
        try clear hcz18_1
        try clear hcz18_2
        try clear hcz18_3
        try clear hcz18_4
        try clear hfz10_0
        try clear hfz10_1
        try clear hfz10_2
        try clear hfz10_3
        try clear hfz10_4
        try clear hfz18_0
        try clear hfz18_1
        try clear hfz18_2
        try clear hfz18_3
        try clear hfz18_4
        try clear hx115_0
        try clear hx115_1
        try clear hx116_0
        try clear hx116_1
        try clear p115
        try clear p116
        try clear p2
        try clear q115
        try clear q116
        obtain ⟨x8_3, x9_3, x44_3, x114000_3, x114001_3, x114002_3, x114003_3, x118002_3, x118004_3, u118004, rfl, rfl, HA, HK3, HO_8, HO_118004, BK113, BK117, HB⟩ := hrel
        cases gk with
        | zero => exact absurd HA.out (by simp [parts_Join.l1])
        | succ k3 =>
         have H := HA.out
         clear HA
         simp only [parts_Join.l1] at H
         by_cases c21 : x44_3 < (l1.length : Int)
         ·
          rw [if_pos c21] at H
          have c21b0 : decide (x44_3 < (l1.length : Int)) = true := decide_eq_true c21
          clear c21
          by_cases c22 : 0 ≤ x44_3
          ·
           rw [if_pos c22] at H
           have c22b0 : decide (0 ≤ x44_3) = true := decide_eq_true c22
           clear c22
           by_cases c23 : x44_3 < (l1.length : Int)
           ·
            rw [if_pos c23] at H
            have c23b0 : decide (x44_3 < (l1.length : Int)) = true := decide_eq_true c23
            clear c23
            replace H := Option.bind_eq_some_iff.mp H
            obtain ⟨⟨t120, t121⟩, A240, H⟩ := H
            replace H : (if t121 = true then (if 0 ≤ t120 then (if t120 < (l0.length : Int) then (if ((rd_T46 l0 t120).f2).toList = ((rd_T61 l1 x44_3).f1).toList then (if x118004_3.length + ((rd_T46 l0 t120).f3).length < 5864062014805 then ((some (x118004_3 ++ ((rd_T46 l0 t120).f3) : List (S63))).bind fun y125 => (if x8_3.length < 8796093022208 then ((some (x8_3 ++ [(rd_T46 l0 t120).f2] : List ByteArray)).bind fun y129 => (if x9_3 = true then (parts_Join.l1 k3 l0 l1 y129 true l1 (l1.length : Int) (wrap64 (x44_3 + 1)) 0 false (wrap64 (x118002_3 + ((rd_T46 l0 t120).f1))) (⟨#[]⟩ : ByteArray) y125) else (if x44_3 < (wrap64 ((l1.length : Int) - 1)) then (parts_Join.l1 k3 l0 l1 y129 (decide (((rd_T46 l0 t120).f1) < 64)) l1 (l1.length : Int) (wrap64 (x44_3 + 1)) 0 false (wrap64 (x118002_3 + ((rd_T46 l0 t120).f1))) (⟨#[]⟩ : ByteArray) y125) else (parts_Join.l1 k3 l0 l1 y129 false l1 (l1.length : Int) (wrap64 (x44_3 + 1)) 0 false (wrap64 (x118002_3 + ((rd_T46 l0 t120).f1))) (⟨#[]⟩ : ByteArray) y125)))) else (none))) else (none)) else (some (0, false, 0, (⟨#[]⟩ : ByteArray), ([] : List (S63)), 140))) else (none)) else (none)) else (some (0, false, 0, (⟨#[]⟩ : ByteArray), ([] : List (S63)), 140))) = some (r1, r2, r3, r4, r5, r6) := H
            have A24 := Aside0.mk A240
            clear A240
            by_cases c25 : t121 = true
            ·
             subst c25
             have H1 : (if 0 ≤ t120 then (if t120 < (l0.length : Int) then (if ((rd_T46 l0 t120).f2).toList = ((rd_T61 l1 x44_3).f1).toList then (if x118004_3.length + ((rd_T46 l0 t120).f3).length < 5864062014805 then ((some (x118004_3 ++ ((rd_T46 l0 t120).f3) : List (S63))).bind fun y125 => (if x8_3.length < 8796093022208 then ((some (x8_3 ++ [(rd_T46 l0 t120).f2] : List ByteArray)).bind fun y129 => (if x9_3 = true then (parts_Join.l1 k3 l0 l1 y129 true l1 (l1.length : Int) (wrap64 (x44_3 + 1)) 0 false (wrap64 (x118002_3 + ((rd_T46 l0 t120).f1))) (⟨#[]⟩ : ByteArray) y125) else (if x44_3 < (wrap64 ((l1.length : Int) - 1)) then (parts_Join.l1 k3 l0 l1 y129 (decide (((rd_T46 l0 t120).f1) < 64)) l1 (l1.length : Int) (wrap64 (x44_3 + 1)) 0 false (wrap64 (x118002_3 + ((rd_T46 l0 t120).f1))) (⟨#[]⟩ : ByteArray) y125) else (parts_Join.l1 k3 l0 l1 y129 false l1 (l1.length : Int) (wrap64 (x44_3 + 1)) 0 false (wrap64 (x118002_3 + ((rd_T46 l0 t120).f1))) (⟨#[]⟩ : ByteArray) y125)))) else (none))) else (none)) else (some (0, false, 0, (⟨#[]⟩ : ByteArray), ([] : List (S63)), 140))) else (none)) else (none)) = some (r1, r2, r3, r4, r5, r6) := by rw [if_pos rfl] at H; exact H
             clear H
             have H := H1
             clear H1
             by_cases c26 : 0 ≤ t120
             ·
              rw [if_pos c26] at H
              have c26b0 : decide (0 ≤ t120) = true := decide_eq_true c26
              clear c26
              by_cases c27 : t120 < (l0.length : Int)
              ·
               rw [if_pos c27] at H
               have c27b0 : decide (t120 < (l0.length : Int)) = true := decide_eq_true c27
               clear c27
               by_cases c28 : ((rd_T46 l0 t120).f2).toList = ((rd_T61 l1 x44_3).f1).toList
               ·
                rw [if_pos c28] at H
                have c28b0 : (((rd_T46 l0 t120).f2).toList == ((rd_T61 l1 x44_3).f1).toList) = true := beq_iff_eq.mpr c28
                have c28b1 : (((rd_T46 l0 t120).f2).toList != ((rd_T61 l1 x44_3).f1).toList) = false := bne_eq_false_iff_eq.mpr c28
                clear c28
                by_cases c29 : x118004_3.length + ((rd_T46 l0 t120).f3).length < 5864062014805
                ·
                 rw [if_pos c29] at H
                 have LMc29 := Aside0.mk c29
                 clear c29
                 obtain ⟨y125, hy125⟩ : ∃ y_ : List (S63), y_ = (x118004_3 ++ ((rd_T46 l0 t120).f3)) := ⟨_, rfl⟩
                 replace H : (if x8_3.length < 8796093022208 then ((some (x8_3 ++ [(rd_T46 l0 t120).f2] : List ByteArray)).bind fun y129 => (if x9_3 = true then (parts_Join.l1 k3 l0 l1 y129 true l1 (l1.length : Int) (wrap64 (x44_3 + 1)) 0 false (wrap64 (x118002_3 + ((rd_T46 l0 t120).f1))) (⟨#[]⟩ : ByteArray) y125) else (if x44_3 < (wrap64 ((l1.length : Int) - 1)) then (parts_Join.l1 k3 l0 l1 y129 (decide (((rd_T46 l0 t120).f1) < 64)) l1 (l1.length : Int) (wrap64 (x44_3 + 1)) 0 false (wrap64 (x118002_3 + ((rd_T46 l0 t120).f1))) (⟨#[]⟩ : ByteArray) y125) else (parts_Join.l1 k3 l0 l1 y129 false l1 (l1.length : Int) (wrap64 (x44_3 + 1)) 0 false (wrap64 (x118002_3 + ((rd_T46 l0 t120).f1))) (⟨#[]⟩ : ByteArray) y125)))) else (none)) = some (r1, r2, r3, r4, r5, r6) := by first | (rw [hy125]; with_reducible exact H) | (have H2_ := (Option.bind_some _ _).symm.trans H; rw [hy125]; with_reducible exact H2_) | (have H2_ := (Option.bind_some _ _).symm.trans H; with_reducible exact H2_) | with_reducible exact H | (rw [hy125]; exact H) | exact H
                 have Ny125 := Aside0.mk hy125
                 clear hy125
                 by_cases c30 : x8_3.length < 8796093022208
                 ·
                  rw [if_pos c30] at H
                  have LMc30 := Aside0.mk c30
                  clear c30
                  obtain ⟨y129, hy129⟩ : ∃ y_ : List ByteArray, y_ = (x8_3 ++ [(rd_T46 l0 t120).f2]) := ⟨_, rfl⟩
                  replace H : (if x9_3 = true then (parts_Join.l1 k3 l0 l1 y129 true l1 (l1.length : Int) (wrap64 (x44_3 + 1)) 0 false (wrap64 (x118002_3 + ((rd_T46 l0 t120).f1))) (⟨#[]⟩ : ByteArray) y125) else (if x44_3 < (wrap64 ((l1.length : Int) - 1)) then (parts_Join.l1 k3 l0 l1 y129 (decide (((rd_T46 l0 t120).f1) < 64)) l1 (l1.length : Int) (wrap64 (x44_3 + 1)) 0 false (wrap64 (x118002_3 + ((rd_T46 l0 t120).f1))) (⟨#[]⟩ : ByteArray) y125) else (parts_Join.l1 k3 l0 l1 y129 false l1 (l1.length : Int) (wrap64 (x44_3 + 1)) 0 false (wrap64 (x118002_3 + ((rd_T46 l0 t120).f1))) (⟨#[]⟩ : ByteArray) y125))) = some (r1, r2, r3, r4, r5, r6) := by first | (rw [hy129]; with_reducible exact H) | (have H2_ := (Option.bind_some _ _).symm.trans H; rw [hy129]; with_reducible exact H2_) | (have H2_ := (Option.bind_some _ _).symm.trans H; with_reducible exact H2_) | with_reducible exact H | (rw [hy129]; exact H) | exact H
                  have Ny129 := Aside0.mk hy129
                  clear hy129
                  by_cases c31 : x9_3 = true
                  ·
                   subst c31
                   have H1 : (parts_Join.l1 k3 l0 l1 y129 true l1 (l1.length : Int) (wrap64 (x44_3 + 1)) 0 false (wrap64 (x118002_3 + ((rd_T46 l0 t120).f1))) (⟨#[]⟩ : ByteArray) y125) = some (r1, r2, r3, r4, r5, r6) := by rw [if_pos rfl] at H; exact H
                   clear H
                   have H := H1
                   clear H1
                   have H' := Aside0.mk H
                   clear H
                   have p118 : 0 ≤ (x44_3 : Int) := of_decide_eq_true asm
                   have q118 : x44_3 < (l1.length : Int) := of_decide_eq_true asm
                   obtain ⟨ad118, e118, hx118_0, hx118_1⟩ := at_T61 HR1.out x44_3 p118 q118
                   cases e118
                   replace hx118_0 := bc HB.out hx118_0
                   replace hx118_1 := bc HB.out hx118_1
                   replace p118 := eq_true p118
                   replace q118 := eq_true q118
                   try go_wp2_with (first | ((with_reducible refine gate_dst (N := 11) rfl ?_); (try (refine gate_guard (by rfl) ?_; dsimp only)); refine box_event ?hg (N := 11) ?hd (cs := #[.int .i64 0, .string (⟨#[]⟩ : ByteArray)]) (t := 61) ?hr ?_; (case hd => rfl); (case hg => rfl); (case hr => first | (go_simp; done) | (go_simp; rfl)); intro gb119 hg w32 hbox hb; have n0_ := Aside0.mk (Kd.R_below (kR HO_8.out) hb); have n1_ := Aside0.mk (Kd.R_below (kR HO_118004.out) hb); have n2_ := Aside0.mk (blk_below (g := gb113) (o := .cells #[.int .i64 x114000_3, .bool x114001_3, .int .i64 x114002_3, .string x114003_3, .slice none 0 0] 26 (0, 0)) (bk BK113.out) hb); have n3_ := Aside0.mk (blk_below (g := gb117) (o := .cells #[.int .i64 0, .bool false, .int .i64 x118002_3, .string (⟨#[]⟩ : ByteArray), u118004] 26 (0, 0)) (bk BK117.out) hb); have n4_ := Aside0.mk (below_step (bws HB.out) hb); have n5_ := Aside0.mk (hbox); have n6_ := Aside0.mk ((by rw [hg]; exact (below_size (bws HB.out)) : w.heap.size ≤ gb119)); have n7_ := Aside0.mk ((by rw [hg]; exact (below_size (bws HB.out)) : w.heap.size ≤ gb119)); have n8_ := Aside0.mk ((by rw [hg]; exact Nat.ne_of_lt (blk_lt (g := gb113) (o := .cells #[.int .i64 x114000_3, .bool x114001_3, .int .i64 x114002_3, .string x114003_3, .slice none 0 0] 26 (0, 0)) (bk BK113.out)) : gb113 ≠ gb119)); have n9_ := Aside0.mk ((by rw [hg]; exact Nat.ne_of_gt (blk_lt (g := gb113) (o := .cells #[.int .i64 x114000_3, .bool x114001_3, .int .i64 x114002_3, .string x114003_3, .slice none 0 0] 26 (0, 0)) (bk BK113.out)) : gb119 ≠ gb113)); have n10_ := Aside0.mk ((by rw [hg]; exact Nat.ne_of_lt (blk_lt (g := gb117) (o := .cells #[.int .i64 0, .bool false, .int .i64 x118002_3, .string (⟨#[]⟩ : ByteArray), u118004] 26 (0, 0)) (bk BK117.out)) : gb117 ≠ gb119)); have n11_ := Aside0.mk ((by rw [hg]; exact Nat.ne_of_gt (blk_lt (g := gb117) (o := .cells #[.int .i64 0, .bool false, .int .i64 x118002_3, .string (⟨#[]⟩ : ByteArray), u118004] 26 (0, 0)) (bk BK117.out)) : gb119 ≠ gb117)); clear HO_8; clear HO_118004; clear BK113; clear BK117; clear HB; have HO_8 := n0_; have HO_118004 := n1_; have BK113 := n2_; have BK117 := n3_; have HB := n4_; have BK119 := n5_; have GW119 := n6_; have GE119 := n7_; have NB113_119 := n8_; have NB119_113 := n9_; have NB117_119 := n10_; have NB119_117 := n11_; clear n0_ n1_ n2_ n3_ n4_ n5_ n6_ n7_ n8_ n9_ n10_ n11_; clear hb hbox hg; have hnb33 := NB119_113.out; have hnc33 := NB113_119.out; have hnb34 := NB119_117.out; have hnc34 := NB117_119.out; obtain ⟨hcz35_0, hcz35_1, hfz35_0, hfz35_1⟩ := cz2 BK119.out) | ((with_reducible refine gate_callee (f := 30) rfl ?_); refine goesL_ (some 53) rfl rfl Tryd.func30 (by kernel_rfl) rfl #[.slice A0 l0.length c0, .int .i64 ((rd_T61 l1 x44_3).f0)] rfl gl ?_; (with_reducible refine (parts_find.calls _ _ l0 ((rd_T61 l1 x44_3).f0) t120 true _ ?side1 ?side2 A24.out).mono ?_); (case side1 => exact Kd.C_below HR0.out (bws HB.out)); (case side2 => exact HC0.out); rintro e w36 ⟨rfl, hb⟩; refine ⟨_, rfl, ?_⟩; replace HO_8 := Aside0.mk (Kd.R_below (by (with_reducible repeat (first | apply Kd.R_alloc | apply Kd.R_drewN | apply Kd.R_drew)); exact (Kd.R_mono (Kd.R_far (p := ⟨gb119, 1, none⟩) (Kd.R_far (p := ⟨gb119, 0, none⟩) (Kd.R_types HO_8.out BK119.out (by decide)) (fun _ hk => hk.2) (.int .i64 ((rd_T61 l1 x44_3).f0))) (fun _ hk => hk.2) (.string ((rd_T61 l1 x44_3).f1))) (fun _ h_ => h_.1))) hb); replace HO_118004 := Aside0.mk (Kd.R_below (by (with_reducible repeat (first | apply Kd.R_alloc | apply Kd.R_drewN | apply Kd.R_drew)); exact (Kd.R_mono (Kd.R_far (p := ⟨gb119, 1, none⟩) (Kd.R_far (p := ⟨gb119, 0, none⟩) (Kd.R_types HO_118004.out BK119.out (by decide)) (fun _ hk => hk.2) (.int .i64 ((rd_T61 l1 x44_3).f0))) (fun _ hk => hk.2) (.string ((rd_T61 l1 x44_3).f1))) (fun _ h_ => h_.1))) hb); replace BK113 := Aside0.mk (blk_below (g := gb113) (o := .cells #[.int .i64 x114000_3, .bool x114001_3, .int .i64 x114002_3, .string x114003_3, .slice none 0 0] 26 (0, 0)) (bkf BK113.out) hb); replace BK117 := Aside0.mk (blk_below (g := gb117) (o := .cells #[.int .i64 0, .bool false, .int .i64 x118002_3, .string (⟨#[]⟩ : ByteArray), u118004] 26 (0, 0)) (bkf BK117.out) hb); replace BK119 := Aside0.mk (blk_below (g := gb119) (o := .cells #[.int .i64 ((rd_T61 l1 x44_3).f0), .string ((rd_T61 l1 x44_3).f1)] 61 (0, 0)) (bkp BK119.out) hb); replace HB := Aside0.mk (below_step (bws HB.out) hb); (try clear hb); (try clear hb2); (try clear hk); (try clear hi)))
                   replace HO_8 := Aside0.mk (Kd.R_drew HO_8.out)
                   replace HO_118004 := Aside0.mk (Kd.R_drew HO_118004.out)
                   replace BK113 := Aside0.mk (blk_drew BK113.out)
                   replace BK117 := Aside0.mk (blk_drew BK117.out)
                   replace BK119 := Aside0.mk (blk_drew BK119.out)
                   replace HB := Aside0.mk (below_drew1 HB.out)
                   have p122 : 0 ≤ (t120 : Int) := of_decide_eq_true asm
                   have q122 : t120 < (l0.length : Int) := of_decide_eq_true asm
                   obtain ⟨ad122, A122_3, c122_3, e122, hx122_0, hx122_1, hx122_2, hx122_3, hl122_3, hi122_3⟩ := at_T46 HR0.out t120 p122 q122
                   have hw122_3 := hx122_3
                   have hw122_2 := hx122_2
                   have hw122_1 := hx122_1
                   have hw122_0 := hx122_0
                   cases e122
                   replace hx122_0 := bc HB.out hx122_0
                   replace hx122_1 := bc HB.out hx122_1
                   replace hx122_2 := bc HB.out hx122_2
                   replace hx122_3 := bc HB.out hx122_3
                   have HR122_3 := Aside0.mk hi122_3
                   have HC122_3 := Aside0.mk hl122_3
                   clear hi122_3 hl122_3
                   replace p122 := eq_true p122
                   replace q122 := eq_true q122
                   refine start_ (n := 12) (S := fun w' => w'.cell? ⟨gb119, 0, none⟩ = some (.int .i64 ((rd_T61 l1 x44_3).f0)) ∧ w'.cell? ⟨gb119, 1, none⟩ = some (.string ((rd_T61 l1 x44_3).f1)) ∧ w'.cell? (ad122.add ((t120).toNat * 4)) = some (.int .i64 ((rd_T46 l0 t120).f0)) ∧ w'.cell? ⟨(ad122.add ((t120).toNat * 4)).block, (ad122.add ((t120).toNat * 4)).off + 1, none⟩ = some (.int .i64 ((rd_T46 l0 t120).f1)) ∧ w'.cell? ⟨(ad122.add ((t120).toNat * 4)).block, (ad122.add ((t120).toNat * 4)).off + 2, none⟩ = some (.string ((rd_T46 l0 t120).f2)) ∧ w'.cell? ⟨(ad122.add ((t120).toNat * 4)).block, (ad122.add ((t120).toNat * 4)).off + 3, none⟩ = some (.slice A122_3 ((rd_T46 l0 t120).f3).length c122_3)) (ds := []) #[false, false, false, false, false, false, false, false, false, false, false, false] (by kernel_rfl) rfl rfl ⟨(blk_cell BK119.out 0).trans rfl, (blk_cell BK119.out 1).trans rfl, (bc HB.out hw122_0), (bc HB.out hw122_1), (bc HB.out hw122_2), (bc HB.out hw122_3)⟩ (fun hHeld => ?_); refine with_tabW parts_Join.tab15 parts_Join.bits15 (fun HT_ HW_ => ?_)
                   generalize w36.drew = w37 at HO_8 HO_118004 BK113 BK117 BK119 HB HR122_3 hx122_0 hx122_1 hx122_2 hx122_3 hHeld ⊢
                   refine pu 0 (some 56) HT_.out ?_
                   refine pu 1 (some 57) HT_.out ?_
                   refine pu 2 (some 58) HT_.out ?_
                   refine pu 3 (some 59) HT_.out ?_
                   refine pu 4 (some 60) HT_.out ?_
                   refine pu 5 (some 61) HT_.out ?_
                   refine pu 6 (some 62) HT_.out ?_
                   refine pu 8 (some 64) HT_.out ?_
                   refine tk 7 (some 63) HT_.out HW_.out hHeld ?_
                   refine tk 9 (some 65) HT_.out HW_.out hHeld ?_
                   refine pu 10 (some 66) HT_.out ?_
                   refine pu 11 (some 67) HT_.out ?_
                   refine done_ (done_of HT_.out (by kernel_rfl)) ?_
                   try go_wp2
                   replace HO_8 := Aside0.mk (Kd.R_drew HO_8.out)
                   replace HO_118004 := Aside0.mk (Kd.R_drew HO_118004.out)
                   replace BK113 := Aside0.mk (blk_drew BK113.out)
                   replace BK117 := Aside0.mk (blk_drew BK117.out)
                   replace BK119 := Aside0.mk (blk_drew BK119.out)
                   replace HB := Aside0.mk (below_drew1 HB.out)
                   have p123 : 0 ≤ (t120 : Int) := of_decide_eq_true asm
                   have q123 : t120 < (l0.length : Int) := of_decide_eq_true asm
                   obtain ⟨ad123, A123_3, c123_3, e123, hx123_0, hx123_1, hx123_2, hx123_3, hl123_3, hi123_3⟩ := at_T46 HR0.out t120 p123 q123
                   have hw123_3 := hx123_3
                   have hw123_2 := hx123_2
                   have hw123_1 := hx123_1
                   have hw123_0 := hx123_0
                   obtain rfl : ad122 = ad123 := (by injection e123)
                   replace hx123_0 := bc HB.out hx123_0
                   replace hx123_1 := bc HB.out hx123_1
                   replace hx123_2 := bc HB.out hx123_2
                   replace hx123_3 := bc HB.out hx123_3
                   have HR123_3 := Aside0.mk hi123_3
                   have HC123_3 := Aside0.mk hl123_3
                   clear hi123_3 hl123_3
                   replace p123 := eq_true p123
                   replace q123 := eq_true q123
                   refine start_ (n := 10) (S := fun w' => w'.cell? ⟨gb117, 0, none⟩ = some (.int .i64 0) ∧ w'.cell? ⟨gb117, 1, none⟩ = some (.bool false) ∧ w'.cell? ⟨gb117, 2, none⟩ = some (.int .i64 x118002_3) ∧ w'.cell? ⟨gb117, 3, none⟩ = some (.string (⟨#[]⟩ : ByteArray)) ∧ w'.cell? ⟨gb117, 4, none⟩ = some (u118004) ∧ w'.cell? (ad122.add ((t120).toNat * 4)) = some (.int .i64 ((rd_T46 l0 t120).f0)) ∧ w'.cell? ⟨(ad122.add ((t120).toNat * 4)).block, (ad122.add ((t120).toNat * 4)).off + 1, none⟩ = some (.int .i64 ((rd_T46 l0 t120).f1)) ∧ w'.cell? ⟨(ad122.add ((t120).toNat * 4)).block, (ad122.add ((t120).toNat * 4)).off + 2, none⟩ = some (.string ((rd_T46 l0 t120).f2)) ∧ w'.cell? ⟨(ad122.add ((t120).toNat * 4)).block, (ad122.add ((t120).toNat * 4)).off + 3, none⟩ = some (.slice A123_3 ((rd_T46 l0 t120).f3).length c123_3)) (ds := [9]) #[false, false, false, false, false, false, false, false, false, false] (by kernel_rfl) rfl rfl ⟨(blk_cell BK117.out 0).trans rfl, (blk_cell BK117.out 1).trans rfl, (blk_cell BK117.out 2).trans rfl, (blk_cell BK117.out 3).trans rfl, (blk_cell BK117.out 4).trans rfl, (bc HB.out hw123_0), (bc HB.out hw123_1), (bc HB.out hw123_2), (bc HB.out hw123_3)⟩ (fun hHeld => ?_); refine with_tabW parts_Join.tab17 parts_Join.bits17 (fun HT_ HW_ => ?_)
                   generalize w37.drew = w38 at HO_8 HO_118004 BK113 BK117 BK119 HB HR123_3 hx123_0 hx123_1 hx123_2 hx123_3 hHeld ⊢
                   refine pu 0 (some 69) HT_.out ?_
                   refine pu 2 (some 71) HT_.out ?_
                   refine pu 3 (some 72) HT_.out ?_
                   refine pu 4 (some 73) HT_.out ?_
                   refine pu 5 (some 74) HT_.out ?_
                   refine tk 1 (some 70) HT_.out HW_.out hHeld ?_
                   refine tk 6 (some 75) HT_.out HW_.out hHeld ?_
                   refine pu 7 (some 76) HT_.out ?_
                   refine pu 8 (some 77) HT_.out ?_
                   refine last_ (i := 9) (N := none) #[true, true, true, true, true, true, true, true, true, true] rfl rfl (one_of HT_.out (by kernel_rfl)) (by decide) (fun K hK => ?_)
                   have hs39 : w38.cell? ⟨gb117, 2, none⟩ = some (.int .i64 x118002_3) := (blk_cell BK117.out 2).trans rfl
                   have hfs39 := blk_frozen BK117.out 2
                   have hns39_0 := NB113_117.out
                   have hns39_2 := NB119_117.out
                   have hms39_0 := NB117_113.out
                   have hms39_2 := NB117_119.out
                   refine skip_ (w1 := ?_) (by rfl) rfl ?_ ?_
                   rotate_left
                   ·
                    go_simp
                    rfl
                   refine hK.out _ _ ?_
                   clear hK K
                   refine done_ (done_of HT_.out (by kernel_rfl)) ?_
                   try go_wp2
                   have n0_ : Aside0 (Kd.R Kd.string 9 (w38.setCell ⟨gb117, 2, none⟩ (.int .i64 (wrap64 (x118002_3 + ((rd_T46 l0 t120).f1))))) w.heap.size (fun _ => True) u8 x8_3) := ⟨by (with_reducible repeat (first | apply Kd.R_alloc | apply Kd.R_drewN | apply Kd.R_drew)); exact Kd.R_mono (Kd.R_far (p := ⟨gb117, 2, none⟩) (Kd.R_types HO_8.out BK117.out (by decide)) (fun _ hk => hk.2) (.int .i64 (wrap64 (x118002_3 + ((rd_T46 l0 t120).f1))))) (fun _ hk => trivial)⟩
                   have n1_ : Aside0 (Kd.R k63 63 (w38.setCell ⟨gb117, 2, none⟩ (.int .i64 (wrap64 (x118002_3 + ((rd_T46 l0 t120).f1))))) w.heap.size (fun _ => True) u118004 x118004_3) := ⟨by (with_reducible repeat (first | apply Kd.R_alloc | apply Kd.R_drewN | apply Kd.R_drew)); exact Kd.R_mono (Kd.R_far (p := ⟨gb117, 2, none⟩) (Kd.R_types HO_118004.out BK117.out (by decide)) (fun _ hk => hk.2) (.int .i64 (wrap64 (x118002_3 + ((rd_T46 l0 t120).f1))))) (fun _ hk => trivial)⟩
                   have n2_ : Aside0 ((w38.setCell ⟨gb117, 2, none⟩ (.int .i64 (wrap64 (x118002_3 + ((rd_T46 l0 t120).f1))))).heap[gb113]? = some (.cells #[.int .i64 x114000_3, .bool x114001_3, .int .i64 x114002_3, .string x114003_3, .slice none 0 0] 26 (0, 0))) := ⟨bkf BK113.out⟩
                   have n3_ : Aside0 ((w38.setCell ⟨gb117, 2, none⟩ (.int .i64 (wrap64 (x118002_3 + ((rd_T46 l0 t120).f1))))).heap[gb117]? = some (.cells #[.int .i64 0, .bool false, .int .i64 (wrap64 (x118002_3 + ((rd_T46 l0 t120).f1))), .string (⟨#[]⟩ : ByteArray), u118004] 26 (0, 0))) := ⟨bkp BK117.out⟩
                   have n4_ : Aside0 ((w38.setCell ⟨gb117, 2, none⟩ (.int .i64 (wrap64 (x118002_3 + ((rd_T46 l0 t120).f1))))).heap[gb119]? = some (.cells #[.int .i64 ((rd_T61 l1 x44_3).f0), .string ((rd_T61 l1 x44_3).f1)] 61 (0, 0))) := ⟨bkf BK119.out⟩
                   have n5_ : Aside0 (Below w.heap.size w (w38.setCell ⟨gb117, 2, none⟩ (.int .i64 (wrap64 (x118002_3 + ((rd_T46 l0 t120).f1)))))) := ⟨bws HB.out⟩
                   (try clear HO_8)
                   (try clear HO_118004)
                   (try clear BK113)
                   (try clear BK117)
                   (try clear BK119)
                   (try clear HB)
                   generalize (w38.setCell ⟨gb117, 2, none⟩ (.int .i64 (wrap64 (x118002_3 + ((rd_T46 l0 t120).f1))))) = w40 at n0_ n1_ n2_ n3_ n4_ n5_ ⊢
                   have HO_8 := n0_
                   have HO_118004 := n1_
                   have BK113 := n2_
                   have BK117 := n3_
                   have BK119 := n4_
                   have HB := n5_
                   clear n0_ n1_ n2_ n3_ n4_ n5_
                   replace HO_8 := Aside0.mk (Kd.R_drew HO_8.out)
                   replace HO_118004 := Aside0.mk (Kd.R_drew HO_118004.out)
                   replace BK113 := Aside0.mk (blk_drew BK113.out)
                   replace BK117 := Aside0.mk (blk_drew BK117.out)
                   replace BK119 := Aside0.mk (blk_drew BK119.out)
                   replace HB := Aside0.mk (below_drew1 HB.out)
                   have p124 : 0 ≤ (t120 : Int) := of_decide_eq_true asm
                   have q124 : t120 < (l0.length : Int) := of_decide_eq_true asm
                   obtain ⟨ad124, A124_3, c124_3, e124, hx124_0, hx124_1, hx124_2, hx124_3, hl124_3, hi124_3⟩ := at_T46 HR0.out t120 p124 q124
                   have hw124_3 := hx124_3
                   have hw124_2 := hx124_2
                   have hw124_1 := hx124_1
                   have hw124_0 := hx124_0
                   obtain rfl : ad122 = ad124 := (by injection e124)
                   replace hx124_0 := bc HB.out hx124_0
                   replace hx124_1 := bc HB.out hx124_1
                   replace hx124_2 := bc HB.out hx124_2
                   replace hx124_3 := bc HB.out hx124_3
                   have HR124_3 := Aside0.mk hi124_3
                   have HC124_3 := Aside0.mk hl124_3
                   clear hi124_3 hl124_3
                   replace p124 := eq_true p124
                   replace q124 := eq_true q124
                   refine start_ (n := 10) (S := fun w' => w'.cell? ⟨gb117, 0, none⟩ = some (.int .i64 0) ∧ w'.cell? ⟨gb117, 1, none⟩ = some (.bool false) ∧ w'.cell? ⟨gb117, 2, none⟩ = some (.int .i64 (wrap64 (x118002_3 + ((rd_T46 l0 t120).f1)))) ∧ w'.cell? ⟨gb117, 3, none⟩ = some (.string (⟨#[]⟩ : ByteArray)) ∧ w'.cell? ⟨gb117, 4, none⟩ = some (u118004) ∧ w'.cell? (ad122.add ((t120).toNat * 4)) = some (.int .i64 ((rd_T46 l0 t120).f0)) ∧ w'.cell? ⟨(ad122.add ((t120).toNat * 4)).block, (ad122.add ((t120).toNat * 4)).off + 1, none⟩ = some (.int .i64 ((rd_T46 l0 t120).f1)) ∧ w'.cell? ⟨(ad122.add ((t120).toNat * 4)).block, (ad122.add ((t120).toNat * 4)).off + 2, none⟩ = some (.string ((rd_T46 l0 t120).f2)) ∧ w'.cell? ⟨(ad122.add ((t120).toNat * 4)).block, (ad122.add ((t120).toNat * 4)).off + 3, none⟩ = some (.slice A124_3 ((rd_T46 l0 t120).f3).length c124_3)) (ds := [9]) #[false, false, false, false, false, false, false, false, false, false] (by kernel_rfl) rfl rfl ⟨(blk_cell BK117.out 0).trans rfl, (blk_cell BK117.out 1).trans rfl, (blk_cell BK117.out 2).trans rfl, (blk_cell BK117.out 3).trans rfl, (blk_cell BK117.out 4).trans rfl, (bc HB.out hw124_0), (bc HB.out hw124_1), (bc HB.out hw124_2), (bc HB.out hw124_3)⟩ (fun hHeld => ?_); refine with_tabW parts_Join.tab18 parts_Join.bits18 (fun HT_ HW_ => ?_)
                   generalize w40.drew = w41 at HO_8 HO_118004 BK113 BK117 BK119 HB HR124_3 hx124_0 hx124_1 hx124_2 hx124_3 hHeld ⊢
                   refine pu 0 (some 78) HT_.out ?_
                   refine pu 2 (some 80) HT_.out ?_
                   refine pu 3 (some 81) HT_.out ?_
                   refine pu 4 (some 82) HT_.out ?_
                   refine pu 5 (some 83) HT_.out ?_
                   refine tk 1 (some 79) HT_.out HW_.out hHeld ?_
                   refine tk 6 (some 84) HT_.out HW_.out hHeld ?_
                   refine one_ (i := 7) (N := some 85) #[true, true, true, true, true, true, true, true, false, false] rfl rfl (one_of HT_.out (by kernel_rfl)) (by decide) (fun K hK => ?_)
                   refine Kd.R_append_rows_step k63 (w0 := w) w.heap.size (by rfl) (.tmp 79) (.tmp 84) 24 63 (.agg #[(.string ⟨#[]⟩), (.int .i64 0)]) 24 rfl Tryd.underlying24 info63 rfl (by decide) (by omega) u118004 x118004_3 ((rd_T46 l0 t120).f3) _ _ _ (fun _ => True) (fun _ => False) rfl rfl ?aO ?aR (fun _ _ h => h) (fun _ h => h.elim) ?aF ?aB ?aS ?aL ?_
                   (case aR => exact kC (Kd.C_below HR124_3.out HB.out))
                   (case aB => exact (bws HB.out))
                   (case aF => exact (fun _ _ => trivial))
                   (case aO => exact (kR HO_118004.out))
                   (case aS => exact (below_size (bws HB.out)))
                   (case aL => have := LMc29.out; omega)
                   intro v126 w42 ho hb hg hat
                   rw [← Ny125.out] at ho
                   have n0_ := Aside0.mk (Kd.R_over' (kR HO_8.out) (Kd.R_typed (kR HO_118004.out)) (by decide) hg)
                   have n1_ := Aside0.mk (blk_grown (g := gb113) (o := .cells #[.int .i64 x114000_3, .bool x114001_3, .int .i64 x114002_3, .string x114003_3, .slice none 0 0] 26 (0, 0)) (bk BK113.out) hg (Kd.R_ne HO_118004.out BK113.out (by decide)))
                   have n2_ := Aside0.mk (blk_grown (g := gb117) (o := .cells #[.int .i64 0, .bool false, .int .i64 (wrap64 (x118002_3 + ((rd_T46 l0 t120).f1))), .string (⟨#[]⟩ : ByteArray), u118004] 26 (0, 0)) (bk BK117.out) hg (Kd.R_ne HO_118004.out BK117.out (by decide)))
                   have n3_ := Aside0.mk (blk_grown (g := gb119) (o := .cells #[.int .i64 ((rd_T61 l1 x44_3).f0), .string ((rd_T61 l1 x44_3).f1)] 61 (0, 0)) (bk BK119.out) hg (Kd.R_ne HO_118004.out BK119.out (by decide)))
                   have n4_ := Aside0.mk (hb)
                   have n5_ := Aside0.mk (ho)
                   clear HO_8
                   clear BK113
                   clear BK117
                   clear BK119
                   clear HB
                   clear HO_118004
                   have HO_8 := n0_
                   have BK113 := n1_
                   have BK117 := n2_
                   have BK119 := n3_
                   have HB := n4_
                   have HO127 := n5_
                   clear n0_ n1_ n2_ n3_ n4_ n5_
                   clear ho hb hg hat
                   obtain ⟨Ao43, co43, eo43⟩ := Kd.R_slice HO127.out
                   (first | subst eo43 | (injection eo43 with f1_ f2_ f3_; have f4_ := f1_.symm; have f5_ := f3_.symm; clear f1_ f2_ f3_; subst f4_; subst f5_))
                   refine hK.out _ _ ⟨(blk_cell BK117.out 0).trans rfl, (blk_cell BK117.out 1).trans rfl, (blk_cell BK117.out 2).trans rfl, (blk_cell BK117.out 3).trans rfl, (blk_cell BK117.out 4).trans rfl, (bc HB.out hw124_0), (bc HB.out hw124_1), (bc HB.out hw124_2), (bc HB.out hw124_3)⟩ (fun hHeld => ?_)
                   clear hK K
                   refine norm_ (a' := ?_) ?_ ?_
                   rotate_left
                   ·
                    show Act.put _ (some 85) _ = _
                    simp only [Act.put, List.setIfInBounds_toArray, List.set_cons_zero, List.set_cons_succ, i64_w, i32_w]
                    rfl
                   refine pu 8 (some 86) HT_.out ?_
                   refine last_ (i := 9) (N := none) #[true, true, true, true, true, true, true, true, true, true] rfl rfl (one_of HT_.out (by kernel_rfl)) (by decide) (fun K hK => ?_)
                   have hs44 : w42.cell? ⟨gb117, 4, none⟩ = some (u118004) := (blk_cell BK117.out 4).trans rfl
                   have hfs44 := blk_frozen BK117.out 4
                   have hns44_0 := NB113_117.out
                   have hns44_2 := NB119_117.out
                   have hms44_0 := NB117_113.out
                   have hms44_2 := NB117_119.out
                   refine skip_ (w1 := ?_) (by rfl) rfl ?_ ?_
                   rotate_left
                   ·
                    go_simp
                    rfl
                   refine hK.out _ _ ?_
                   clear hK K
                   refine done_ (done_of HT_.out (by kernel_rfl)) ?_
                   have p128 : 0 ≤ (t120 : Int) := of_decide_eq_true asm
                   have q128 : t120 < (l0.length : Int) := of_decide_eq_true asm
                   obtain ⟨ad128, A128_3, c128_3, e128, hx128_0, hx128_1, hx128_2, hx128_3, hl128_3, hi128_3⟩ := at_T46 HR0.out t120 p128 q128
                   obtain rfl : ad122 = ad128 := (by injection e128)
                   have hn128_0 : ad122.block ≠ gb117 := Nat.ne_of_lt (Nat.lt_of_lt_of_le (by have := World.block_lt_of_cell? _ _ hx128_0; first | rwa [add_block] at this | exact this) GW117.out)
                   replace hx128_0 := bc HB.out hx128_0
                   replace hx128_1 := bc HB.out hx128_1
                   replace hx128_2 := bc HB.out hx128_2
                   replace hx128_3 := bc HB.out hx128_3
                   have HR128_3 := Aside0.mk hi128_3
                   have HC128_3 := Aside0.mk hl128_3
                   clear hi128_3 hl128_3
                   replace hx128_0 := (cell_far (p := ⟨gb117, 4, none⟩) (by first | (rw [add_block]; exact hn128_0) | (show (Addr.add _ _).block ≠ _; rw [add_block]; exact hn128_0) | exact hn128_0) (.slice Ao43 y125.length co43)).trans hx128_0
                   replace hx128_1 := (cell_far (p := ⟨gb117, 4, none⟩) (by first | (rw [add_block]; exact hn128_0) | (show (Addr.add _ _).block ≠ _; rw [add_block]; exact hn128_0) | exact hn128_0) (.slice Ao43 y125.length co43)).trans hx128_1
                   replace hx128_2 := (cell_far (p := ⟨gb117, 4, none⟩) (by first | (rw [add_block]; exact hn128_0) | (show (Addr.add _ _).block ≠ _; rw [add_block]; exact hn128_0) | exact hn128_0) (.slice Ao43 y125.length co43)).trans hx128_2
                   replace hx128_3 := (cell_far (p := ⟨gb117, 4, none⟩) (by first | (rw [add_block]; exact hn128_0) | (show (Addr.add _ _).block ≠ _; rw [add_block]; exact hn128_0) | exact hn128_0) (.slice Ao43 y125.length co43)).trans hx128_3
                   clear hn128_0
                   replace p128 := eq_true p128
                   replace q128 := eq_true q128
                   try go_wp2_with (first | ((with_reducible refine gate_builtin (b := .append) (xs := #[.tmp 87, .tmp 93]) rfl ?_); (try (refine gate_guard (by rfl) ?_; dsimp only)); at_builtin; refine Kd.R_append Kd.string (w0 := w) w.heap.size rfl (.tmp 87) (.tmp 93) 56 9 (.string ⟨#[]⟩) 16 rfl Tryd.underlying56 info9 rfl (by decide) (by omega) u8 x8_3 ((rd_T46 l0 t120).f2) [.string ((rd_T46 l0 t120).f2)] (fun _ => True) (fun _ => False) rfl (by first | (go_simp; done) | (go_simp; rfl)) ?aP (fun _ hk => hk.elim) ?aF ?aO ?aB ?aS ?aL ?_; (case aP => exact rfl); (case aB => exact (bws HB.out)); (case aF => exact (fun _ _ => trivial)); (case aO => exact (by (with_reducible repeat (first | apply Kd.R_alloc | apply Kd.R_drewN | apply Kd.R_drew)); exact Kd.R_mono (Kd.R_far (p := ⟨gb117, 4, none⟩) (Kd.R_types HO_8.out BK117.out (by decide)) (fun _ hk => hk.2) (.slice Ao43 y125.length co43)) (fun _ hk => trivial))); (case aS => exact (below_size (bws HB.out))); (case aL => have := LMc30.out; omega); intro v130 w45 ho hb hg hat; rw [← Ny129.out] at ho; have n0_ := Aside0.mk (blk_grown (g := gb113) (o := .cells #[.int .i64 x114000_3, .bool x114001_3, .int .i64 x114002_3, .string x114003_3, .slice none 0 0] 26 (0, 0)) (bkf BK113.out) hg (Kd.R_ne HO_8.out BK113.out (by decide))); have n1_ := Aside0.mk (blk_grown (g := gb117) (o := .cells #[.int .i64 0, .bool false, .int .i64 (wrap64 (x118002_3 + ((rd_T46 l0 t120).f1))), .string (⟨#[]⟩ : ByteArray), .slice Ao43 y125.length co43] 26 (0, 0)) (bkp BK117.out) hg (Kd.R_ne HO_8.out BK117.out (by decide))); have n2_ := Aside0.mk (blk_grown (g := gb119) (o := .cells #[.int .i64 ((rd_T61 l1 x44_3).f0), .string ((rd_T61 l1 x44_3).f1)] 61 (0, 0)) (bkf BK119.out) hg (Kd.R_ne HO_8.out BK119.out (by decide))); have n3_ := Aside0.mk (Kd.R_over' (by (with_reducible repeat (first | apply Kd.R_alloc | apply Kd.R_drewN | apply Kd.R_drew)); exact (Kd.R_mono (Kd.R_far (p := ⟨gb117, 4, none⟩) (Kd.R_types HO127.out BK117.out (by decide)) (fun _ hk => hk.2) (.slice Ao43 y125.length co43)) (fun _ h_ => h_.1))) (Kd.R_typed (by (with_reducible repeat (first | apply Kd.R_alloc | apply Kd.R_drewN | apply Kd.R_drew)); exact (Kd.R_mono (Kd.R_far (p := ⟨gb117, 4, none⟩) (Kd.R_types HO_8.out BK117.out (by decide)) (fun _ hk => hk.2) (.slice Ao43 y125.length co43)) (fun _ h_ => h_.1)))) (by decide) hg); have n4_ := Aside0.mk (hb); have n5_ := Aside0.mk (ho); clear BK113; clear BK117; clear BK119; clear HO127; clear HB; clear HO_8; have BK113 := n0_; have BK117 := n1_; have BK119 := n2_; have HO127 := n3_; have HB := n4_; have HO131 := n5_; clear n0_ n1_ n2_ n3_ n4_ n5_; clear ho hb hg hat))
                   go_roundg k3
                   case measure => have := HJ2.out; have := HK2.out; have := HK3.out; omega
                   case rel => exact ⟨(y129), (true), (wrap64 (x44_3 + 1)), (x114000_3), (x114001_3), (x114002_3), (x114003_3), (wrap64 (x118002_3 + ((rd_T46 l0 t120).f1))), (y125), (.slice Ao43 y125.length co43), (by first | rfl | (simp; done) | (simp [*]; done)), (by first | rfl | (simp; done) | (simp [*]; done)), H', ⟨by have := HJ2.out; have := HK2.out; have := HK3.out; omega⟩, ⟨kR HO131.out⟩, ⟨kR HO127.out⟩, ⟨bk BK113.out⟩, ⟨bk BK117.out⟩, ⟨bws HB.out⟩⟩
                  ·
                   replace c31 := Bool.eq_false_iff.mpr c31
                   subst c31
                   have H1 : (if x44_3 < (wrap64 ((l1.length : Int) - 1)) then (parts_Join.l1 k3 l0 l1 y129 (decide (((rd_T46 l0 t120).f1) < 64)) l1 (l1.length : Int) (wrap64 (x44_3 + 1)) 0 false (wrap64 (x118002_3 + ((rd_T46 l0 t120).f1))) (⟨#[]⟩ : ByteArray) y125) else (parts_Join.l1 k3 l0 l1 y129 false l1 (l1.length : Int) (wrap64 (x44_3 + 1)) 0 false (wrap64 (x118002_3 + ((rd_T46 l0 t120).f1))) (⟨#[]⟩ : ByteArray) y125)) = some (r1, r2, r3, r4, r5, r6) := by rw [if_neg (show ¬ (false = true) by decide)] at H; exact H
                   clear H
                   have H := H1
                   clear H1
                   by_cases c46 : x44_3 < (wrap64 ((l1.length : Int) - 1))
                   ·
                    rw [if_pos c46] at H
                    have c46b0 : decide (x44_3 < (wrap64 ((l1.length : Int) - 1))) = true := decide_eq_true c46
                    clear c46
                    have H' := Aside0.mk H
                    clear H
                    have p118 : 0 ≤ (x44_3 : Int) := of_decide_eq_true asm
                    have q118 : x44_3 < (l1.length : Int) := of_decide_eq_true asm
                    obtain ⟨ad118, e118, hx118_0, hx118_1⟩ := at_T61 HR1.out x44_3 p118 q118
                    cases e118
                    replace hx118_0 := bc HB.out hx118_0
                    replace hx118_1 := bc HB.out hx118_1
                    replace p118 := eq_true p118
                    replace q118 := eq_true q118
                    try go_wp2_with (first | ((with_reducible refine gate_dst (N := 11) rfl ?_); (try (refine gate_guard (by rfl) ?_; dsimp only)); refine box_event ?hg (N := 11) ?hd (cs := #[.int .i64 0, .string (⟨#[]⟩ : ByteArray)]) (t := 61) ?hr ?_; (case hd => rfl); (case hg => rfl); (case hr => first | (go_simp; done) | (go_simp; rfl)); intro gb119 hg w47 hbox hb; have n0_ := Aside0.mk (Kd.R_below (kR HO_8.out) hb); have n1_ := Aside0.mk (Kd.R_below (kR HO_118004.out) hb); have n2_ := Aside0.mk (blk_below (g := gb113) (o := .cells #[.int .i64 x114000_3, .bool x114001_3, .int .i64 x114002_3, .string x114003_3, .slice none 0 0] 26 (0, 0)) (bk BK113.out) hb); have n3_ := Aside0.mk (blk_below (g := gb117) (o := .cells #[.int .i64 0, .bool false, .int .i64 x118002_3, .string (⟨#[]⟩ : ByteArray), u118004] 26 (0, 0)) (bk BK117.out) hb); have n4_ := Aside0.mk (below_step (bws HB.out) hb); have n5_ := Aside0.mk (hbox); have n6_ := Aside0.mk ((by rw [hg]; exact (below_size (bws HB.out)) : w.heap.size ≤ gb119)); have n7_ := Aside0.mk ((by rw [hg]; exact (below_size (bws HB.out)) : w.heap.size ≤ gb119)); have n8_ := Aside0.mk ((by rw [hg]; exact Nat.ne_of_lt (blk_lt (g := gb113) (o := .cells #[.int .i64 x114000_3, .bool x114001_3, .int .i64 x114002_3, .string x114003_3, .slice none 0 0] 26 (0, 0)) (bk BK113.out)) : gb113 ≠ gb119)); have n9_ := Aside0.mk ((by rw [hg]; exact Nat.ne_of_gt (blk_lt (g := gb113) (o := .cells #[.int .i64 x114000_3, .bool x114001_3, .int .i64 x114002_3, .string x114003_3, .slice none 0 0] 26 (0, 0)) (bk BK113.out)) : gb119 ≠ gb113)); have n10_ := Aside0.mk ((by rw [hg]; exact Nat.ne_of_lt (blk_lt (g := gb117) (o := .cells #[.int .i64 0, .bool false, .int .i64 x118002_3, .string (⟨#[]⟩ : ByteArray), u118004] 26 (0, 0)) (bk BK117.out)) : gb117 ≠ gb119)); have n11_ := Aside0.mk ((by rw [hg]; exact Nat.ne_of_gt (blk_lt (g := gb117) (o := .cells #[.int .i64 0, .bool false, .int .i64 x118002_3, .string (⟨#[]⟩ : ByteArray), u118004] 26 (0, 0)) (bk BK117.out)) : gb119 ≠ gb117)); clear HO_8; clear HO_118004; clear BK113; clear BK117; clear HB; have HO_8 := n0_; have HO_118004 := n1_; have BK113 := n2_; have BK117 := n3_; have HB := n4_; have BK119 := n5_; have GW119 := n6_; have GE119 := n7_; have NB113_119 := n8_; have NB119_113 := n9_; have NB117_119 := n10_; have NB119_117 := n11_; clear n0_ n1_ n2_ n3_ n4_ n5_ n6_ n7_ n8_ n9_ n10_ n11_; clear hb hbox hg; have hnb48 := NB119_113.out; have hnc48 := NB113_119.out; have hnb49 := NB119_117.out; have hnc49 := NB117_119.out; obtain ⟨hcz50_0, hcz50_1, hfz50_0, hfz50_1⟩ := cz2 BK119.out) | ((with_reducible refine gate_callee (f := 30) rfl ?_); refine goesL_ (some 53) rfl rfl Tryd.func30 (by kernel_rfl) rfl #[.slice A0 l0.length c0, .int .i64 ((rd_T61 l1 x44_3).f0)] rfl gl ?_; (with_reducible refine (parts_find.calls _ _ l0 ((rd_T61 l1 x44_3).f0) t120 true _ ?side1 ?side2 A24.out).mono ?_); (case side1 => exact Kd.C_below HR0.out (bws HB.out)); (case side2 => exact HC0.out); rintro e w51 ⟨rfl, hb⟩; refine ⟨_, rfl, ?_⟩; replace HO_8 := Aside0.mk (Kd.R_below (by (with_reducible repeat (first | apply Kd.R_alloc | apply Kd.R_drewN | apply Kd.R_drew)); exact (Kd.R_mono (Kd.R_far (p := ⟨gb119, 1, none⟩) (Kd.R_far (p := ⟨gb119, 0, none⟩) (Kd.R_types HO_8.out BK119.out (by decide)) (fun _ hk => hk.2) (.int .i64 ((rd_T61 l1 x44_3).f0))) (fun _ hk => hk.2) (.string ((rd_T61 l1 x44_3).f1))) (fun _ h_ => h_.1))) hb); replace HO_118004 := Aside0.mk (Kd.R_below (by (with_reducible repeat (first | apply Kd.R_alloc | apply Kd.R_drewN | apply Kd.R_drew)); exact (Kd.R_mono (Kd.R_far (p := ⟨gb119, 1, none⟩) (Kd.R_far (p := ⟨gb119, 0, none⟩) (Kd.R_types HO_118004.out BK119.out (by decide)) (fun _ hk => hk.2) (.int .i64 ((rd_T61 l1 x44_3).f0))) (fun _ hk => hk.2) (.string ((rd_T61 l1 x44_3).f1))) (fun _ h_ => h_.1))) hb); replace BK113 := Aside0.mk (blk_below (g := gb113) (o := .cells #[.int .i64 x114000_3, .bool x114001_3, .int .i64 x114002_3, .string x114003_3, .slice none 0 0] 26 (0, 0)) (bkf BK113.out) hb); replace BK117 := Aside0.mk (blk_below (g := gb117) (o := .cells #[.int .i64 0, .bool false, .int .i64 x118002_3, .string (⟨#[]⟩ : ByteArray), u118004] 26 (0, 0)) (bkf BK117.out) hb); replace BK119 := Aside0.mk (blk_below (g := gb119) (o := .cells #[.int .i64 ((rd_T61 l1 x44_3).f0), .string ((rd_T61 l1 x44_3).f1)] 61 (0, 0)) (bkp BK119.out) hb); replace HB := Aside0.mk (below_step (bws HB.out) hb); (try clear hb); (try clear hb2); (try clear hk); (try clear hi)))
                    replace HO_8 := Aside0.mk (Kd.R_drew HO_8.out)
                    replace HO_118004 := Aside0.mk (Kd.R_drew HO_118004.out)
                    replace BK113 := Aside0.mk (blk_drew BK113.out)
                    replace BK117 := Aside0.mk (blk_drew BK117.out)
                    replace BK119 := Aside0.mk (blk_drew BK119.out)
                    replace HB := Aside0.mk (below_drew1 HB.out)
                    have p122 : 0 ≤ (t120 : Int) := of_decide_eq_true asm
                    have q122 : t120 < (l0.length : Int) := of_decide_eq_true asm
                    obtain ⟨ad122, A122_3, c122_3, e122, hx122_0, hx122_1, hx122_2, hx122_3, hl122_3, hi122_3⟩ := at_T46 HR0.out t120 p122 q122
                    have hw122_3 := hx122_3
                    have hw122_2 := hx122_2
                    have hw122_1 := hx122_1
                    have hw122_0 := hx122_0
                    cases e122
                    replace hx122_0 := bc HB.out hx122_0
                    replace hx122_1 := bc HB.out hx122_1
                    replace hx122_2 := bc HB.out hx122_2
                    replace hx122_3 := bc HB.out hx122_3
                    have HR122_3 := Aside0.mk hi122_3
                    have HC122_3 := Aside0.mk hl122_3
                    clear hi122_3 hl122_3
                    replace p122 := eq_true p122
                    replace q122 := eq_true q122
                    refine start_ (n := 12) (S := fun w' => w'.cell? ⟨gb119, 0, none⟩ = some (.int .i64 ((rd_T61 l1 x44_3).f0)) ∧ w'.cell? ⟨gb119, 1, none⟩ = some (.string ((rd_T61 l1 x44_3).f1)) ∧ w'.cell? (ad122.add ((t120).toNat * 4)) = some (.int .i64 ((rd_T46 l0 t120).f0)) ∧ w'.cell? ⟨(ad122.add ((t120).toNat * 4)).block, (ad122.add ((t120).toNat * 4)).off + 1, none⟩ = some (.int .i64 ((rd_T46 l0 t120).f1)) ∧ w'.cell? ⟨(ad122.add ((t120).toNat * 4)).block, (ad122.add ((t120).toNat * 4)).off + 2, none⟩ = some (.string ((rd_T46 l0 t120).f2)) ∧ w'.cell? ⟨(ad122.add ((t120).toNat * 4)).block, (ad122.add ((t120).toNat * 4)).off + 3, none⟩ = some (.slice A122_3 ((rd_T46 l0 t120).f3).length c122_3)) (ds := []) #[false, false, false, false, false, false, false, false, false, false, false, false] (by kernel_rfl) rfl rfl ⟨(blk_cell BK119.out 0).trans rfl, (blk_cell BK119.out 1).trans rfl, (bc HB.out hw122_0), (bc HB.out hw122_1), (bc HB.out hw122_2), (bc HB.out hw122_3)⟩ (fun hHeld => ?_); refine with_tabW parts_Join.tab15 parts_Join.bits15 (fun HT_ HW_ => ?_)
                    generalize w51.drew = w52 at HO_8 HO_118004 BK113 BK117 BK119 HB HR122_3 hx122_0 hx122_1 hx122_2 hx122_3 hHeld ⊢
                    refine pu 0 (some 56) HT_.out ?_
                    refine pu 1 (some 57) HT_.out ?_
                    refine pu 2 (some 58) HT_.out ?_
                    refine pu 3 (some 59) HT_.out ?_
                    refine pu 4 (some 60) HT_.out ?_
                    refine pu 5 (some 61) HT_.out ?_
                    refine pu 6 (some 62) HT_.out ?_
                    refine pu 8 (some 64) HT_.out ?_
                    refine tk 7 (some 63) HT_.out HW_.out hHeld ?_
                    refine tk 9 (some 65) HT_.out HW_.out hHeld ?_
                    refine pu 10 (some 66) HT_.out ?_
                    refine pu 11 (some 67) HT_.out ?_
                    refine done_ (done_of HT_.out (by kernel_rfl)) ?_
                    try go_wp2
                    replace HO_8 := Aside0.mk (Kd.R_drew HO_8.out)
                    replace HO_118004 := Aside0.mk (Kd.R_drew HO_118004.out)
                    replace BK113 := Aside0.mk (blk_drew BK113.out)
                    replace BK117 := Aside0.mk (blk_drew BK117.out)
                    replace BK119 := Aside0.mk (blk_drew BK119.out)
                    replace HB := Aside0.mk (below_drew1 HB.out)
                    have p123 : 0 ≤ (t120 : Int) := of_decide_eq_true asm
                    have q123 : t120 < (l0.length : Int) := of_decide_eq_true asm
                    obtain ⟨ad123, A123_3, c123_3, e123, hx123_0, hx123_1, hx123_2, hx123_3, hl123_3, hi123_3⟩ := at_T46 HR0.out t120 p123 q123
                    have hw123_3 := hx123_3
                    have hw123_2 := hx123_2
                    have hw123_1 := hx123_1
                    have hw123_0 := hx123_0
                    obtain rfl : ad122 = ad123 := (by injection e123)
                    replace hx123_0 := bc HB.out hx123_0
                    replace hx123_1 := bc HB.out hx123_1
                    replace hx123_2 := bc HB.out hx123_2
                    replace hx123_3 := bc HB.out hx123_3
                    have HR123_3 := Aside0.mk hi123_3
                    have HC123_3 := Aside0.mk hl123_3
                    clear hi123_3 hl123_3
                    replace p123 := eq_true p123
                    replace q123 := eq_true q123
                    refine start_ (n := 10) (S := fun w' => w'.cell? ⟨gb117, 0, none⟩ = some (.int .i64 0) ∧ w'.cell? ⟨gb117, 1, none⟩ = some (.bool false) ∧ w'.cell? ⟨gb117, 2, none⟩ = some (.int .i64 x118002_3) ∧ w'.cell? ⟨gb117, 3, none⟩ = some (.string (⟨#[]⟩ : ByteArray)) ∧ w'.cell? ⟨gb117, 4, none⟩ = some (u118004) ∧ w'.cell? (ad122.add ((t120).toNat * 4)) = some (.int .i64 ((rd_T46 l0 t120).f0)) ∧ w'.cell? ⟨(ad122.add ((t120).toNat * 4)).block, (ad122.add ((t120).toNat * 4)).off + 1, none⟩ = some (.int .i64 ((rd_T46 l0 t120).f1)) ∧ w'.cell? ⟨(ad122.add ((t120).toNat * 4)).block, (ad122.add ((t120).toNat * 4)).off + 2, none⟩ = some (.string ((rd_T46 l0 t120).f2)) ∧ w'.cell? ⟨(ad122.add ((t120).toNat * 4)).block, (ad122.add ((t120).toNat * 4)).off + 3, none⟩ = some (.slice A123_3 ((rd_T46 l0 t120).f3).length c123_3)) (ds := [9]) #[false, false, false, false, false, false, false, false, false, false] (by kernel_rfl) rfl rfl ⟨(blk_cell BK117.out 0).trans rfl, (blk_cell BK117.out 1).trans rfl, (blk_cell BK117.out 2).trans rfl, (blk_cell BK117.out 3).trans rfl, (blk_cell BK117.out 4).trans rfl, (bc HB.out hw123_0), (bc HB.out hw123_1), (bc HB.out hw123_2), (bc HB.out hw123_3)⟩ (fun hHeld => ?_); refine with_tabW parts_Join.tab17 parts_Join.bits17 (fun HT_ HW_ => ?_)
                    generalize w52.drew = w53 at HO_8 HO_118004 BK113 BK117 BK119 HB HR123_3 hx123_0 hx123_1 hx123_2 hx123_3 hHeld ⊢
                    refine pu 0 (some 69) HT_.out ?_
                    refine pu 2 (some 71) HT_.out ?_
                    refine pu 3 (some 72) HT_.out ?_
                    refine pu 4 (some 73) HT_.out ?_
                    refine pu 5 (some 74) HT_.out ?_
                    refine tk 1 (some 70) HT_.out HW_.out hHeld ?_
                    refine tk 6 (some 75) HT_.out HW_.out hHeld ?_
                    refine pu 7 (some 76) HT_.out ?_
                    refine pu 8 (some 77) HT_.out ?_
                    refine last_ (i := 9) (N := none) #[true, true, true, true, true, true, true, true, true, true] rfl rfl (one_of HT_.out (by kernel_rfl)) (by decide) (fun K hK => ?_)
                    have hs54 : w53.cell? ⟨gb117, 2, none⟩ = some (.int .i64 x118002_3) := (blk_cell BK117.out 2).trans rfl
                    have hfs54 := blk_frozen BK117.out 2
                    have hns54_0 := NB113_117.out
                    have hns54_2 := NB119_117.out
                    have hms54_0 := NB117_113.out
                    have hms54_2 := NB117_119.out
                    refine skip_ (w1 := ?_) (by rfl) rfl ?_ ?_
                    rotate_left
                    ·
                     go_simp
                     rfl
                    refine hK.out _ _ ?_
                    clear hK K
                    refine done_ (done_of HT_.out (by kernel_rfl)) ?_
                    try go_wp2
                    have n0_ : Aside0 (Kd.R Kd.string 9 (w53.setCell ⟨gb117, 2, none⟩ (.int .i64 (wrap64 (x118002_3 + ((rd_T46 l0 t120).f1))))) w.heap.size (fun _ => True) u8 x8_3) := ⟨by (with_reducible repeat (first | apply Kd.R_alloc | apply Kd.R_drewN | apply Kd.R_drew)); exact Kd.R_mono (Kd.R_far (p := ⟨gb117, 2, none⟩) (Kd.R_types HO_8.out BK117.out (by decide)) (fun _ hk => hk.2) (.int .i64 (wrap64 (x118002_3 + ((rd_T46 l0 t120).f1))))) (fun _ hk => trivial)⟩
                    have n1_ : Aside0 (Kd.R k63 63 (w53.setCell ⟨gb117, 2, none⟩ (.int .i64 (wrap64 (x118002_3 + ((rd_T46 l0 t120).f1))))) w.heap.size (fun _ => True) u118004 x118004_3) := ⟨by (with_reducible repeat (first | apply Kd.R_alloc | apply Kd.R_drewN | apply Kd.R_drew)); exact Kd.R_mono (Kd.R_far (p := ⟨gb117, 2, none⟩) (Kd.R_types HO_118004.out BK117.out (by decide)) (fun _ hk => hk.2) (.int .i64 (wrap64 (x118002_3 + ((rd_T46 l0 t120).f1))))) (fun _ hk => trivial)⟩
                    have n2_ : Aside0 ((w53.setCell ⟨gb117, 2, none⟩ (.int .i64 (wrap64 (x118002_3 + ((rd_T46 l0 t120).f1))))).heap[gb113]? = some (.cells #[.int .i64 x114000_3, .bool x114001_3, .int .i64 x114002_3, .string x114003_3, .slice none 0 0] 26 (0, 0))) := ⟨bkf BK113.out⟩
                    have n3_ : Aside0 ((w53.setCell ⟨gb117, 2, none⟩ (.int .i64 (wrap64 (x118002_3 + ((rd_T46 l0 t120).f1))))).heap[gb117]? = some (.cells #[.int .i64 0, .bool false, .int .i64 (wrap64 (x118002_3 + ((rd_T46 l0 t120).f1))), .string (⟨#[]⟩ : ByteArray), u118004] 26 (0, 0))) := ⟨bkp BK117.out⟩
                    have n4_ : Aside0 ((w53.setCell ⟨gb117, 2, none⟩ (.int .i64 (wrap64 (x118002_3 + ((rd_T46 l0 t120).f1))))).heap[gb119]? = some (.cells #[.int .i64 ((rd_T61 l1 x44_3).f0), .string ((rd_T61 l1 x44_3).f1)] 61 (0, 0))) := ⟨bkf BK119.out⟩
                    have n5_ : Aside0 (Below w.heap.size w (w53.setCell ⟨gb117, 2, none⟩ (.int .i64 (wrap64 (x118002_3 + ((rd_T46 l0 t120).f1)))))) := ⟨bws HB.out⟩
                    (try clear HO_8)
                    (try clear HO_118004)
                    (try clear BK113)
                    (try clear BK117)
                    (try clear BK119)
                    (try clear HB)
                    generalize (w53.setCell ⟨gb117, 2, none⟩ (.int .i64 (wrap64 (x118002_3 + ((rd_T46 l0 t120).f1))))) = w55 at n0_ n1_ n2_ n3_ n4_ n5_ ⊢
                    have HO_8 := n0_
                    have HO_118004 := n1_
                    have BK113 := n2_
                    have BK117 := n3_
                    have BK119 := n4_
                    have HB := n5_
                    clear n0_ n1_ n2_ n3_ n4_ n5_
                    replace HO_8 := Aside0.mk (Kd.R_drew HO_8.out)
                    replace HO_118004 := Aside0.mk (Kd.R_drew HO_118004.out)
                    replace BK113 := Aside0.mk (blk_drew BK113.out)
                    replace BK117 := Aside0.mk (blk_drew BK117.out)
                    replace BK119 := Aside0.mk (blk_drew BK119.out)
                    replace HB := Aside0.mk (below_drew1 HB.out)
                    have p124 : 0 ≤ (t120 : Int) := of_decide_eq_true asm
                    have q124 : t120 < (l0.length : Int) := of_decide_eq_true asm
                    obtain ⟨ad124, A124_3, c124_3, e124, hx124_0, hx124_1, hx124_2, hx124_3, hl124_3, hi124_3⟩ := at_T46 HR0.out t120 p124 q124
                    have hw124_3 := hx124_3
                    have hw124_2 := hx124_2
                    have hw124_1 := hx124_1
                    have hw124_0 := hx124_0
                    obtain rfl : ad122 = ad124 := (by injection e124)
                    replace hx124_0 := bc HB.out hx124_0
                    replace hx124_1 := bc HB.out hx124_1
                    replace hx124_2 := bc HB.out hx124_2
                    replace hx124_3 := bc HB.out hx124_3
                    have HR124_3 := Aside0.mk hi124_3
                    have HC124_3 := Aside0.mk hl124_3
                    clear hi124_3 hl124_3
                    replace p124 := eq_true p124
                    replace q124 := eq_true q124
                    refine start_ (n := 10) (S := fun w' => w'.cell? ⟨gb117, 0, none⟩ = some (.int .i64 0) ∧ w'.cell? ⟨gb117, 1, none⟩ = some (.bool false) ∧ w'.cell? ⟨gb117, 2, none⟩ = some (.int .i64 (wrap64 (x118002_3 + ((rd_T46 l0 t120).f1)))) ∧ w'.cell? ⟨gb117, 3, none⟩ = some (.string (⟨#[]⟩ : ByteArray)) ∧ w'.cell? ⟨gb117, 4, none⟩ = some (u118004) ∧ w'.cell? (ad122.add ((t120).toNat * 4)) = some (.int .i64 ((rd_T46 l0 t120).f0)) ∧ w'.cell? ⟨(ad122.add ((t120).toNat * 4)).block, (ad122.add ((t120).toNat * 4)).off + 1, none⟩ = some (.int .i64 ((rd_T46 l0 t120).f1)) ∧ w'.cell? ⟨(ad122.add ((t120).toNat * 4)).block, (ad122.add ((t120).toNat * 4)).off + 2, none⟩ = some (.string ((rd_T46 l0 t120).f2)) ∧ w'.cell? ⟨(ad122.add ((t120).toNat * 4)).block, (ad122.add ((t120).toNat * 4)).off + 3, none⟩ = some (.slice A124_3 ((rd_T46 l0 t120).f3).length c124_3)) (ds := [9]) #[false, false, false, false, false, false, false, false, false, false] (by kernel_rfl) rfl rfl ⟨(blk_cell BK117.out 0).trans rfl, (blk_cell BK117.out 1).trans rfl, (blk_cell BK117.out 2).trans rfl, (blk_cell BK117.out 3).trans rfl, (blk_cell BK117.out 4).trans rfl, (bc HB.out hw124_0), (bc HB.out hw124_1), (bc HB.out hw124_2), (bc HB.out hw124_3)⟩ (fun hHeld => ?_); refine with_tabW parts_Join.tab18 parts_Join.bits18 (fun HT_ HW_ => ?_)
                    generalize w55.drew = w56 at HO_8 HO_118004 BK113 BK117 BK119 HB HR124_3 hx124_0 hx124_1 hx124_2 hx124_3 hHeld ⊢
                    refine pu 0 (some 78) HT_.out ?_
                    refine pu 2 (some 80) HT_.out ?_
                    refine pu 3 (some 81) HT_.out ?_
                    refine pu 4 (some 82) HT_.out ?_
                    refine pu 5 (some 83) HT_.out ?_
                    refine tk 1 (some 79) HT_.out HW_.out hHeld ?_
                    refine tk 6 (some 84) HT_.out HW_.out hHeld ?_
                    refine one_ (i := 7) (N := some 85) #[true, true, true, true, true, true, true, true, false, false] rfl rfl (one_of HT_.out (by kernel_rfl)) (by decide) (fun K hK => ?_)
                    refine Kd.R_append_rows_step k63 (w0 := w) w.heap.size (by rfl) (.tmp 79) (.tmp 84) 24 63 (.agg #[(.string ⟨#[]⟩), (.int .i64 0)]) 24 rfl Tryd.underlying24 info63 rfl (by decide) (by omega) u118004 x118004_3 ((rd_T46 l0 t120).f3) _ _ _ (fun _ => True) (fun _ => False) rfl rfl ?aO ?aR (fun _ _ h => h) (fun _ h => h.elim) ?aF ?aB ?aS ?aL ?_
                    (case aR => exact kC (Kd.C_below HR124_3.out HB.out))
                    (case aB => exact (bws HB.out))
                    (case aF => exact (fun _ _ => trivial))
                    (case aO => exact (kR HO_118004.out))
                    (case aS => exact (below_size (bws HB.out)))
                    (case aL => have := LMc29.out; omega)
                    intro v126 w57 ho hb hg hat
                    rw [← Ny125.out] at ho
                    have n0_ := Aside0.mk (Kd.R_over' (kR HO_8.out) (Kd.R_typed (kR HO_118004.out)) (by decide) hg)
                    have n1_ := Aside0.mk (blk_grown (g := gb113) (o := .cells #[.int .i64 x114000_3, .bool x114001_3, .int .i64 x114002_3, .string x114003_3, .slice none 0 0] 26 (0, 0)) (bk BK113.out) hg (Kd.R_ne HO_118004.out BK113.out (by decide)))
                    have n2_ := Aside0.mk (blk_grown (g := gb117) (o := .cells #[.int .i64 0, .bool false, .int .i64 (wrap64 (x118002_3 + ((rd_T46 l0 t120).f1))), .string (⟨#[]⟩ : ByteArray), u118004] 26 (0, 0)) (bk BK117.out) hg (Kd.R_ne HO_118004.out BK117.out (by decide)))
                    have n3_ := Aside0.mk (blk_grown (g := gb119) (o := .cells #[.int .i64 ((rd_T61 l1 x44_3).f0), .string ((rd_T61 l1 x44_3).f1)] 61 (0, 0)) (bk BK119.out) hg (Kd.R_ne HO_118004.out BK119.out (by decide)))
                    have n4_ := Aside0.mk (hb)
                    have n5_ := Aside0.mk (ho)
                    clear HO_8
                    clear BK113
                    clear BK117
                    clear BK119
                    clear HB
                    clear HO_118004
                    have HO_8 := n0_
                    have BK113 := n1_
                    have BK117 := n2_
                    have BK119 := n3_
                    have HB := n4_
                    have HO127 := n5_
                    clear n0_ n1_ n2_ n3_ n4_ n5_
                    clear ho hb hg hat
                    obtain ⟨Ao58, co58, eo58⟩ := Kd.R_slice HO127.out
                    (first | subst eo58 | (injection eo58 with f1_ f2_ f3_; have f4_ := f1_.symm; have f5_ := f3_.symm; clear f1_ f2_ f3_; subst f4_; subst f5_))
                    refine hK.out _ _ ⟨(blk_cell BK117.out 0).trans rfl, (blk_cell BK117.out 1).trans rfl, (blk_cell BK117.out 2).trans rfl, (blk_cell BK117.out 3).trans rfl, (blk_cell BK117.out 4).trans rfl, (bc HB.out hw124_0), (bc HB.out hw124_1), (bc HB.out hw124_2), (bc HB.out hw124_3)⟩ (fun hHeld => ?_)
                    clear hK K
                    refine norm_ (a' := ?_) ?_ ?_
                    rotate_left
                    ·
                     show Act.put _ (some 85) _ = _
                     simp only [Act.put, List.setIfInBounds_toArray, List.set_cons_zero, List.set_cons_succ, i64_w, i32_w]
                     rfl
                    refine pu 8 (some 86) HT_.out ?_
                    refine last_ (i := 9) (N := none) #[true, true, true, true, true, true, true, true, true, true] rfl rfl (one_of HT_.out (by kernel_rfl)) (by decide) (fun K hK => ?_)
                    have hs59 : w57.cell? ⟨gb117, 4, none⟩ = some (u118004) := (blk_cell BK117.out 4).trans rfl
                    have hfs59 := blk_frozen BK117.out 4
                    have hns59_0 := NB113_117.out
                    have hns59_2 := NB119_117.out
                    have hms59_0 := NB117_113.out
                    have hms59_2 := NB117_119.out
                    refine skip_ (w1 := ?_) (by rfl) rfl ?_ ?_
                    rotate_left
                    ·
                     go_simp
                     rfl
                    refine hK.out _ _ ?_
                    clear hK K
                    refine done_ (done_of HT_.out (by kernel_rfl)) ?_
                    have p128 : 0 ≤ (t120 : Int) := of_decide_eq_true asm
                    have q128 : t120 < (l0.length : Int) := of_decide_eq_true asm
                    obtain ⟨ad128, A128_3, c128_3, e128, hx128_0, hx128_1, hx128_2, hx128_3, hl128_3, hi128_3⟩ := at_T46 HR0.out t120 p128 q128
                    obtain rfl : ad122 = ad128 := (by injection e128)
                    have hn128_0 : ad122.block ≠ gb117 := Nat.ne_of_lt (Nat.lt_of_lt_of_le (by have := World.block_lt_of_cell? _ _ hx128_0; first | rwa [add_block] at this | exact this) GW117.out)
                    replace hx128_0 := bc HB.out hx128_0
                    replace hx128_1 := bc HB.out hx128_1
                    replace hx128_2 := bc HB.out hx128_2
                    replace hx128_3 := bc HB.out hx128_3
                    have HR128_3 := Aside0.mk hi128_3
                    have HC128_3 := Aside0.mk hl128_3
                    clear hi128_3 hl128_3
                    replace hx128_0 := (cell_far (p := ⟨gb117, 4, none⟩) (by first | (rw [add_block]; exact hn128_0) | (show (Addr.add _ _).block ≠ _; rw [add_block]; exact hn128_0) | exact hn128_0) (.slice Ao58 y125.length co58)).trans hx128_0
                    replace hx128_1 := (cell_far (p := ⟨gb117, 4, none⟩) (by first | (rw [add_block]; exact hn128_0) | (show (Addr.add _ _).block ≠ _; rw [add_block]; exact hn128_0) | exact hn128_0) (.slice Ao58 y125.length co58)).trans hx128_1
                    replace hx128_2 := (cell_far (p := ⟨gb117, 4, none⟩) (by first | (rw [add_block]; exact hn128_0) | (show (Addr.add _ _).block ≠ _; rw [add_block]; exact hn128_0) | exact hn128_0) (.slice Ao58 y125.length co58)).trans hx128_2
                    replace hx128_3 := (cell_far (p := ⟨gb117, 4, none⟩) (by first | (rw [add_block]; exact hn128_0) | (show (Addr.add _ _).block ≠ _; rw [add_block]; exact hn128_0) | exact hn128_0) (.slice Ao58 y125.length co58)).trans hx128_3
                    clear hn128_0
                    replace p128 := eq_true p128
                    replace q128 := eq_true q128
                    try go_wp2_with (first | ((with_reducible refine gate_builtin (b := .append) (xs := #[.tmp 87, .tmp 93]) rfl ?_); (try (refine gate_guard (by rfl) ?_; dsimp only)); at_builtin; refine Kd.R_append Kd.string (w0 := w) w.heap.size rfl (.tmp 87) (.tmp 93) 56 9 (.string ⟨#[]⟩) 16 rfl Tryd.underlying56 info9 rfl (by decide) (by omega) u8 x8_3 ((rd_T46 l0 t120).f2) [.string ((rd_T46 l0 t120).f2)] (fun _ => True) (fun _ => False) rfl (by first | (go_simp; done) | (go_simp; rfl)) ?aP (fun _ hk => hk.elim) ?aF ?aO ?aB ?aS ?aL ?_; (case aP => exact rfl); (case aB => exact (bws HB.out)); (case aF => exact (fun _ _ => trivial)); (case aO => exact (by (with_reducible repeat (first | apply Kd.R_alloc | apply Kd.R_drewN | apply Kd.R_drew)); exact Kd.R_mono (Kd.R_far (p := ⟨gb117, 4, none⟩) (Kd.R_types HO_8.out BK117.out (by decide)) (fun _ hk => hk.2) (.slice Ao58 y125.length co58)) (fun _ hk => trivial))); (case aS => exact (below_size (bws HB.out))); (case aL => have := LMc30.out; omega); intro v130 w60 ho hb hg hat; rw [← Ny129.out] at ho; have n0_ := Aside0.mk (blk_grown (g := gb113) (o := .cells #[.int .i64 x114000_3, .bool x114001_3, .int .i64 x114002_3, .string x114003_3, .slice none 0 0] 26 (0, 0)) (bkf BK113.out) hg (Kd.R_ne HO_8.out BK113.out (by decide))); have n1_ := Aside0.mk (blk_grown (g := gb117) (o := .cells #[.int .i64 0, .bool false, .int .i64 (wrap64 (x118002_3 + ((rd_T46 l0 t120).f1))), .string (⟨#[]⟩ : ByteArray), .slice Ao58 y125.length co58] 26 (0, 0)) (bkp BK117.out) hg (Kd.R_ne HO_8.out BK117.out (by decide))); have n2_ := Aside0.mk (blk_grown (g := gb119) (o := .cells #[.int .i64 ((rd_T61 l1 x44_3).f0), .string ((rd_T61 l1 x44_3).f1)] 61 (0, 0)) (bkf BK119.out) hg (Kd.R_ne HO_8.out BK119.out (by decide))); have n3_ := Aside0.mk (Kd.R_over' (by (with_reducible repeat (first | apply Kd.R_alloc | apply Kd.R_drewN | apply Kd.R_drew)); exact (Kd.R_mono (Kd.R_far (p := ⟨gb117, 4, none⟩) (Kd.R_types HO127.out BK117.out (by decide)) (fun _ hk => hk.2) (.slice Ao58 y125.length co58)) (fun _ h_ => h_.1))) (Kd.R_typed (by (with_reducible repeat (first | apply Kd.R_alloc | apply Kd.R_drewN | apply Kd.R_drew)); exact (Kd.R_mono (Kd.R_far (p := ⟨gb117, 4, none⟩) (Kd.R_types HO_8.out BK117.out (by decide)) (fun _ hk => hk.2) (.slice Ao58 y125.length co58)) (fun _ h_ => h_.1)))) (by decide) hg); have n4_ := Aside0.mk (hb); have n5_ := Aside0.mk (ho); clear BK113; clear BK117; clear BK119; clear HO127; clear HB; clear HO_8; have BK113 := n0_; have BK117 := n1_; have BK119 := n2_; have HO127 := n3_; have HB := n4_; have HO131 := n5_; clear n0_ n1_ n2_ n3_ n4_ n5_; clear ho hb hg hat; have p132 : 0 ≤ (t120 : Int) := of_decide_eq_true asm; have q132 : t120 < (l0.length : Int) := of_decide_eq_true asm; obtain ⟨ad132, A132_3, c132_3, e132, hx132_0, hx132_1, hx132_2, hx132_3, hl132_3, hi132_3⟩ := at_T46 HR0.out t120 p132 q132; obtain rfl : ad122 = ad132 := (by injection e132); replace hx132_0 := bc HB.out hx132_0; replace hx132_1 := bc HB.out hx132_1; replace hx132_2 := bc HB.out hx132_2; replace hx132_3 := bc HB.out hx132_3; have HR132_3 := Aside0.mk hi132_3; have HC132_3 := Aside0.mk hl132_3; clear hi132_3 hl132_3; replace p132 := eq_true p132; replace q132 := eq_true q132))
                    go_roundg k3
                    case measure => have := HJ2.out; have := HK2.out; have := HK3.out; omega
                    case rel => exact ⟨(y129), (decide (((rd_T46 l0 t120).f1) < 64)), (wrap64 (x44_3 + 1)), (x114000_3), (x114001_3), (x114002_3), (x114003_3), (wrap64 (x118002_3 + ((rd_T46 l0 t120).f1))), (y125), (.slice Ao58 y125.length co58), (by first | rfl | (simp; done) | (simp [*]; done)), (by first | rfl | (simp; done) | (simp [*]; done)), H', ⟨by have := HJ2.out; have := HK2.out; have := HK3.out; omega⟩, ⟨kR HO131.out⟩, ⟨kR HO127.out⟩, ⟨bk BK113.out⟩, ⟨bk BK117.out⟩, ⟨bws HB.out⟩⟩
                   ·
                    rw [if_neg c46] at H
                    have c46b0 : decide (x44_3 < (wrap64 ((l1.length : Int) - 1))) = false := decide_eq_false c46
                    clear c46
                    have H' := Aside0.mk H
                    clear H
                    have p118 : 0 ≤ (x44_3 : Int) := of_decide_eq_true asm
                    have q118 : x44_3 < (l1.length : Int) := of_decide_eq_true asm
                    obtain ⟨ad118, e118, hx118_0, hx118_1⟩ := at_T61 HR1.out x44_3 p118 q118
                    cases e118
                    replace hx118_0 := bc HB.out hx118_0
                    replace hx118_1 := bc HB.out hx118_1
                    replace p118 := eq_true p118
                    replace q118 := eq_true q118
                    try go_wp2_with (first | ((with_reducible refine gate_dst (N := 11) rfl ?_); (try (refine gate_guard (by rfl) ?_; dsimp only)); refine box_event ?hg (N := 11) ?hd (cs := #[.int .i64 0, .string (⟨#[]⟩ : ByteArray)]) (t := 61) ?hr ?_; (case hd => rfl); (case hg => rfl); (case hr => first | (go_simp; done) | (go_simp; rfl)); intro gb119 hg w61 hbox hb; have n0_ := Aside0.mk (Kd.R_below (kR HO_8.out) hb); have n1_ := Aside0.mk (Kd.R_below (kR HO_118004.out) hb); have n2_ := Aside0.mk (blk_below (g := gb113) (o := .cells #[.int .i64 x114000_3, .bool x114001_3, .int .i64 x114002_3, .string x114003_3, .slice none 0 0] 26 (0, 0)) (bk BK113.out) hb); have n3_ := Aside0.mk (blk_below (g := gb117) (o := .cells #[.int .i64 0, .bool false, .int .i64 x118002_3, .string (⟨#[]⟩ : ByteArray), u118004] 26 (0, 0)) (bk BK117.out) hb); have n4_ := Aside0.mk (below_step (bws HB.out) hb); have n5_ := Aside0.mk (hbox); have n6_ := Aside0.mk ((by rw [hg]; exact (below_size (bws HB.out)) : w.heap.size ≤ gb119)); have n7_ := Aside0.mk ((by rw [hg]; exact (below_size (bws HB.out)) : w.heap.size ≤ gb119)); have n8_ := Aside0.mk ((by rw [hg]; exact Nat.ne_of_lt (blk_lt (g := gb113) (o := .cells #[.int .i64 x114000_3, .bool x114001_3, .int .i64 x114002_3, .string x114003_3, .slice none 0 0] 26 (0, 0)) (bk BK113.out)) : gb113 ≠ gb119)); have n9_ := Aside0.mk ((by rw [hg]; exact Nat.ne_of_gt (blk_lt (g := gb113) (o := .cells #[.int .i64 x114000_3, .bool x114001_3, .int .i64 x114002_3, .string x114003_3, .slice none 0 0] 26 (0, 0)) (bk BK113.out)) : gb119 ≠ gb113)); have n10_ := Aside0.mk ((by rw [hg]; exact Nat.ne_of_lt (blk_lt (g := gb117) (o := .cells #[.int .i64 0, .bool false, .int .i64 x118002_3, .string (⟨#[]⟩ : ByteArray), u118004] 26 (0, 0)) (bk BK117.out)) : gb117 ≠ gb119)); have n11_ := Aside0.mk ((by rw [hg]; exact Nat.ne_of_gt (blk_lt (g := gb117) (o := .cells #[.int .i64 0, .bool false, .int .i64 x118002_3, .string (⟨#[]⟩ : ByteArray), u118004] 26 (0, 0)) (bk BK117.out)) : gb119 ≠ gb117)); clear HO_8; clear HO_118004; clear BK113; clear BK117; clear HB; have HO_8 := n0_; have HO_118004 := n1_; have BK113 := n2_; have BK117 := n3_; have HB := n4_; have BK119 := n5_; have GW119 := n6_; have GE119 := n7_; have NB113_119 := n8_; have NB119_113 := n9_; have NB117_119 := n10_; have NB119_117 := n11_; clear n0_ n1_ n2_ n3_ n4_ n5_ n6_ n7_ n8_ n9_ n10_ n11_; clear hb hbox hg; have hnb62 := NB119_113.out; have hnc62 := NB113_119.out; have hnb63 := NB119_117.out; have hnc63 := NB117_119.out; obtain ⟨hcz64_0, hcz64_1, hfz64_0, hfz64_1⟩ := cz2 BK119.out) | ((with_reducible refine gate_callee (f := 30) rfl ?_); refine goesL_ (some 53) rfl rfl Tryd.func30 (by kernel_rfl) rfl #[.slice A0 l0.length c0, .int .i64 ((rd_T61 l1 x44_3).f0)] rfl gl ?_; (with_reducible refine (parts_find.calls _ _ l0 ((rd_T61 l1 x44_3).f0) t120 true _ ?side1 ?side2 A24.out).mono ?_); (case side1 => exact Kd.C_below HR0.out (bws HB.out)); (case side2 => exact HC0.out); rintro e w65 ⟨rfl, hb⟩; refine ⟨_, rfl, ?_⟩; replace HO_8 := Aside0.mk (Kd.R_below (by (with_reducible repeat (first | apply Kd.R_alloc | apply Kd.R_drewN | apply Kd.R_drew)); exact (Kd.R_mono (Kd.R_far (p := ⟨gb119, 1, none⟩) (Kd.R_far (p := ⟨gb119, 0, none⟩) (Kd.R_types HO_8.out BK119.out (by decide)) (fun _ hk => hk.2) (.int .i64 ((rd_T61 l1 x44_3).f0))) (fun _ hk => hk.2) (.string ((rd_T61 l1 x44_3).f1))) (fun _ h_ => h_.1))) hb); replace HO_118004 := Aside0.mk (Kd.R_below (by (with_reducible repeat (first | apply Kd.R_alloc | apply Kd.R_drewN | apply Kd.R_drew)); exact (Kd.R_mono (Kd.R_far (p := ⟨gb119, 1, none⟩) (Kd.R_far (p := ⟨gb119, 0, none⟩) (Kd.R_types HO_118004.out BK119.out (by decide)) (fun _ hk => hk.2) (.int .i64 ((rd_T61 l1 x44_3).f0))) (fun _ hk => hk.2) (.string ((rd_T61 l1 x44_3).f1))) (fun _ h_ => h_.1))) hb); replace BK113 := Aside0.mk (blk_below (g := gb113) (o := .cells #[.int .i64 x114000_3, .bool x114001_3, .int .i64 x114002_3, .string x114003_3, .slice none 0 0] 26 (0, 0)) (bkf BK113.out) hb); replace BK117 := Aside0.mk (blk_below (g := gb117) (o := .cells #[.int .i64 0, .bool false, .int .i64 x118002_3, .string (⟨#[]⟩ : ByteArray), u118004] 26 (0, 0)) (bkf BK117.out) hb); replace BK119 := Aside0.mk (blk_below (g := gb119) (o := .cells #[.int .i64 ((rd_T61 l1 x44_3).f0), .string ((rd_T61 l1 x44_3).f1)] 61 (0, 0)) (bkp BK119.out) hb); replace HB := Aside0.mk (below_step (bws HB.out) hb); (try clear hb); (try clear hb2); (try clear hk); (try clear hi)))
                    replace HO_8 := Aside0.mk (Kd.R_drew HO_8.out)
                    replace HO_118004 := Aside0.mk (Kd.R_drew HO_118004.out)
                    replace BK113 := Aside0.mk (blk_drew BK113.out)
                    replace BK117 := Aside0.mk (blk_drew BK117.out)
                    replace BK119 := Aside0.mk (blk_drew BK119.out)
                    replace HB := Aside0.mk (below_drew1 HB.out)
                    have p122 : 0 ≤ (t120 : Int) := of_decide_eq_true asm
                    have q122 : t120 < (l0.length : Int) := of_decide_eq_true asm
                    obtain ⟨ad122, A122_3, c122_3, e122, hx122_0, hx122_1, hx122_2, hx122_3, hl122_3, hi122_3⟩ := at_T46 HR0.out t120 p122 q122
                    have hw122_3 := hx122_3
                    have hw122_2 := hx122_2
                    have hw122_1 := hx122_1
                    have hw122_0 := hx122_0
                    cases e122
                    replace hx122_0 := bc HB.out hx122_0
                    replace hx122_1 := bc HB.out hx122_1
                    replace hx122_2 := bc HB.out hx122_2
                    replace hx122_3 := bc HB.out hx122_3
                    have HR122_3 := Aside0.mk hi122_3
                    have HC122_3 := Aside0.mk hl122_3
                    clear hi122_3 hl122_3
                    replace p122 := eq_true p122
                    replace q122 := eq_true q122
                    refine start_ (n := 12) (S := fun w' => w'.cell? ⟨gb119, 0, none⟩ = some (.int .i64 ((rd_T61 l1 x44_3).f0)) ∧ w'.cell? ⟨gb119, 1, none⟩ = some (.string ((rd_T61 l1 x44_3).f1)) ∧ w'.cell? (ad122.add ((t120).toNat * 4)) = some (.int .i64 ((rd_T46 l0 t120).f0)) ∧ w'.cell? ⟨(ad122.add ((t120).toNat * 4)).block, (ad122.add ((t120).toNat * 4)).off + 1, none⟩ = some (.int .i64 ((rd_T46 l0 t120).f1)) ∧ w'.cell? ⟨(ad122.add ((t120).toNat * 4)).block, (ad122.add ((t120).toNat * 4)).off + 2, none⟩ = some (.string ((rd_T46 l0 t120).f2)) ∧ w'.cell? ⟨(ad122.add ((t120).toNat * 4)).block, (ad122.add ((t120).toNat * 4)).off + 3, none⟩ = some (.slice A122_3 ((rd_T46 l0 t120).f3).length c122_3)) (ds := []) #[false, false, false, false, false, false, false, false, false, false, false, false] (by kernel_rfl) rfl rfl ⟨(blk_cell BK119.out 0).trans rfl, (blk_cell BK119.out 1).trans rfl, (bc HB.out hw122_0), (bc HB.out hw122_1), (bc HB.out hw122_2), (bc HB.out hw122_3)⟩ (fun hHeld => ?_); refine with_tabW parts_Join.tab15 parts_Join.bits15 (fun HT_ HW_ => ?_)
                    generalize w65.drew = w66 at HO_8 HO_118004 BK113 BK117 BK119 HB HR122_3 hx122_0 hx122_1 hx122_2 hx122_3 hHeld ⊢
                    refine pu 0 (some 56) HT_.out ?_
                    refine pu 1 (some 57) HT_.out ?_
                    refine pu 2 (some 58) HT_.out ?_
                    refine pu 3 (some 59) HT_.out ?_
                    refine pu 4 (some 60) HT_.out ?_
                    refine pu 5 (some 61) HT_.out ?_
                    refine pu 6 (some 62) HT_.out ?_
                    refine pu 8 (some 64) HT_.out ?_
                    refine tk 7 (some 63) HT_.out HW_.out hHeld ?_
                    refine tk 9 (some 65) HT_.out HW_.out hHeld ?_
                    refine pu 10 (some 66) HT_.out ?_
                    refine pu 11 (some 67) HT_.out ?_
                    refine done_ (done_of HT_.out (by kernel_rfl)) ?_
                    try go_wp2
                    replace HO_8 := Aside0.mk (Kd.R_drew HO_8.out)
                    replace HO_118004 := Aside0.mk (Kd.R_drew HO_118004.out)
                    replace BK113 := Aside0.mk (blk_drew BK113.out)
                    replace BK117 := Aside0.mk (blk_drew BK117.out)
                    replace BK119 := Aside0.mk (blk_drew BK119.out)
                    replace HB := Aside0.mk (below_drew1 HB.out)
                    have p123 : 0 ≤ (t120 : Int) := of_decide_eq_true asm
                    have q123 : t120 < (l0.length : Int) := of_decide_eq_true asm
                    obtain ⟨ad123, A123_3, c123_3, e123, hx123_0, hx123_1, hx123_2, hx123_3, hl123_3, hi123_3⟩ := at_T46 HR0.out t120 p123 q123
                    have hw123_3 := hx123_3
                    have hw123_2 := hx123_2
                    have hw123_1 := hx123_1
                    have hw123_0 := hx123_0
                    obtain rfl : ad122 = ad123 := (by injection e123)
                    replace hx123_0 := bc HB.out hx123_0
                    replace hx123_1 := bc HB.out hx123_1
                    replace hx123_2 := bc HB.out hx123_2
                    replace hx123_3 := bc HB.out hx123_3
                    have HR123_3 := Aside0.mk hi123_3
                    have HC123_3 := Aside0.mk hl123_3
                    clear hi123_3 hl123_3
                    replace p123 := eq_true p123
                    replace q123 := eq_true q123
                    refine start_ (n := 10) (S := fun w' => w'.cell? ⟨gb117, 0, none⟩ = some (.int .i64 0) ∧ w'.cell? ⟨gb117, 1, none⟩ = some (.bool false) ∧ w'.cell? ⟨gb117, 2, none⟩ = some (.int .i64 x118002_3) ∧ w'.cell? ⟨gb117, 3, none⟩ = some (.string (⟨#[]⟩ : ByteArray)) ∧ w'.cell? ⟨gb117, 4, none⟩ = some (u118004) ∧ w'.cell? (ad122.add ((t120).toNat * 4)) = some (.int .i64 ((rd_T46 l0 t120).f0)) ∧ w'.cell? ⟨(ad122.add ((t120).toNat * 4)).block, (ad122.add ((t120).toNat * 4)).off + 1, none⟩ = some (.int .i64 ((rd_T46 l0 t120).f1)) ∧ w'.cell? ⟨(ad122.add ((t120).toNat * 4)).block, (ad122.add ((t120).toNat * 4)).off + 2, none⟩ = some (.string ((rd_T46 l0 t120).f2)) ∧ w'.cell? ⟨(ad122.add ((t120).toNat * 4)).block, (ad122.add ((t120).toNat * 4)).off + 3, none⟩ = some (.slice A123_3 ((rd_T46 l0 t120).f3).length c123_3)) (ds := [9]) #[false, false, false, false, false, false, false, false, false, false] (by kernel_rfl) rfl rfl ⟨(blk_cell BK117.out 0).trans rfl, (blk_cell BK117.out 1).trans rfl, (blk_cell BK117.out 2).trans rfl, (blk_cell BK117.out 3).trans rfl, (blk_cell BK117.out 4).trans rfl, (bc HB.out hw123_0), (bc HB.out hw123_1), (bc HB.out hw123_2), (bc HB.out hw123_3)⟩ (fun hHeld => ?_); refine with_tabW parts_Join.tab17 parts_Join.bits17 (fun HT_ HW_ => ?_)
                    generalize w66.drew = w67 at HO_8 HO_118004 BK113 BK117 BK119 HB HR123_3 hx123_0 hx123_1 hx123_2 hx123_3 hHeld ⊢
                    refine pu 0 (some 69) HT_.out ?_
                    refine pu 2 (some 71) HT_.out ?_
                    refine pu 3 (some 72) HT_.out ?_
                    refine pu 4 (some 73) HT_.out ?_
                    refine pu 5 (some 74) HT_.out ?_
                    refine tk 1 (some 70) HT_.out HW_.out hHeld ?_
                    refine tk 6 (some 75) HT_.out HW_.out hHeld ?_
                    refine pu 7 (some 76) HT_.out ?_
                    refine pu 8 (some 77) HT_.out ?_
                    refine last_ (i := 9) (N := none) #[true, true, true, true, true, true, true, true, true, true] rfl rfl (one_of HT_.out (by kernel_rfl)) (by decide) (fun K hK => ?_)
                    have hs68 : w67.cell? ⟨gb117, 2, none⟩ = some (.int .i64 x118002_3) := (blk_cell BK117.out 2).trans rfl
                    have hfs68 := blk_frozen BK117.out 2
                    have hns68_0 := NB113_117.out
                    have hns68_2 := NB119_117.out
                    have hms68_0 := NB117_113.out
                    have hms68_2 := NB117_119.out
                    refine skip_ (w1 := ?_) (by rfl) rfl ?_ ?_
                    rotate_left
                    ·
                     go_simp
                     rfl
                    refine hK.out _ _ ?_
                    clear hK K
                    refine done_ (done_of HT_.out (by kernel_rfl)) ?_
                    try go_wp2
                    have n0_ : Aside0 (Kd.R Kd.string 9 (w67.setCell ⟨gb117, 2, none⟩ (.int .i64 (wrap64 (x118002_3 + ((rd_T46 l0 t120).f1))))) w.heap.size (fun _ => True) u8 x8_3) := ⟨by (with_reducible repeat (first | apply Kd.R_alloc | apply Kd.R_drewN | apply Kd.R_drew)); exact Kd.R_mono (Kd.R_far (p := ⟨gb117, 2, none⟩) (Kd.R_types HO_8.out BK117.out (by decide)) (fun _ hk => hk.2) (.int .i64 (wrap64 (x118002_3 + ((rd_T46 l0 t120).f1))))) (fun _ hk => trivial)⟩
                    have n1_ : Aside0 (Kd.R k63 63 (w67.setCell ⟨gb117, 2, none⟩ (.int .i64 (wrap64 (x118002_3 + ((rd_T46 l0 t120).f1))))) w.heap.size (fun _ => True) u118004 x118004_3) := ⟨by (with_reducible repeat (first | apply Kd.R_alloc | apply Kd.R_drewN | apply Kd.R_drew)); exact Kd.R_mono (Kd.R_far (p := ⟨gb117, 2, none⟩) (Kd.R_types HO_118004.out BK117.out (by decide)) (fun _ hk => hk.2) (.int .i64 (wrap64 (x118002_3 + ((rd_T46 l0 t120).f1))))) (fun _ hk => trivial)⟩
                    have n2_ : Aside0 ((w67.setCell ⟨gb117, 2, none⟩ (.int .i64 (wrap64 (x118002_3 + ((rd_T46 l0 t120).f1))))).heap[gb113]? = some (.cells #[.int .i64 x114000_3, .bool x114001_3, .int .i64 x114002_3, .string x114003_3, .slice none 0 0] 26 (0, 0))) := ⟨bkf BK113.out⟩
                    have n3_ : Aside0 ((w67.setCell ⟨gb117, 2, none⟩ (.int .i64 (wrap64 (x118002_3 + ((rd_T46 l0 t120).f1))))).heap[gb117]? = some (.cells #[.int .i64 0, .bool false, .int .i64 (wrap64 (x118002_3 + ((rd_T46 l0 t120).f1))), .string (⟨#[]⟩ : ByteArray), u118004] 26 (0, 0))) := ⟨bkp BK117.out⟩
                    have n4_ : Aside0 ((w67.setCell ⟨gb117, 2, none⟩ (.int .i64 (wrap64 (x118002_3 + ((rd_T46 l0 t120).f1))))).heap[gb119]? = some (.cells #[.int .i64 ((rd_T61 l1 x44_3).f0), .string ((rd_T61 l1 x44_3).f1)] 61 (0, 0))) := ⟨bkf BK119.out⟩
                    have n5_ : Aside0 (Below w.heap.size w (w67.setCell ⟨gb117, 2, none⟩ (.int .i64 (wrap64 (x118002_3 + ((rd_T46 l0 t120).f1)))))) := ⟨bws HB.out⟩
                    (try clear HO_8)
                    (try clear HO_118004)
                    (try clear BK113)
                    (try clear BK117)
                    (try clear BK119)
                    (try clear HB)
                    generalize (w67.setCell ⟨gb117, 2, none⟩ (.int .i64 (wrap64 (x118002_3 + ((rd_T46 l0 t120).f1))))) = w69 at n0_ n1_ n2_ n3_ n4_ n5_ ⊢
                    have HO_8 := n0_
                    have HO_118004 := n1_
                    have BK113 := n2_
                    have BK117 := n3_
                    have BK119 := n4_
                    have HB := n5_
                    clear n0_ n1_ n2_ n3_ n4_ n5_
                    replace HO_8 := Aside0.mk (Kd.R_drew HO_8.out)
                    replace HO_118004 := Aside0.mk (Kd.R_drew HO_118004.out)
                    replace BK113 := Aside0.mk (blk_drew BK113.out)
                    replace BK117 := Aside0.mk (blk_drew BK117.out)
                    replace BK119 := Aside0.mk (blk_drew BK119.out)
                    replace HB := Aside0.mk (below_drew1 HB.out)
                    have p124 : 0 ≤ (t120 : Int) := of_decide_eq_true asm
                    have q124 : t120 < (l0.length : Int) := of_decide_eq_true asm
                    obtain ⟨ad124, A124_3, c124_3, e124, hx124_0, hx124_1, hx124_2, hx124_3, hl124_3, hi124_3⟩ := at_T46 HR0.out t120 p124 q124
                    have hw124_3 := hx124_3
                    have hw124_2 := hx124_2
                    have hw124_1 := hx124_1
                    have hw124_0 := hx124_0
                    obtain rfl : ad122 = ad124 := (by injection e124)
                    replace hx124_0 := bc HB.out hx124_0
                    replace hx124_1 := bc HB.out hx124_1
                    replace hx124_2 := bc HB.out hx124_2
                    replace hx124_3 := bc HB.out hx124_3
                    have HR124_3 := Aside0.mk hi124_3
                    have HC124_3 := Aside0.mk hl124_3
                    clear hi124_3 hl124_3
                    replace p124 := eq_true p124
                    replace q124 := eq_true q124
                    refine start_ (n := 10) (S := fun w' => w'.cell? ⟨gb117, 0, none⟩ = some (.int .i64 0) ∧ w'.cell? ⟨gb117, 1, none⟩ = some (.bool false) ∧ w'.cell? ⟨gb117, 2, none⟩ = some (.int .i64 (wrap64 (x118002_3 + ((rd_T46 l0 t120).f1)))) ∧ w'.cell? ⟨gb117, 3, none⟩ = some (.string (⟨#[]⟩ : ByteArray)) ∧ w'.cell? ⟨gb117, 4, none⟩ = some (u118004) ∧ w'.cell? (ad122.add ((t120).toNat * 4)) = some (.int .i64 ((rd_T46 l0 t120).f0)) ∧ w'.cell? ⟨(ad122.add ((t120).toNat * 4)).block, (ad122.add ((t120).toNat * 4)).off + 1, none⟩ = some (.int .i64 ((rd_T46 l0 t120).f1)) ∧ w'.cell? ⟨(ad122.add ((t120).toNat * 4)).block, (ad122.add ((t120).toNat * 4)).off + 2, none⟩ = some (.string ((rd_T46 l0 t120).f2)) ∧ w'.cell? ⟨(ad122.add ((t120).toNat * 4)).block, (ad122.add ((t120).toNat * 4)).off + 3, none⟩ = some (.slice A124_3 ((rd_T46 l0 t120).f3).length c124_3)) (ds := [9]) #[false, false, false, false, false, false, false, false, false, false] (by kernel_rfl) rfl rfl ⟨(blk_cell BK117.out 0).trans rfl, (blk_cell BK117.out 1).trans rfl, (blk_cell BK117.out 2).trans rfl, (blk_cell BK117.out 3).trans rfl, (blk_cell BK117.out 4).trans rfl, (bc HB.out hw124_0), (bc HB.out hw124_1), (bc HB.out hw124_2), (bc HB.out hw124_3)⟩ (fun hHeld => ?_); refine with_tabW parts_Join.tab18 parts_Join.bits18 (fun HT_ HW_ => ?_)
                    generalize w69.drew = w70 at HO_8 HO_118004 BK113 BK117 BK119 HB HR124_3 hx124_0 hx124_1 hx124_2 hx124_3 hHeld ⊢
                    refine pu 0 (some 78) HT_.out ?_
                    refine pu 2 (some 80) HT_.out ?_
                    refine pu 3 (some 81) HT_.out ?_
                    refine pu 4 (some 82) HT_.out ?_
                    refine pu 5 (some 83) HT_.out ?_
                    refine tk 1 (some 79) HT_.out HW_.out hHeld ?_
                    refine tk 6 (some 84) HT_.out HW_.out hHeld ?_
                    refine one_ (i := 7) (N := some 85) #[true, true, true, true, true, true, true, true, false, false] rfl rfl (one_of HT_.out (by kernel_rfl)) (by decide) (fun K hK => ?_)
                    refine Kd.R_append_rows_step k63 (w0 := w) w.heap.size (by rfl) (.tmp 79) (.tmp 84) 24 63 (.agg #[(.string ⟨#[]⟩), (.int .i64 0)]) 24 rfl Tryd.underlying24 info63 rfl (by decide) (by omega) u118004 x118004_3 ((rd_T46 l0 t120).f3) _ _ _ (fun _ => True) (fun _ => False) rfl rfl ?aO ?aR (fun _ _ h => h) (fun _ h => h.elim) ?aF ?aB ?aS ?aL ?_
                    (case aR => exact kC (Kd.C_below HR124_3.out HB.out))
                    (case aB => exact (bws HB.out))
                    (case aF => exact (fun _ _ => trivial))
                    (case aO => exact (kR HO_118004.out))
                    (case aS => exact (below_size (bws HB.out)))
                    (case aL => have := LMc29.out; omega)
                    intro v126 w71 ho hb hg hat
                    rw [← Ny125.out] at ho
                    have n0_ := Aside0.mk (Kd.R_over' (kR HO_8.out) (Kd.R_typed (kR HO_118004.out)) (by decide) hg)
                    have n1_ := Aside0.mk (blk_grown (g := gb113) (o := .cells #[.int .i64 x114000_3, .bool x114001_3, .int .i64 x114002_3, .string x114003_3, .slice none 0 0] 26 (0, 0)) (bk BK113.out) hg (Kd.R_ne HO_118004.out BK113.out (by decide)))
                    have n2_ := Aside0.mk (blk_grown (g := gb117) (o := .cells #[.int .i64 0, .bool false, .int .i64 (wrap64 (x118002_3 + ((rd_T46 l0 t120).f1))), .string (⟨#[]⟩ : ByteArray), u118004] 26 (0, 0)) (bk BK117.out) hg (Kd.R_ne HO_118004.out BK117.out (by decide)))
                    have n3_ := Aside0.mk (blk_grown (g := gb119) (o := .cells #[.int .i64 ((rd_T61 l1 x44_3).f0), .string ((rd_T61 l1 x44_3).f1)] 61 (0, 0)) (bk BK119.out) hg (Kd.R_ne HO_118004.out BK119.out (by decide)))
                    have n4_ := Aside0.mk (hb)
                    have n5_ := Aside0.mk (ho)
                    clear HO_8
                    clear BK113
                    clear BK117
                    clear BK119
                    clear HB
                    clear HO_118004
                    have HO_8 := n0_
                    have BK113 := n1_
                    have BK117 := n2_
                    have BK119 := n3_
                    have HB := n4_
                    have HO127 := n5_
                    clear n0_ n1_ n2_ n3_ n4_ n5_
                    clear ho hb hg hat
                    obtain ⟨Ao72, co72, eo72⟩ := Kd.R_slice HO127.out
                    (first | subst eo72 | (injection eo72 with f1_ f2_ f3_; have f4_ := f1_.symm; have f5_ := f3_.symm; clear f1_ f2_ f3_; subst f4_; subst f5_))
                    refine hK.out _ _ ⟨(blk_cell BK117.out 0).trans rfl, (blk_cell BK117.out 1).trans rfl, (blk_cell BK117.out 2).trans rfl, (blk_cell BK117.out 3).trans rfl, (blk_cell BK117.out 4).trans rfl, (bc HB.out hw124_0), (bc HB.out hw124_1), (bc HB.out hw124_2), (bc HB.out hw124_3)⟩ (fun hHeld => ?_)
                    clear hK K
                    refine norm_ (a' := ?_) ?_ ?_
                    rotate_left
                    ·
                     show Act.put _ (some 85) _ = _
                     simp only [Act.put, List.setIfInBounds_toArray, List.set_cons_zero, List.set_cons_succ, i64_w, i32_w]
                     rfl
                    refine pu 8 (some 86) HT_.out ?_
                    refine last_ (i := 9) (N := none) #[true, true, true, true, true, true, true, true, true, true] rfl rfl (one_of HT_.out (by kernel_rfl)) (by decide) (fun K hK => ?_)
                    have hs73 : w71.cell? ⟨gb117, 4, none⟩ = some (u118004) := (blk_cell BK117.out 4).trans rfl
                    have hfs73 := blk_frozen BK117.out 4
                    have hns73_0 := NB113_117.out
                    have hns73_2 := NB119_117.out
                    have hms73_0 := NB117_113.out
                    have hms73_2 := NB117_119.out
                    refine skip_ (w1 := ?_) (by rfl) rfl ?_ ?_
                    rotate_left
                    ·
                     go_simp
                     rfl
                    refine hK.out _ _ ?_
                    clear hK K
                    refine done_ (done_of HT_.out (by kernel_rfl)) ?_
                    have p128 : 0 ≤ (t120 : Int) := of_decide_eq_true asm
                    have q128 : t120 < (l0.length : Int) := of_decide_eq_true asm
                    obtain ⟨ad128, A128_3, c128_3, e128, hx128_0, hx128_1, hx128_2, hx128_3, hl128_3, hi128_3⟩ := at_T46 HR0.out t120 p128 q128
                    obtain rfl : ad122 = ad128 := (by injection e128)
                    have hn128_0 : ad122.block ≠ gb117 := Nat.ne_of_lt (Nat.lt_of_lt_of_le (by have := World.block_lt_of_cell? _ _ hx128_0; first | rwa [add_block] at this | exact this) GW117.out)
                    replace hx128_0 := bc HB.out hx128_0
                    replace hx128_1 := bc HB.out hx128_1
                    replace hx128_2 := bc HB.out hx128_2
                    replace hx128_3 := bc HB.out hx128_3
                    have HR128_3 := Aside0.mk hi128_3
                    have HC128_3 := Aside0.mk hl128_3
                    clear hi128_3 hl128_3
                    replace hx128_0 := (cell_far (p := ⟨gb117, 4, none⟩) (by first | (rw [add_block]; exact hn128_0) | (show (Addr.add _ _).block ≠ _; rw [add_block]; exact hn128_0) | exact hn128_0) (.slice Ao72 y125.length co72)).trans hx128_0
                    replace hx128_1 := (cell_far (p := ⟨gb117, 4, none⟩) (by first | (rw [add_block]; exact hn128_0) | (show (Addr.add _ _).block ≠ _; rw [add_block]; exact hn128_0) | exact hn128_0) (.slice Ao72 y125.length co72)).trans hx128_1
                    replace hx128_2 := (cell_far (p := ⟨gb117, 4, none⟩) (by first | (rw [add_block]; exact hn128_0) | (show (Addr.add _ _).block ≠ _; rw [add_block]; exact hn128_0) | exact hn128_0) (.slice Ao72 y125.length co72)).trans hx128_2
                    replace hx128_3 := (cell_far (p := ⟨gb117, 4, none⟩) (by first | (rw [add_block]; exact hn128_0) | (show (Addr.add _ _).block ≠ _; rw [add_block]; exact hn128_0) | exact hn128_0) (.slice Ao72 y125.length co72)).trans hx128_3
                    clear hn128_0
                    replace p128 := eq_true p128
                    replace q128 := eq_true q128
                    try go_wp2_with (first | ((with_reducible refine gate_builtin (b := .append) (xs := #[.tmp 87, .tmp 93]) rfl ?_); (try (refine gate_guard (by rfl) ?_; dsimp only)); at_builtin; refine Kd.R_append Kd.string (w0 := w) w.heap.size rfl (.tmp 87) (.tmp 93) 56 9 (.string ⟨#[]⟩) 16 rfl Tryd.underlying56 info9 rfl (by decide) (by omega) u8 x8_3 ((rd_T46 l0 t120).f2) [.string ((rd_T46 l0 t120).f2)] (fun _ => True) (fun _ => False) rfl (by first | (go_simp; done) | (go_simp; rfl)) ?aP (fun _ hk => hk.elim) ?aF ?aO ?aB ?aS ?aL ?_; (case aP => exact rfl); (case aB => exact (bws HB.out)); (case aF => exact (fun _ _ => trivial)); (case aO => exact (by (with_reducible repeat (first | apply Kd.R_alloc | apply Kd.R_drewN | apply Kd.R_drew)); exact Kd.R_mono (Kd.R_far (p := ⟨gb117, 4, none⟩) (Kd.R_types HO_8.out BK117.out (by decide)) (fun _ hk => hk.2) (.slice Ao72 y125.length co72)) (fun _ hk => trivial))); (case aS => exact (below_size (bws HB.out))); (case aL => have := LMc30.out; omega); intro v130 w74 ho hb hg hat; rw [← Ny129.out] at ho; have n0_ := Aside0.mk (blk_grown (g := gb113) (o := .cells #[.int .i64 x114000_3, .bool x114001_3, .int .i64 x114002_3, .string x114003_3, .slice none 0 0] 26 (0, 0)) (bkf BK113.out) hg (Kd.R_ne HO_8.out BK113.out (by decide))); have n1_ := Aside0.mk (blk_grown (g := gb117) (o := .cells #[.int .i64 0, .bool false, .int .i64 (wrap64 (x118002_3 + ((rd_T46 l0 t120).f1))), .string (⟨#[]⟩ : ByteArray), .slice Ao72 y125.length co72] 26 (0, 0)) (bkp BK117.out) hg (Kd.R_ne HO_8.out BK117.out (by decide))); have n2_ := Aside0.mk (blk_grown (g := gb119) (o := .cells #[.int .i64 ((rd_T61 l1 x44_3).f0), .string ((rd_T61 l1 x44_3).f1)] 61 (0, 0)) (bkf BK119.out) hg (Kd.R_ne HO_8.out BK119.out (by decide))); have n3_ := Aside0.mk (Kd.R_over' (by (with_reducible repeat (first | apply Kd.R_alloc | apply Kd.R_drewN | apply Kd.R_drew)); exact (Kd.R_mono (Kd.R_far (p := ⟨gb117, 4, none⟩) (Kd.R_types HO127.out BK117.out (by decide)) (fun _ hk => hk.2) (.slice Ao72 y125.length co72)) (fun _ h_ => h_.1))) (Kd.R_typed (by (with_reducible repeat (first | apply Kd.R_alloc | apply Kd.R_drewN | apply Kd.R_drew)); exact (Kd.R_mono (Kd.R_far (p := ⟨gb117, 4, none⟩) (Kd.R_types HO_8.out BK117.out (by decide)) (fun _ hk => hk.2) (.slice Ao72 y125.length co72)) (fun _ h_ => h_.1)))) (by decide) hg); have n4_ := Aside0.mk (hb); have n5_ := Aside0.mk (ho); clear BK113; clear BK117; clear BK119; clear HO127; clear HB; clear HO_8; have BK113 := n0_; have BK117 := n1_; have BK119 := n2_; have HO127 := n3_; have HB := n4_; have HO131 := n5_; clear n0_ n1_ n2_ n3_ n4_ n5_; clear ho hb hg hat))
                    go_roundg k3
                    case measure => have := HJ2.out; have := HK2.out; have := HK3.out; omega
                    case rel => exact ⟨(y129), (false), (wrap64 (x44_3 + 1)), (x114000_3), (x114001_3), (x114002_3), (x114003_3), (wrap64 (x118002_3 + ((rd_T46 l0 t120).f1))), (y125), (.slice Ao72 y125.length co72), (by first | rfl | (simp; done) | (simp [*]; done)), (by first | rfl | (simp; done) | (simp [*]; done)), H', ⟨by have := HJ2.out; have := HK2.out; have := HK3.out; omega⟩, ⟨kR HO131.out⟩, ⟨kR HO127.out⟩, ⟨bk BK113.out⟩, ⟨bk BK117.out⟩, ⟨bws HB.out⟩⟩
                 ·
                  rw [if_neg c30] at H
                  exact absurd H (by simp)
                ·
                 rw [if_neg c29] at H
                 exact absurd H (by simp)
               ·
                rw [if_neg c28] at H
                have c28b0 : (((rd_T46 l0 t120).f2).toList == ((rd_T61 l1 x44_3).f1).toList) = false := beq_eq_false_iff_ne.mpr c28
                have c28b1 : (((rd_T46 l0 t120).f2).toList != ((rd_T61 l1 x44_3).f1).toList) = true := bne_iff_ne.mpr c28
                simp only [Option.some.injEq, Prod.mk.injEq] at H
                obtain ⟨rfl, rfl, rfl, rfl, rfl, rfl⟩ := H
                have p118 : 0 ≤ (x44_3 : Int) := of_decide_eq_true asm
                have q118 : x44_3 < (l1.length : Int) := of_decide_eq_true asm
                obtain ⟨ad118, e118, hx118_0, hx118_1⟩ := at_T61 HR1.out x44_3 p118 q118
                cases e118
                replace hx118_0 := bc HB.out hx118_0
                replace hx118_1 := bc HB.out hx118_1
                replace p118 := eq_true p118
                replace q118 := eq_true q118
                try go_wp2_with (first | ((with_reducible refine gate_dst (N := 11) rfl ?_); (try (refine gate_guard (by rfl) ?_; dsimp only)); refine box_event ?hg (N := 11) ?hd (cs := #[.int .i64 0, .string (⟨#[]⟩ : ByteArray)]) (t := 61) ?hr ?_; (case hd => rfl); (case hg => rfl); (case hr => first | (go_simp; done) | (go_simp; rfl)); intro gb119 hg w75 hbox hb; have n0_ := Aside0.mk (Kd.R_below (kR HO_8.out) hb); have n1_ := Aside0.mk (Kd.R_below (kR HO_118004.out) hb); have n2_ := Aside0.mk (blk_below (g := gb113) (o := .cells #[.int .i64 x114000_3, .bool x114001_3, .int .i64 x114002_3, .string x114003_3, .slice none 0 0] 26 (0, 0)) (bk BK113.out) hb); have n3_ := Aside0.mk (blk_below (g := gb117) (o := .cells #[.int .i64 0, .bool false, .int .i64 x118002_3, .string (⟨#[]⟩ : ByteArray), u118004] 26 (0, 0)) (bk BK117.out) hb); have n4_ := Aside0.mk (below_step (bws HB.out) hb); have n5_ := Aside0.mk (hbox); have n6_ := Aside0.mk ((by rw [hg]; exact (below_size (bws HB.out)) : w.heap.size ≤ gb119)); have n7_ := Aside0.mk ((by rw [hg]; exact (below_size (bws HB.out)) : w.heap.size ≤ gb119)); have n8_ := Aside0.mk ((by rw [hg]; exact Nat.ne_of_lt (blk_lt (g := gb113) (o := .cells #[.int .i64 x114000_3, .bool x114001_3, .int .i64 x114002_3, .string x114003_3, .slice none 0 0] 26 (0, 0)) (bk BK113.out)) : gb113 ≠ gb119)); have n9_ := Aside0.mk ((by rw [hg]; exact Nat.ne_of_gt (blk_lt (g := gb113) (o := .cells #[.int .i64 x114000_3, .bool x114001_3, .int .i64 x114002_3, .string x114003_3, .slice none 0 0] 26 (0, 0)) (bk BK113.out)) : gb119 ≠ gb113)); have n10_ := Aside0.mk ((by rw [hg]; exact Nat.ne_of_lt (blk_lt (g := gb117) (o := .cells #[.int .i64 0, .bool false, .int .i64 x118002_3, .string (⟨#[]⟩ : ByteArray), u118004] 26 (0, 0)) (bk BK117.out)) : gb117 ≠ gb119)); have n11_ := Aside0.mk ((by rw [hg]; exact Nat.ne_of_gt (blk_lt (g := gb117) (o := .cells #[.int .i64 0, .bool false, .int .i64 x118002_3, .string (⟨#[]⟩ : ByteArray), u118004] 26 (0, 0)) (bk BK117.out)) : gb119 ≠ gb117)); clear HO_8; clear HO_118004; clear BK113; clear BK117; clear HB; have HO_8 := n0_; have HO_118004 := n1_; have BK113 := n2_; have BK117 := n3_; have HB := n4_; have BK119 := n5_; have GW119 := n6_; have GE119 := n7_; have NB113_119 := n8_; have NB119_113 := n9_; have NB117_119 := n10_; have NB119_117 := n11_; clear n0_ n1_ n2_ n3_ n4_ n5_ n6_ n7_ n8_ n9_ n10_ n11_; clear hb hbox hg; have hnb76 := NB119_113.out; have hnc76 := NB113_119.out; have hnb77 := NB119_117.out; have hnc77 := NB117_119.out; obtain ⟨hcz78_0, hcz78_1, hfz78_0, hfz78_1⟩ := cz2 BK119.out) | ((with_reducible refine gate_callee (f := 30) rfl ?_); refine goesL_ (some 53) rfl rfl Tryd.func30 (by kernel_rfl) rfl #[.slice A0 l0.length c0, .int .i64 ((rd_T61 l1 x44_3).f0)] rfl gl ?_; (with_reducible refine (parts_find.calls _ _ l0 ((rd_T61 l1 x44_3).f0) t120 true _ ?side1 ?side2 A24.out).mono ?_); (case side1 => exact Kd.C_below HR0.out (bws HB.out)); (case side2 => exact HC0.out); rintro e w79 ⟨rfl, hb⟩; refine ⟨_, rfl, ?_⟩; replace HO_8 := Aside0.mk (Kd.R_below (by (with_reducible repeat (first | apply Kd.R_alloc | apply Kd.R_drewN | apply Kd.R_drew)); exact (Kd.R_mono (Kd.R_far (p := ⟨gb119, 1, none⟩) (Kd.R_far (p := ⟨gb119, 0, none⟩) (Kd.R_types HO_8.out BK119.out (by decide)) (fun _ hk => hk.2) (.int .i64 ((rd_T61 l1 x44_3).f0))) (fun _ hk => hk.2) (.string ((rd_T61 l1 x44_3).f1))) (fun _ h_ => h_.1))) hb); replace HO_118004 := Aside0.mk (Kd.R_below (by (with_reducible repeat (first | apply Kd.R_alloc | apply Kd.R_drewN | apply Kd.R_drew)); exact (Kd.R_mono (Kd.R_far (p := ⟨gb119, 1, none⟩) (Kd.R_far (p := ⟨gb119, 0, none⟩) (Kd.R_types HO_118004.out BK119.out (by decide)) (fun _ hk => hk.2) (.int .i64 ((rd_T61 l1 x44_3).f0))) (fun _ hk => hk.2) (.string ((rd_T61 l1 x44_3).f1))) (fun _ h_ => h_.1))) hb); replace BK113 := Aside0.mk (blk_below (g := gb113) (o := .cells #[.int .i64 x114000_3, .bool x114001_3, .int .i64 x114002_3, .string x114003_3, .slice none 0 0] 26 (0, 0)) (bkf BK113.out) hb); replace BK117 := Aside0.mk (blk_below (g := gb117) (o := .cells #[.int .i64 0, .bool false, .int .i64 x118002_3, .string (⟨#[]⟩ : ByteArray), u118004] 26 (0, 0)) (bkf BK117.out) hb); replace BK119 := Aside0.mk (blk_below (g := gb119) (o := .cells #[.int .i64 ((rd_T61 l1 x44_3).f0), .string ((rd_T61 l1 x44_3).f1)] 61 (0, 0)) (bkp BK119.out) hb); replace HB := Aside0.mk (below_step (bws HB.out) hb); (try clear hb); (try clear hb2); (try clear hk); (try clear hi)))
                replace HO_8 := Aside0.mk (Kd.R_drew HO_8.out)
                replace HO_118004 := Aside0.mk (Kd.R_drew HO_118004.out)
                replace BK113 := Aside0.mk (blk_drew BK113.out)
                replace BK117 := Aside0.mk (blk_drew BK117.out)
                replace BK119 := Aside0.mk (blk_drew BK119.out)
                replace HB := Aside0.mk (below_drew1 HB.out)
                have p122 : 0 ≤ (t120 : Int) := of_decide_eq_true asm
                have q122 : t120 < (l0.length : Int) := of_decide_eq_true asm
                obtain ⟨ad122, A122_3, c122_3, e122, hx122_0, hx122_1, hx122_2, hx122_3, hl122_3, hi122_3⟩ := at_T46 HR0.out t120 p122 q122
                have hw122_3 := hx122_3
                have hw122_2 := hx122_2
                have hw122_1 := hx122_1
                have hw122_0 := hx122_0
                cases e122
                replace hx122_0 := bc HB.out hx122_0
                replace hx122_1 := bc HB.out hx122_1
                replace hx122_2 := bc HB.out hx122_2
                replace hx122_3 := bc HB.out hx122_3
                have HR122_3 := Aside0.mk hi122_3
                have HC122_3 := Aside0.mk hl122_3
                clear hi122_3 hl122_3
                replace p122 := eq_true p122
                replace q122 := eq_true q122
                refine start_ (n := 12) (S := fun w' => w'.cell? ⟨gb119, 0, none⟩ = some (.int .i64 ((rd_T61 l1 x44_3).f0)) ∧ w'.cell? ⟨gb119, 1, none⟩ = some (.string ((rd_T61 l1 x44_3).f1)) ∧ w'.cell? (ad122.add ((t120).toNat * 4)) = some (.int .i64 ((rd_T46 l0 t120).f0)) ∧ w'.cell? ⟨(ad122.add ((t120).toNat * 4)).block, (ad122.add ((t120).toNat * 4)).off + 1, none⟩ = some (.int .i64 ((rd_T46 l0 t120).f1)) ∧ w'.cell? ⟨(ad122.add ((t120).toNat * 4)).block, (ad122.add ((t120).toNat * 4)).off + 2, none⟩ = some (.string ((rd_T46 l0 t120).f2)) ∧ w'.cell? ⟨(ad122.add ((t120).toNat * 4)).block, (ad122.add ((t120).toNat * 4)).off + 3, none⟩ = some (.slice A122_3 ((rd_T46 l0 t120).f3).length c122_3)) (ds := []) #[false, false, false, false, false, false, false, false, false, false, false, false] (by kernel_rfl) rfl rfl ⟨(blk_cell BK119.out 0).trans rfl, (blk_cell BK119.out 1).trans rfl, (bc HB.out hw122_0), (bc HB.out hw122_1), (bc HB.out hw122_2), (bc HB.out hw122_3)⟩ (fun hHeld => ?_); refine with_tabW parts_Join.tab15 parts_Join.bits15 (fun HT_ HW_ => ?_)
                generalize w79.drew = w80 at HO_8 HO_118004 BK113 BK117 BK119 HB HR122_3 hx122_0 hx122_1 hx122_2 hx122_3 hHeld ⊢
                refine pu 0 (some 56) HT_.out ?_
                refine pu 1 (some 57) HT_.out ?_
                refine pu 2 (some 58) HT_.out ?_
                refine pu 3 (some 59) HT_.out ?_
                refine pu 4 (some 60) HT_.out ?_
                refine pu 5 (some 61) HT_.out ?_
                refine pu 6 (some 62) HT_.out ?_
                refine pu 8 (some 64) HT_.out ?_
                refine tk 7 (some 63) HT_.out HW_.out hHeld ?_
                refine tk 9 (some 65) HT_.out HW_.out hHeld ?_
                refine pu 10 (some 66) HT_.out ?_
                refine pu 11 (some 67) HT_.out ?_
                refine done_ (done_of HT_.out (by kernel_rfl)) ?_
                have hnb81 := NB113_117.out
                have hnc81 := NB117_113.out
                obtain ⟨hcz82_0, hcz82_1, hcz82_2, hcz82_3, hcz82_4, hfz82_0, hfz82_1, hfz82_2, hfz82_3, hfz82_4⟩ := cz5 BK113.out
                try go_wp2
                refine bodyPost_ret (results_ct rfl _ _ gb113 26 #[.int .i64 0, .bool false, .int .i64 0, .string (⟨#[]⟩ : ByteArray), .slice none 0 0] (0, 0) _ rfl (bkp BK113.out) Tryd.underlying26 rfl (by kernel_rfl)) rfl ?_
                exact ⟨_, by first | rfl | (simp [errW_none, errW_some] <;> rfl) | (simp [*, errW_none, errW_some] <;> rfl), by first | exact Kd.R_nil _ _ _ _ _ | exact Kd.N_nil _ _ _ _ _ | exact Kd.V_nil _ _ _ _ _ | exact Kd.Q_nil _ _ _ _ _ | exact Kd.S_nil _ _ _ _ _, by repeat (first | (with_reducible first | exact HB.out | apply below_alloc | apply pw_below_drewN | apply below_drew1 | refine below_set ?_ GE113.out | refine below_set ?_ GE117.out | refine below_set ?_ GE119.out) | exact HB.out)⟩
              ·
               rw [if_neg c27] at H
               exact absurd H (by simp)
             ·
              rw [if_neg c26] at H
              exact absurd H (by simp)
            ·
             replace c25 := Bool.eq_false_iff.mpr c25
             subst c25
             have H1 : (some (0, false, 0, (⟨#[]⟩ : ByteArray), ([] : List (S63)), 140)) = some (r1, r2, r3, r4, r5, r6) := by rw [if_neg (show ¬ (false = true) by decide)] at H; exact H
             clear H
             have H := H1
             clear H1
             simp only [Option.some.injEq, Prod.mk.injEq] at H
             obtain ⟨rfl, rfl, rfl, rfl, rfl, rfl⟩ := H
             have p118 : 0 ≤ (x44_3 : Int) := of_decide_eq_true asm
             have q118 : x44_3 < (l1.length : Int) := of_decide_eq_true asm
             obtain ⟨ad118, e118, hx118_0, hx118_1⟩ := at_T61 HR1.out x44_3 p118 q118
             cases e118
             replace hx118_0 := bc HB.out hx118_0
             replace hx118_1 := bc HB.out hx118_1
             replace p118 := eq_true p118
             replace q118 := eq_true q118
             try go_wp2_with (first | ((with_reducible refine gate_dst (N := 11) rfl ?_); (try (refine gate_guard (by rfl) ?_; dsimp only)); refine box_event ?hg (N := 11) ?hd (cs := #[.int .i64 0, .string (⟨#[]⟩ : ByteArray)]) (t := 61) ?hr ?_; (case hd => rfl); (case hg => rfl); (case hr => first | (go_simp; done) | (go_simp; rfl)); intro gb119 hg w83 hbox hb; have n0_ := Aside0.mk (Kd.R_below (kR HO_8.out) hb); have n1_ := Aside0.mk (Kd.R_below (kR HO_118004.out) hb); have n2_ := Aside0.mk (blk_below (g := gb113) (o := .cells #[.int .i64 x114000_3, .bool x114001_3, .int .i64 x114002_3, .string x114003_3, .slice none 0 0] 26 (0, 0)) (bk BK113.out) hb); have n3_ := Aside0.mk (blk_below (g := gb117) (o := .cells #[.int .i64 0, .bool false, .int .i64 x118002_3, .string (⟨#[]⟩ : ByteArray), u118004] 26 (0, 0)) (bk BK117.out) hb); have n4_ := Aside0.mk (below_step (bws HB.out) hb); have n5_ := Aside0.mk (hbox); have n6_ := Aside0.mk ((by rw [hg]; exact (below_size (bws HB.out)) : w.heap.size ≤ gb119)); have n7_ := Aside0.mk ((by rw [hg]; exact (below_size (bws HB.out)) : w.heap.size ≤ gb119)); have n8_ := Aside0.mk ((by rw [hg]; exact Nat.ne_of_lt (blk_lt (g := gb113) (o := .cells #[.int .i64 x114000_3, .bool x114001_3, .int .i64 x114002_3, .string x114003_3, .slice none 0 0] 26 (0, 0)) (bk BK113.out)) : gb113 ≠ gb119)); have n9_ := Aside0.mk ((by rw [hg]; exact Nat.ne_of_gt (blk_lt (g := gb113) (o := .cells #[.int .i64 x114000_3, .bool x114001_3, .int .i64 x114002_3, .string x114003_3, .slice none 0 0] 26 (0, 0)) (bk BK113.out)) : gb119 ≠ gb113)); have n10_ := Aside0.mk ((by rw [hg]; exact Nat.ne_of_lt (blk_lt (g := gb117) (o := .cells #[.int .i64 0, .bool false, .int .i64 x118002_3, .string (⟨#[]⟩ : ByteArray), u118004] 26 (0, 0)) (bk BK117.out)) : gb117 ≠ gb119)); have n11_ := Aside0.mk ((by rw [hg]; exact Nat.ne_of_gt (blk_lt (g := gb117) (o := .cells #[.int .i64 0, .bool false, .int .i64 x118002_3, .string (⟨#[]⟩ : ByteArray), u118004] 26 (0, 0)) (bk BK117.out)) : gb119 ≠ gb117)); clear HO_8; clear HO_118004; clear BK113; clear BK117; clear HB; have HO_8 := n0_; have HO_118004 := n1_; have BK113 := n2_; have BK117 := n3_; have HB := n4_; have BK119 := n5_; have GW119 := n6_; have GE119 := n7_; have NB113_119 := n8_; have NB119_113 := n9_; have NB117_119 := n10_; have NB119_117 := n11_; clear n0_ n1_ n2_ n3_ n4_ n5_ n6_ n7_ n8_ n9_ n10_ n11_; clear hb hbox hg; have hnb84 := NB119_113.out; have hnc84 := NB113_119.out; have hnb85 := NB119_117.out; have hnc85 := NB117_119.out; obtain ⟨hcz86_0, hcz86_1, hfz86_0, hfz86_1⟩ := cz2 BK119.out) | ((with_reducible refine gate_callee (f := 30) rfl ?_); refine goesL_ (some 53) rfl rfl Tryd.func30 (by kernel_rfl) rfl #[.slice A0 l0.length c0, .int .i64 ((rd_T61 l1 x44_3).f0)] rfl gl ?_; (with_reducible refine (parts_find.calls _ _ l0 ((rd_T61 l1 x44_3).f0) t120 false _ ?side1 ?side2 A24.out).mono ?_); (case side1 => exact Kd.C_below HR0.out (bws HB.out)); (case side2 => exact HC0.out); rintro e w87 ⟨rfl, hb⟩; refine ⟨_, rfl, ?_⟩; replace HO_8 := Aside0.mk (Kd.R_below (by (with_reducible repeat (first | apply Kd.R_alloc | apply Kd.R_drewN | apply Kd.R_drew)); exact (Kd.R_mono (Kd.R_far (p := ⟨gb119, 1, none⟩) (Kd.R_far (p := ⟨gb119, 0, none⟩) (Kd.R_types HO_8.out BK119.out (by decide)) (fun _ hk => hk.2) (.int .i64 ((rd_T61 l1 x44_3).f0))) (fun _ hk => hk.2) (.string ((rd_T61 l1 x44_3).f1))) (fun _ h_ => h_.1))) hb); replace HO_118004 := Aside0.mk (Kd.R_below (by (with_reducible repeat (first | apply Kd.R_alloc | apply Kd.R_drewN | apply Kd.R_drew)); exact (Kd.R_mono (Kd.R_far (p := ⟨gb119, 1, none⟩) (Kd.R_far (p := ⟨gb119, 0, none⟩) (Kd.R_types HO_118004.out BK119.out (by decide)) (fun _ hk => hk.2) (.int .i64 ((rd_T61 l1 x44_3).f0))) (fun _ hk => hk.2) (.string ((rd_T61 l1 x44_3).f1))) (fun _ h_ => h_.1))) hb); replace BK113 := Aside0.mk (blk_below (g := gb113) (o := .cells #[.int .i64 x114000_3, .bool x114001_3, .int .i64 x114002_3, .string x114003_3, .slice none 0 0] 26 (0, 0)) (bkf BK113.out) hb); replace BK117 := Aside0.mk (blk_below (g := gb117) (o := .cells #[.int .i64 0, .bool false, .int .i64 x118002_3, .string (⟨#[]⟩ : ByteArray), u118004] 26 (0, 0)) (bkf BK117.out) hb); replace BK119 := Aside0.mk (blk_below (g := gb119) (o := .cells #[.int .i64 ((rd_T61 l1 x44_3).f0), .string ((rd_T61 l1 x44_3).f1)] 61 (0, 0)) (bkp BK119.out) hb); replace HB := Aside0.mk (below_step (bws HB.out) hb); (try clear hb); (try clear hb2); (try clear hk); (try clear hi)))
             replace HO_8 := Aside0.mk (Kd.R_drew HO_8.out)
             replace HO_118004 := Aside0.mk (Kd.R_drew HO_118004.out)
             replace BK113 := Aside0.mk (blk_drew BK113.out)
             replace BK117 := Aside0.mk (blk_drew BK117.out)
             replace BK119 := Aside0.mk (blk_drew BK119.out)
             replace HB := Aside0.mk (below_drew1 HB.out)
             refine start_ (n := 12) (S := fun w' => True) (ds := []) #[false, false, false, false, false, false, false, false, false, false, false, false] (by kernel_rfl) rfl rfl trivial (fun hHeld => ?_); refine with_tabW parts_Join.tab15 parts_Join.bits15 (fun HT_ HW_ => ?_)
             generalize w87.drew = w88 at HO_8 HO_118004 BK113 BK117 BK119 HB hHeld ⊢
             refine pu 0 (some 56) HT_.out ?_
             refine pu 1 (some 57) HT_.out ?_
             refine pu 2 (some 58) HT_.out ?_
             refine un 3 (some 59) HT_.out ?_
             refine un 4 (some 60) HT_.out ?_
             refine un 5 (some 61) HT_.out ?_
             refine un 6 (some 62) HT_.out ?_
             refine un 7 (some 63) HT_.out ?_
             refine un 8 (some 64) HT_.out ?_
             refine un 9 (some 65) HT_.out ?_
             refine un 10 (some 66) HT_.out ?_
             refine pu 11 (some 67) HT_.out ?_
             refine done_ (done_of HT_.out (by kernel_rfl)) ?_
             have hnb89 := NB113_117.out
             have hnc89 := NB117_113.out
             obtain ⟨hcz90_0, hcz90_1, hcz90_2, hcz90_3, hcz90_4, hfz90_0, hfz90_1, hfz90_2, hfz90_3, hfz90_4⟩ := cz5 BK113.out
             try go_wp2
             refine bodyPost_ret (results_ct rfl _ _ gb113 26 #[.int .i64 0, .bool false, .int .i64 0, .string (⟨#[]⟩ : ByteArray), .slice none 0 0] (0, 0) _ rfl (bkp BK113.out) Tryd.underlying26 rfl (by kernel_rfl)) rfl ?_
             exact ⟨_, by first | rfl | (simp [errW_none, errW_some] <;> rfl) | (simp [*, errW_none, errW_some] <;> rfl), by first | exact Kd.R_nil _ _ _ _ _ | exact Kd.N_nil _ _ _ _ _ | exact Kd.V_nil _ _ _ _ _ | exact Kd.Q_nil _ _ _ _ _ | exact Kd.S_nil _ _ _ _ _, by repeat (first | (with_reducible first | exact HB.out | apply below_alloc | apply pw_below_drewN | apply below_drew1 | refine below_set ?_ GE113.out | refine below_set ?_ GE117.out | refine below_set ?_ GE119.out) | exact HB.out)⟩
           ·
            rw [if_neg c23] at H
            exact absurd H (by simp)
          ·
           rw [if_neg c22] at H
           exact absurd H (by simp)
         ·
          rw [if_neg c21] at H
          have c21b0 : decide (x44_3 < (l1.length : Int)) = false := decide_eq_false c21
          clear c21
          by_cases c91 : x9_3 = true
          ·
           subst c91
           have H1 : (some (0, false, 0, (⟨#[]⟩ : ByteArray), ([] : List (S63)), 141)) = some (r1, r2, r3, r4, r5, r6) := by rw [if_pos rfl] at H; exact H
           clear H
           have H := H1
           clear H1
           simp only [Option.some.injEq, Prod.mk.injEq] at H
           obtain ⟨rfl, rfl, rfl, rfl, rfl, rfl⟩ := H
           have hnb92 := NB113_117.out
           have hnc92 := NB117_113.out
           obtain ⟨hcz93_0, hcz93_1, hcz93_2, hcz93_3, hcz93_4, hfz93_0, hfz93_1, hfz93_2, hfz93_3, hfz93_4⟩ := cz5 BK113.out
           go_wp2
           refine bodyPost_ret (results_ct rfl _ _ gb113 26 #[.int .i64 0, .bool false, .int .i64 0, .string (⟨#[]⟩ : ByteArray), .slice none 0 0] (0, 0) _ rfl (bkp BK113.out) Tryd.underlying26 rfl (by kernel_rfl)) rfl ?_
           exact ⟨_, by first | rfl | (simp [errW_none, errW_some] <;> rfl) | (simp [*, errW_none, errW_some] <;> rfl), by first | exact Kd.R_nil _ _ _ _ _ | exact Kd.N_nil _ _ _ _ _ | exact Kd.V_nil _ _ _ _ _ | exact Kd.Q_nil _ _ _ _ _ | exact Kd.S_nil _ _ _ _ _, by repeat (first | (with_reducible first | exact HB.out | apply below_alloc | apply pw_below_drewN | apply below_drew1 | refine below_set ?_ GE113.out | refine below_set ?_ GE117.out) | exact HB.out)⟩
          ·
           replace c91 := Bool.eq_false_iff.mpr c91
           subst c91
           have H1 : (if x118002_3 > 1048576 then (parts_Join.j3 k3 x8_3 true 0 false x118002_3 (⟨#[]⟩ : ByteArray) x118004_3) else (parts_Join.j3 k3 x8_3 (decide ((x118004_3.length : Int) > 512)) 0 false x118002_3 (⟨#[]⟩ : ByteArray) x118004_3)) = some (r1, r2, r3, r4, r5, r6) := by rw [if_neg (show ¬ (false = true) by decide)] at H; exact H
           clear H
           have H := H1
           clear H1
           have HC94 := Aside0.mk H
           clear H
           go_upto_region 24 with (fail)
           go_cut [122] (fun v122 wc => ∃ (kq : Nat) (x122_93 : Bool), v122 = .bool x122_93 ∧ Aside0 (parts_Join.j3 kq x8_3 x122_93 0 false x118002_3 (⟨#[]⟩ : ByteArray) x118004_3 = some (r1, r2, r3, r4, r5, r6)) ∧ Aside0 (kq ≤ k3) ∧ Aside0 (Kd.R Kd.string 9 wc w.heap.size (fun _ => True) u8 x8_3) ∧ Aside0 (Kd.R k63 63 wc w.heap.size (fun _ => True) u118004 x118004_3) ∧ Aside0 (wc.heap[gb113]? = some (.cells #[.int .i64 x114000_3, .bool x114001_3, .int .i64 x114002_3, .string x114003_3, (.slice none 0 0)] 26 (0, 0))) ∧ Aside0 (wc.heap[gb117]? = some (.cells #[.int .i64 0, .bool false, .int .i64 x118002_3, .string (⟨#[]⟩ : ByteArray), u118004] 26 (0, 0))) ∧ Aside0 (Below w.heap.size w wc))
           case first =>
            have H := HC94.out
            clear HC94
            by_cases c95 : x118002_3 > 1048576
            ·
             rw [if_pos c95] at H
             have c95b0 : decide (1048576 < x118002_3) = true := decide_eq_true c95
             clear c95
             (first | rw [c95b0] | (simp only [i64_w, i32_w]; rw [c95b0]) | skip)
             have H' := Aside0.mk H
             clear H
             have hnb96 := NB117_113.out
             have hnc96 := NB113_117.out
             obtain ⟨hcz97_0, hcz97_1, hcz97_2, hcz97_3, hcz97_4, hfz97_0, hfz97_1, hfz97_2, hfz97_3, hfz97_4⟩ := cz5 BK117.out
             go_wp2
             go_meet
             case rel => exact ⟨_, (true), (by first | rfl | (simp; done) | (simp [*]; done)), H', ⟨by have := HJ2.out; have := HK2.out; have := HK3.out; first | omega | exact Nat.le_refl _⟩, ⟨kR HO_8.out⟩, ⟨kR HO_118004.out⟩, ⟨bk BK113.out⟩, ⟨bk BK117.out⟩, ⟨bws HB.out⟩⟩
            ·
             rw [if_neg c95] at H
             have c95b0 : decide (1048576 < x118002_3) = false := decide_eq_false c95
             clear c95
             (first | rw [c95b0] | (simp only [i64_w, i32_w]; rw [c95b0]) | skip)
             have H' := Aside0.mk H
             clear H
             have hnb98 := NB117_113.out
             have hnc98 := NB113_117.out
             obtain ⟨hcz99_0, hcz99_1, hcz99_2, hcz99_3, hcz99_4, hfz99_0, hfz99_1, hfz99_2, hfz99_3, hfz99_4⟩ := cz5 BK117.out
             obtain ⟨Ao100, co100, eo100⟩ := Kd.R_slice HO_118004.out
             subst eo100
             go_wp2
             go_meet
             case rel => exact ⟨_, (decide ((x118004_3.length : Int) > 512)), (by first | rfl | (simp; done) | (simp [*]; done)), H', ⟨by have := HJ2.out; have := HK2.out; have := HK3.out; first | omega | exact Nat.le_refl _⟩, ⟨kR HO_8.out⟩, ⟨kR HO_118004.out⟩, ⟨bk BK113.out⟩, ⟨bk BK117.out⟩, ⟨bws HB.out⟩⟩
           case rest =>
            clear HC94
            try clear c1
            try clear p1
            try clear q1
            try clear hx1
            try clear c2
            try clear p2
            try clear c3
            try clear p6
            try clear c7
            try clear c8
            try clear c9
            try clear p11
            try clear q11
            try clear hx11
            try clear c12
            try clear p12
            try clear q12
            try clear hx12
            try clear c21
            try clear c21b0
            try clear c22
            try clear c23
            try clear c25
            try clear c26
            try clear c27
            try clear c28
            try clear c28b0
            try clear c28b1
            try clear c29
            try clear c30
            try clear p64
            try clear c76
            try clear c77
            try clear c81
            try clear c84
            try clear c85
            try clear c89
            try clear c91
            try clear c92
            try clear c95
            try clear c95b0
            try clear c96
            try clear c98
            try clear hcz78_0
            try clear hcz78_1
            try clear hcz82_0
            try clear hcz82_1
            try clear hcz82_2
            try clear hcz82_3
            try clear hcz82_4
            try clear hcz86_0
            try clear hcz86_1
            try clear hcz90_0
            try clear hcz90_1
            try clear hcz90_2
            try clear hcz90_3
            try clear hcz90_4
            try clear hcz93_0
            try clear hcz93_1
            try clear hcz93_2
            try clear hcz93_3
            try clear hcz93_4
            try clear hcz97_0
            try clear hcz97_1
            try clear hcz97_2
            try clear hcz97_3
            try clear hcz97_4
            try clear hcz99_0
            try clear hcz99_1
            try clear hcz99_2
            try clear hcz99_3
            try clear hcz99_4
            try clear hfz78_0
            try clear hfz78_1
            try clear hfz82_0
            try clear hfz82_1
            try clear hfz82_2
            try clear hfz82_3
            try clear hfz82_4
            try clear hfz86_0
            try clear hfz86_1
            try clear hfz90_0
            try clear hfz90_1
            try clear hfz90_2
            try clear hfz90_3
            try clear hfz90_4
            try clear hfz93_0
            try clear hfz93_1
            try clear hfz93_2
            try clear hfz93_3
            try clear hfz93_4
            try clear hfz97_0
            try clear hfz97_1
            try clear hfz97_2
            try clear hfz97_3
            try clear hfz97_4
            try clear hfz99_0
            try clear hfz99_1
            try clear hfz99_2
            try clear hfz99_3
            try clear hfz99_4
            try clear hx118_0
            try clear hx118_1
            try clear hx122_0
            try clear hx122_1
            try clear hx122_2
            try clear hx122_3
            try clear hx124_0
            try clear hx124_1
            try clear hx124_2
            try clear hx124_3
            try clear hx128_0
            try clear hx128_1
            try clear hx128_2
            try clear hx128_3
            try clear p118
            try clear p122
            try clear p124
            try clear p128
            try clear q118
            try clear q122
            try clear q124
            try clear q128
            obtain ⟨kq, x122_93, rfl, HA, HJ93, HO_8, HO_118004, BK113, BK117, HB⟩ := hcut
            cases kq with
            | zero => exact absurd HA.out (by simp [parts_Join.j3])
            | succ kj93 =>
             have H := HA.out
             clear HA
             simp only [parts_Join.j3] at H
             by_cases c101 : x122_93 = true
             ·
              subst c101
              have H1 : (some (0, false, 0, (⟨#[]⟩ : ByteArray), ([] : List (S63)), 2)) = some (r1, r2, r3, r4, r5, r6) := by rw [if_pos rfl] at H; exact H
              clear H
              have H := H1
              clear H1
              simp only [Option.some.injEq, Prod.mk.injEq] at H
              obtain ⟨rfl, rfl, rfl, rfl, rfl, rfl⟩ := H
              have hnb102 := NB113_117.out
              have hnc102 := NB117_113.out
              obtain ⟨hcz103_0, hcz103_1, hcz103_2, hcz103_3, hcz103_4, hfz103_0, hfz103_1, hfz103_2, hfz103_3, hfz103_4⟩ := cz5 BK113.out
              go_wp2
              refine bodyPost_ret (results_ct rfl _ _ gb113 26 #[.int .i64 0, .bool false, .int .i64 0, .string (⟨#[]⟩ : ByteArray), .slice none 0 0] (0, 0) _ rfl (bkp BK113.out) Tryd.underlying26 rfl (by kernel_rfl)) rfl ?_
              exact ⟨_, by first | rfl | (simp [errW_none, errW_some] <;> rfl) | (simp [*, errW_none, errW_some] <;> rfl), by first | exact Kd.R_nil _ _ _ _ _ | exact Kd.N_nil _ _ _ _ _ | exact Kd.V_nil _ _ _ _ _ | exact Kd.Q_nil _ _ _ _ _ | exact Kd.S_nil _ _ _ _ _, by repeat (first | (with_reducible first | exact HB.out | apply below_alloc | apply pw_below_drewN | apply below_drew1 | refine below_set ?_ GE113.out | refine below_set ?_ GE117.out) | exact HB.out)⟩
             ·
              replace c101 := Bool.eq_false_iff.mpr c101
              subst c101
              have H1 : ((digest_Tagged.f 77 x8_3).bind fun t133 => ((digest_Hex.f t133).bind fun t134 => (some (0, false, x118002_3, t134, x118004_3, 0)))) = some (r1, r2, r3, r4, r5, r6) := by rw [if_neg (show ¬ (false = true) by decide)] at H; exact H
              clear H
              have H := H1
              clear H1
              replace H := Option.bind_eq_some_iff.mp H
              obtain ⟨t133, A1040, H⟩ := H
              replace H : ((digest_Hex.f t133).bind fun t134 => (some (0, false, x118002_3, t134, x118004_3, 0))) = some (r1, r2, r3, r4, r5, r6) := H
              have A104 := Aside0.mk A1040
              clear A1040
              replace H := Option.bind_eq_some_iff.mp H
              obtain ⟨t134, A1050, H⟩ := H
              replace H : (some (0, false, x118002_3, t134, x118004_3, 0)) = some (r1, r2, r3, r4, r5, r6) := H
              have A105 := Aside0.mk A1050
              clear A1050
              simp only [Option.some.injEq, Prod.mk.injEq] at H
              obtain ⟨rfl, rfl, rfl, rfl, rfl, rfl⟩ := H
              obtain ⟨Ao106, co106, eo106⟩ := Kd.R_slice HO_8.out
              subst eo106
              go_wp2_with (first | ((with_reducible refine gate_callee (f := 32) rfl ?_); refine goesL_ (some 125) rfl rfl Tryd.func32 (by kernel_rfl) rfl #[.int .u8 77, .slice Ao106 x8_3.length co106] rfl gl ?_; (with_reducible refine (digest_Tagged.calls 77 _ _ x8_3 t133 _ ?side1 ?side2 A104.out ?sideG).mono ?_); (case sideG => first | exact HG.out | exact gg_below HG.out (bws HB.out)); (case side1 => repeat (first | exact (Kd.R_reads' HO_8.out).2.2 | (with_reducible refine Kd.C_alloc ?_ _) | (with_reducible refine Kd.C_drewN ?_ _) | (with_reducible refine Kd.C_drew ?_))); (case side2 => exact (Kd.R_reads' HO_8.out).2.1); rintro e w107 ⟨rfl, hb⟩; refine ⟨_, rfl, ?_⟩; replace HO_8 := Aside0.mk (Kd.R_below (kR HO_8.out) hb); replace HO_118004 := Aside0.mk (Kd.R_below (kR HO_118004.out) hb); replace BK113 := Aside0.mk (blk_below (g := gb113) (o := .cells #[.int .i64 x114000_3, .bool x114001_3, .int .i64 x114002_3, .string x114003_3, .slice none 0 0] 26 (0, 0)) (bk BK113.out) hb); replace BK117 := Aside0.mk (blk_below (g := gb117) (o := .cells #[.int .i64 0, .bool false, .int .i64 x118002_3, .string (⟨#[]⟩ : ByteArray), u118004] 26 (0, 0)) (bk BK117.out) hb); replace HB := Aside0.mk (below_step (bws HB.out) hb); (try clear hb); (try clear hb2); (try clear hk); (try clear hi)) | ((with_reducible refine gate_callee (f := 31) rfl ?_); refine goesL_ (some 126) rfl rfl Tryd.func31 (by kernel_rfl) rfl #[.string t133] rfl gl ?_; (with_reducible refine (digest_Hex.calls t133 t134 _ A105.out).mono ?_); rintro e w108 ⟨rfl, hb⟩; refine ⟨_, rfl, ?_⟩; replace HO_8 := Aside0.mk (Kd.R_below (kR HO_8.out) hb); replace HO_118004 := Aside0.mk (Kd.R_below (kR HO_118004.out) hb); replace BK113 := Aside0.mk (blk_below (g := gb113) (o := .cells #[.int .i64 x114000_3, .bool x114001_3, .int .i64 x114002_3, .string x114003_3, .slice none 0 0] 26 (0, 0)) (bk BK113.out) hb); replace BK117 := Aside0.mk (blk_below (g := gb117) (o := .cells #[.int .i64 0, .bool false, .int .i64 x118002_3, .string (⟨#[]⟩ : ByteArray), u118004] 26 (0, 0)) (bk BK117.out) hb); replace HB := Aside0.mk (below_step (bws HB.out) hb); (try clear hb); (try clear hb2); (try clear hk); (try clear hi); have hnb109 := NB117_113.out; have hnc109 := NB113_117.out; obtain ⟨hcz110_0, hcz110_1, hcz110_2, hcz110_3, hcz110_4, hfz110_0, hfz110_1, hfz110_2, hfz110_3, hfz110_4⟩ := cz5 BK117.out; obtain ⟨hcz111_0, hcz111_1, hcz111_2, hcz111_3, hcz111_4, hfz111_0, hfz111_1, hfz111_2, hfz111_3, hfz111_4⟩ := cz5 BK113.out; obtain ⟨Ao112, co112, eo112⟩ := Kd.R_slice HO_118004.out; subst eo112))
              refine bodyPost_ret (results_ct rfl _ _ gb113 26 #[.int .i64 0, .bool false, .int .i64 x118002_3, .string t134, .slice Ao112 x118004_3.length co112] (0, 0) _ rfl (bkf BK113.out) Tryd.underlying26 rfl (by kernel_rfl)) rfl ?_
              exact ⟨_, by first | rfl | (simp [errW_none, errW_some] <;> rfl) | (simp [*, errW_none, errW_some] <;> rfl), by (with_reducible repeat (first | apply Kd.R_alloc | apply Kd.R_drewN | apply Kd.R_drew)); exact Kd.R_mono (Kd.R_far (p := ⟨gb113, 4, none⟩) (Kd.R_far (p := ⟨gb113, 3, none⟩) (Kd.R_far (p := ⟨gb113, 2, none⟩) (Kd.R_far (p := ⟨gb113, 1, none⟩) (Kd.R_far (p := ⟨gb113, 0, none⟩) (Kd.R_far (p := ⟨gb117, 3, none⟩) (Kd.R_types (Kd.R_types HO_118004.out BK117.out (by decide)) BK113.out (by decide)) (fun _ hk => hk.1.2) (.string t134)) (fun _ hk => hk.2) (.int .i64 0)) (fun _ hk => hk.2) (.bool false)) (fun _ hk => hk.2) (.int .i64 x118002_3)) (fun _ hk => hk.2) (.string t134)) (fun _ hk => hk.2) (.slice Ao112 x118004_3.length co112)) (fun _ hk => trivial), by repeat (first | (with_reducible first | exact HB.out | apply below_alloc | apply pw_below_drewN | apply below_drew1 | refine below_set ?_ GE113.out | refine below_set ?_ GE117.out) | exact HB.out)⟩

end Go.Proofs.YtoiockmmlanimaaDoor.Oj
