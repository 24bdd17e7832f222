/- Merged of several texts of this session's by merge.py. -/
import Derived.Test.YtoiockmmlanimaaDoorMo3
-- Written for this claim by hyb.py, a driver of this session's over the kit's printer.
namespace Go.Proofs.YtoiockmmlanimaaDoor.Oo
open Go.RowKit Go.Proofs.YtoiockmmlanimaaDoorW.PrintWords Go.Proofs.YtoiockmmlanimaaDoorW.PrintLast Go.Proofs.YtoiockmmlanimaaDoorW.PrintMore
attribute [local go_sem] max2_int min2_int max_two min_two max_three min_three max_four min_four   -- for this text's walks alone
set_option linter.unusedVariables false
set_option linter.unusedSimpArgs false

/-! ### parts_Join: function 9 -/
mutual
def parts_Join.j0 : Nat → List (S46) → List (S61) → Bool → Option (Int × Bool × Int × ByteArray × (List (S63)) × Int)
 | 0, _, _, _ => none
 | k + 1, x0, x1, x21 => if x21 = true then (some (0, false, 0, (⟨#[]⟩ : ByteArray), ([] : List (S63)), 1)) else (parts_Join.l0 k x0 x1 1)
def parts_Join.l0 : Nat → List (S46) → List (S61) → Int → Option (Int × Bool × Int × ByteArray × (List (S63)) × Int)
 | 0, _, _, _ => none
 | k + 1, x0, x1, x6 => if x6 < (x1.length : Int) then (if 0 ≤ x6 then (if 0 ≤ (wrap64 (x6 - 1)) then (if (wrap64 (x6 - 1)) < (x1.length : Int) then (if ((rd_T61 x1 x6).f0) ≤ ((rd_T61 x1 (wrap64 (x6 - 1))).f0) then (some (0, false, 0, (⟨#[]⟩ : ByteArray), ([] : List (S63)), 1)) else (parts_Join.l0 k x0 x1 (wrap64 (x6 + 1)))) else (none)) else (none)) else (none)) else (parts_Join.l1 k x0 x1 ([] : List ByteArray) false x1 (x1.length : Int) 0 0 false 0 (⟨#[]⟩ : ByteArray) ([] : List (S63)))
def parts_Join.l1 : Nat → List (S46) → List (S61) → List ByteArray → Bool → List (S61) → Int → Int → Int → Bool → Int → ByteArray → List (S63) → Option (Int × Bool × Int × ByteArray × (List (S63)) × Int)
 | 0, _, _, _, _, _, _, _, _, _, _, _, _ => none
 | k + 1, x0, x1, x8, x9, x42, x43, x44, x132000, x132001, x132002, x132003, x132004 => if x44 < x43 then (if 0 ≤ x44 then (if x44 < (x42.length : Int) then ((parts_find.f x0 ((rd_T61 x42 x44).f0)).bind fun bt134 => (if bt134.2 = true then (if 0 ≤ bt134.1 then (if bt134.1 < (x0.length : Int) then (if ((rd_T46 x0 bt134.1).f2).toList = ((rd_T61 x42 x44).f1).toList then (if x132004.length + ((rd_T46 x0 bt134.1).f3).length < 5864062014805 then ((some (x132004 ++ ((rd_T46 x0 bt134.1).f3) : List (S63))).bind fun y139 => (if x8.length < 8796093022208 then ((some (x8 ++ [(rd_T46 x0 bt134.1).f2] : List ByteArray)).bind fun y143 => (if x9 = true then (parts_Join.l1 k x0 x1 y143 true x42 x43 (wrap64 (x44 + 1)) x132000 x132001 (wrap64 (x132002 + ((rd_T46 x0 bt134.1).f1))) x132003 y139) else (if x44 < (wrap64 ((x1.length : Int) - 1)) then (parts_Join.l1 k x0 x1 y143 (decide (((rd_T46 x0 bt134.1).f1) < 64)) x42 x43 (wrap64 (x44 + 1)) x132000 x132001 (wrap64 (x132002 + ((rd_T46 x0 bt134.1).f1))) x132003 y139) else (parts_Join.l1 k x0 x1 y143 false x42 x43 (wrap64 (x44 + 1)) x132000 x132001 (wrap64 (x132002 + ((rd_T46 x0 bt134.1).f1))) x132003 y139)))) else (none))) else (none)) else (some (0, false, 0, (⟨#[]⟩ : ByteArray), ([] : List (S63)), 140))) else (none)) else (none)) else (some (0, false, 0, (⟨#[]⟩ : ByteArray), ([] : List (S63)), 140)))) else (none)) else (none)) else (if x9 = true then (some (0, false, 0, (⟨#[]⟩ : ByteArray), ([] : List (S63)), 141)) else (if x132002 > 1048576 then (parts_Join.j3 k x8 true x132000 x132001 x132002 x132003 x132004) else (parts_Join.j3 k x8 (decide ((x132004.length : Int) > 512)) x132000 x132001 x132002 x132003 x132004)))
def parts_Join.j3 : Nat → List ByteArray → Bool → Int → Bool → Int → ByteArray → List (S63) → Option (Int × Bool × Int × ByteArray × (List (S63)) × Int)
 | 0, _, _, _, _, _, _, _ => none
 | k + 1, x8, x122, x132000, x132001, x132002, x132003, x132004 => if x122 = true then (some (0, false, 0, (⟨#[]⟩ : ByteArray), ([] : List (S63)), 2)) else ((digest_Tagged.f 77 x8).bind fun t147 => ((digest_Hex.f t147).bind fun t148 => (some (x132000, x132001, x132002, t148, x132004, 0))))
end
def parts_Join.f (k : Nat) (l0 : List (S46)) (l1 : List (S61)) : Option (Int × Bool × Int × ByteArray × (List (S63)) × Int) := (parts_right.f k l0).bind fun t128 => (if t128 = true then (parts_Join.j0 k l0 l1 ((l1.length : Int) == 0)) else (parts_Join.j0 k l0 l1 true))
theorem parts_Join.mono_l : ∀ k, (∀ y0 y1 y2, LeO (parts_Join.j0 k y0 y1 y2) (parts_Join.j0 (k + 1) y0 y1 y2)) ∧ (∀ y0 y1 y2, LeO (parts_Join.l0 k y0 y1 y2) (parts_Join.l0 (k + 1) y0 y1 y2)) ∧ (∀ y0 y1 y2 y3 y4 y5 y6 y7 y8 y9 y10 y11, LeO (parts_Join.l1 k y0 y1 y2 y3 y4 y5 y6 y7 y8 y9 y10 y11) (parts_Join.l1 (k + 1) y0 y1 y2 y3 y4 y5 y6 y7 y8 y9 y10 y11)) ∧ (∀ y0 y1 y2 y3 y4 y5 y6, LeO (parts_Join.j3 k y0 y1 y2 y3 y4 y5 y6) (parts_Join.j3 (k + 1) y0 y1 y2 y3 y4 y5 y6))
 | 0 => ⟨fun _ _ _ r h => by simp [parts_Join.j0] at h, fun _ _ _ r h => by simp [parts_Join.l0] at h, fun _ _ _ _ _ _ _ _ _ _ _ _ r h => by simp [parts_Join.l1] at h, fun _ _ _ _ _ _ _ r h => by simp [parts_Join.j3] at h⟩
 | k + 1 => by
  obtain ⟨ih0, ih1, ih2, ih3⟩ := parts_Join.mono_l k
  refine ⟨?_, ?_, ?_, ?_⟩
  ·
   intro y0 y1 y2
   unfold parts_Join.j0
   repeat' first
   | (with_reducible exact ih0 _ _ _)
   | (with_reducible exact ih1 _ _ _)
   | (with_reducible exact ih2 _ _ _ _ _ _ _ _ _ _ _ _)
   | (with_reducible exact ih3 _ _ _ _ _ _ _)
   | (with_reducible exact parts_right.mono _ _)
   | (with_reducible exact LeO.refl _)
   | (with_reducible exact LeO.none _)
   | (with_reducible refine LeO.ite ?_ ?_)
   | (with_reducible refine LeO.bind ?_ (fun _ => ?_))
   | exact ih0 _ _ _
   | exact ih1 _ _ _
   | exact ih2 _ _ _ _ _ _ _ _ _ _ _ _
   | exact ih3 _ _ _ _ _ _ _
   | exact parts_right.mono _ _
   | exact LeO.none _
   | refine LeO.ite ?_ ?_
   | refine LeO.bind ?_ (fun _ => ?_)
  ·
   intro y0 y1 y2
   unfold parts_Join.l0
   repeat' first
   | (with_reducible exact ih0 _ _ _)
   | (with_reducible exact ih1 _ _ _)
   | (with_reducible exact ih2 _ _ _ _ _ _ _ _ _ _ _ _)
   | (with_reducible exact ih3 _ _ _ _ _ _ _)
   | (with_reducible exact parts_right.mono _ _)
   | (with_reducible exact LeO.refl _)
   | (with_reducible exact LeO.none _)
   | (with_reducible refine LeO.ite ?_ ?_)
   | (with_reducible refine LeO.bind ?_ (fun _ => ?_))
   | exact ih0 _ _ _
   | exact ih1 _ _ _
   | exact ih2 _ _ _ _ _ _ _ _ _ _ _ _
   | exact ih3 _ _ _ _ _ _ _
   | exact parts_right.mono _ _
   | exact LeO.none _
   | refine LeO.ite ?_ ?_
   | refine LeO.bind ?_ (fun _ => ?_)
  ·
   intro y0 y1 y2 y3 y4 y5 y6 y7 y8 y9 y10 y11
   unfold parts_Join.l1
   repeat' first
   | (with_reducible exact ih0 _ _ _)
   | (with_reducible exact ih1 _ _ _)
   | (with_reducible exact ih2 _ _ _ _ _ _ _ _ _ _ _ _)
   | (with_reducible exact ih3 _ _ _ _ _ _ _)
   | (with_reducible exact parts_right.mono _ _)
   | (with_reducible exact LeO.refl _)
   | (with_reducible exact LeO.none _)
   | (with_reducible refine LeO.ite ?_ ?_)
   | (with_reducible refine LeO.bind ?_ (fun _ => ?_))
   | exact ih0 _ _ _
   | exact ih1 _ _ _
   | exact ih2 _ _ _ _ _ _ _ _ _ _ _ _
   | exact ih3 _ _ _ _ _ _ _
   | exact parts_right.mono _ _
   | exact LeO.none _
   | refine LeO.ite ?_ ?_
   | refine LeO.bind ?_ (fun _ => ?_)
  ·
   intro y0 y1 y2 y3 y4 y5 y6
   unfold parts_Join.j3
   repeat' first
   | (with_reducible exact ih0 _ _ _)
   | (with_reducible exact ih1 _ _ _)
   | (with_reducible exact ih2 _ _ _ _ _ _ _ _ _ _ _ _)
   | (with_reducible exact ih3 _ _ _ _ _ _ _)
   | (with_reducible exact parts_right.mono _ _)
   | (with_reducible exact LeO.refl _)
   | (with_reducible exact LeO.none _)
   | (with_reducible refine LeO.ite ?_ ?_)
   | (with_reducible refine LeO.bind ?_ (fun _ => ?_))
   | exact ih0 _ _ _
   | exact ih1 _ _ _
   | exact ih2 _ _ _ _ _ _ _ _ _ _ _ _
   | exact ih3 _ _ _ _ _ _ _
   | exact parts_right.mono _ _
   | exact LeO.none _
   | refine LeO.ite ?_ ?_
   | refine LeO.bind ?_ (fun _ => ?_)
theorem parts_Join.mono : ∀ a0 a1 k, LeO (parts_Join.f k a0 a1) (parts_Join.f (k + 1) a0 a1) := by
 intro a0 a1 k
 obtain ⟨ih0, ih1, ih2, ih3⟩ := parts_Join.mono_l k
 unfold parts_Join.f
 repeat' first
   | (with_reducible exact ih0 _ _ _)
   | (with_reducible exact ih1 _ _ _)
   | (with_reducible exact ih2 _ _ _ _ _ _ _ _ _ _ _ _)
   | (with_reducible exact ih3 _ _ _ _ _ _ _)
   | (with_reducible exact parts_right.mono _ _)
   | (with_reducible exact LeO.refl _)
   | (with_reducible exact LeO.none _)
   | (with_reducible refine LeO.ite ?_ ?_)
   | (with_reducible refine LeO.bind ?_ (fun _ => ?_))
   | exact ih0 _ _ _
   | exact ih1 _ _ _
   | exact ih2 _ _ _ _ _ _ _ _ _ _ _ _
   | exact ih3 _ _ _ _ _ _ _
   | exact parts_right.mono _ _
   | exact LeO.none _
   | refine LeO.ite ?_ ?_
   | refine LeO.bind ?_ (fun _ => ?_)
def parts_Join.T6 : Bool × List (List Nat × List Nat) := (true, [([], []), ([], []), ([0, 1], [0, 1]), ([2], [2]), ([3], [3]), ([], []), ([], []), ([6], [6]), ([5, 7], [5, 7]), ([8], [8]), ([9], [9]), ([4, 10], [4, 10])])
def parts_Join.B6 : List Nat := [0, 0, 3, 7, 15, 0, 0, 64, 224, 480, 992, 2047]
theorem parts_Join.tab6 : rtab .any (opsOf Tryd.f9 6) = parts_Join.T6 := by kernel_rfl
theorem parts_Join.bits6 : waitsOk parts_Join.T6.2 parts_Join.B6 = true := by kernel_rfl
def parts_Join.T15 : Bool × List (List Nat × List Nat) := (true, [([], []), ([0], [0]), ([1], [1]), ([2], [2]), ([2], [2]), ([3, 4, 2], [2, 3, 4]), ([5, 2], [2, 5]), ([6, 2], [2, 6]), ([2], [2]), ([8, 2], [2, 8]), ([7, 9, 2], [2, 7, 9]), ([2, 10], [2, 10])])
def parts_Join.B15 : List Nat := [0, 1, 3, 7, 7, 31, 63, 127, 7, 263, 1023, 2047]
theorem parts_Join.tab15 : rtab .any (opsOf Tryd.f9 15) = parts_Join.T15 := by kernel_rfl
theorem parts_Join.bits15 : waitsOk parts_Join.T15.2 parts_Join.B15 = true := by kernel_rfl
def parts_Join.T17 : Bool × List (List Nat × List Nat) := (true, [([], []), ([0], [0]), ([], []), ([], []), ([2, 3], [2, 3]), ([4], [4]), ([5], [5]), ([1, 6], [1, 6]), ([0, 1, 2, 3, 4, 5, 6, 7], []), ([8, 7, 0, 1, 2, 3, 4, 5, 6, 7], [7, 8])])
def parts_Join.B17 : List Nat := [0, 1, 0, 0, 12, 28, 60, 127, 255, 511]
theorem parts_Join.tab17 : rtab .any (opsOf Tryd.f9 17) = parts_Join.T17 := by kernel_rfl
theorem parts_Join.bits17 : waitsOk parts_Join.T17.2 parts_Join.B17 = true := by kernel_rfl
def parts_Join.T18 : Bool × List (List Nat × List Nat) := (true, [([], []), ([0], [0]), ([], []), ([], []), ([2, 3], [2, 3]), ([4], [4]), ([5], [5]), ([1, 6], [1, 6]), ([0, 1, 2, 3, 4, 5, 6, 7], []), ([8, 7, 7, 0, 1, 2, 3, 4, 5, 6, 7], [7, 8])])
def parts_Join.B18 : List Nat := [0, 1, 0, 0, 12, 28, 60, 127, 255, 511]
theorem parts_Join.tab18 : rtab .any (opsOf Tryd.f9 18) = parts_Join.T18 := by kernel_rfl
theorem parts_Join.bits18 : waitsOk parts_Join.T18.2 parts_Join.B18 = true := by kernel_rfl
set_option maxHeartbeats 8000000 in
set_option maxRecDepth 100000 in
theorem parts_Join.calls (k : Nat) (A0 : Option Addr) (c0 : Nat) (l0 : List (S46)) (A1 : Option Addr) (c1 : Nat) (l1 : List (S61)) (r1 : Int) (r2 : Bool) (r3 : Int) (r4 : ByteArray) (r5 : List (S63)) (r6 : Int) (w : World) (hr0 : Kd.C k46 w A0 l0.length l0) (hc0 : l0.length ≤ c0) (hr1 : Kd.C k61 w A1 l1.length l1) (hc1 : l1.length ≤ c1) (h : parts_Join.f k l0 l1 = some (r1, r2, r3, r4, r5, r6)) (hG : GG w) :
  Calls Tryd.prog 9 #[.slice A0 l0.length c0, .slice A1 l1.length c1] w fun e w' => ∃ v4_ : Value, e = .returned (.tuple #[.agg #[.int .i64 r1, .bool r2, .int .i64 r3, .string r4, v4_], .int .i64 r6]) ∧ Kd.R k63 63 w' w.heap.size (fun _ => True) v4_ r5 ∧ Below w.heap.size w w' := by
 have HG := Aside0.mk hG
 clear hG
 have hu26 := Tryd.underlying26
 have hu61 := Tryd.underlying61
 have HR0 := Aside0.mk hr0
 have HC0 := Aside0.mk hc0
 clear hr0 hc0
 have HR1 := Aside0.mk hr1
 have HC1 := Aside0.mk hc1
 clear hr1 hc1
 have HB := Aside0.mk (Below.refl w.heap.size w)
 have H : ((parts_right.f k l0).bind fun t128 => (if t128 = true then (parts_Join.j0 k l0 l1 ((l1.length : Int) == 0)) else (parts_Join.j0 k l0 l1 true))) = some (r1, r2, r3, r4, r5, r6) := h
 clear h
 have HC3 := Aside0.mk H
 clear H
 go_enter Tryd.func9, Tryd.ntmps9
 go_upto_region 1 with (first | ((with_reducible refine gate_dst (N := 4) rfl ?_); (try (refine gate_guard (by rfl) ?_; dsimp only)); refine box_event ?hg (N := 4) ?hd (cs := #[.int .i64 0, .bool false, .int .i64 0, .string (⟨#[]⟩ : ByteArray), .slice none 0 0]) (t := 26) ?hr ?_; (case hd => rfl); (case hg => rfl); (case hr => first | (go_simp; done) | (go_simp; rfl)); intro gb127 hg w4 hbox hb; have n0_ := Aside0.mk (below_step (bw HB.out) hb); have n1_ := Aside0.mk (hbox); have n2_ := Aside0.mk ((by rw [hg]; exact (below_size (bw HB.out)) : w.heap.size ≤ gb127)); have n3_ := Aside0.mk ((by rw [hg]; exact (below_size (bw HB.out)) : w.heap.size ≤ gb127)); clear HB; have HB := n0_; have BK127 := n1_; have GW127 := n2_; have GE127 := n3_; clear n0_ n1_ n2_ n3_; clear hb hbox hg))
 (try simp only [Act.put, List.setIfInBounds_toArray, List.set_cons_zero, List.set_cons_succ])
 go_cut [21] (fun v21 wc => ∃ (kq : Nat) (x21_2 : Bool), v21 = .bool x21_2 ∧ Aside0 (parts_Join.j0 kq l0 l1 x21_2 = some (r1, r2, r3, r4, r5, r6)) ∧ Aside0 (kq ≤ k) ∧ Aside0 (wc.heap[gb127]? = some (.cells #[.int .i64 0, .bool false, .int .i64 0, .string (⟨#[]⟩ : ByteArray), (.slice none 0 0)] 26 (0, 0))) ∧ Aside0 (Below w.heap.size w wc))
 case first =>
  have H := HC3.out
  clear HC3
  replace H := Option.bind_eq_some_iff.mp H
  obtain ⟨t128, A50, H⟩ := H
  replace H : (if t128 = true then (parts_Join.j0 k l0 l1 ((l1.length : Int) == 0)) else (parts_Join.j0 k l0 l1 true)) = some (r1, r2, r3, r4, r5, r6) := H
  have A5 := Aside0.mk A50
  clear A50
  by_cases c6 : t128 = true
  ·
   subst c6
   have H1 : (parts_Join.j0 k l0 l1 ((l1.length : Int) == 0)) = some (r1, r2, r3, r4, r5, r6) := by rw [if_pos rfl] at H; exact H
   clear H
   have H := H1
   clear H1
   have H' := Aside0.mk H
   clear H
   go_wp2_with (first | ((with_reducible refine gate_callee (f := 29) rfl ?_); refine goesL_ (some 15) rfl rfl Tryd.func29 (by kernel_rfl) rfl #[.slice A0 l0.length c0] rfl gl ?_; (with_reducible refine (parts_right.calls k _ _ l0 true _ ?side1 ?side2 A5.out).mono ?_); (case side1 => exact kC (Kd.C_below HR0.out HB.out)); (case side2 => exact HC0.out); rintro e w7 ⟨rfl, hb⟩; refine ⟨_, rfl, ?_⟩; replace BK127 := Aside0.mk (blk_below (g := gb127) (o := .cells #[.int .i64 0, .bool false, .int .i64 0, .string (⟨#[]⟩ : ByteArray), .slice none 0 0] 26 (0, 0)) (bk BK127.out) hb); replace HB := Aside0.mk (below_step (bws HB.out) hb); (try clear hb); (try clear hb2); (try clear hk); (try clear hi)))
   go_meet
   case rel => exact ⟨_, (((l1.length : Int) == 0)), (by first | rfl | (simp; done) | (simp [*]; done)), H', ⟨by first | omega | exact Nat.le_refl _⟩, ⟨bk BK127.out⟩, ⟨bws HB.out⟩⟩
  ·
   replace c6 := Bool.eq_false_iff.mpr c6
   subst c6
   have H1 : (parts_Join.j0 k l0 l1 true) = some (r1, r2, r3, r4, r5, r6) := by rw [if_neg (show ¬ (false = true) by decide)] at H; exact H
   clear H
   have H := H1
   clear H1
   have H' := Aside0.mk H
   clear H
   go_wp2_with (first | ((with_reducible refine gate_callee (f := 29) rfl ?_); refine goesL_ (some 15) rfl rfl Tryd.func29 (by kernel_rfl) rfl #[.slice A0 l0.length c0] rfl gl ?_; (with_reducible refine (parts_right.calls k _ _ l0 false _ ?side1 ?side2 A5.out).mono ?_); (case side1 => exact kC (Kd.C_below HR0.out HB.out)); (case side2 => exact HC0.out); rintro e w8 ⟨rfl, hb⟩; refine ⟨_, rfl, ?_⟩; replace BK127 := Aside0.mk (blk_below (g := gb127) (o := .cells #[.int .i64 0, .bool false, .int .i64 0, .string (⟨#[]⟩ : ByteArray), .slice none 0 0] 26 (0, 0)) (bk BK127.out) hb); replace HB := Aside0.mk (below_step (bws HB.out) hb); (try clear hb); (try clear hb2); (try clear hk); (try clear hi)))
   go_meet
   case rel => exact ⟨_, (true), (by first | rfl | (simp; done) | (simp [*]; done)), H', ⟨by first | omega | exact Nat.le_refl _⟩, ⟨bk BK127.out⟩, ⟨bws HB.out⟩⟩
 case rest =>
  clear HC3
  try clear c1
  try clear c2
  try clear p2
  try clear c6
  obtain ⟨kq, x21_2, rfl, HA, HJ2, BK127, HB⟩ := hcut
  cases kq with
  | zero => exact absurd HA.out (by simp [parts_Join.j0])
  | succ kj2 =>
   have H := HA.out
   clear HA
   simp only [parts_Join.j0] at H
   by_cases c9 : x21_2 = true
   ·
    subst c9
    have H1 : (some (0, false, 0, (⟨#[]⟩ : ByteArray), ([] : List (S63)), 1)) = some (r1, r2, r3, r4, r5, r6) := by rw [if_pos rfl] at H; exact H
    clear H
    have H := H1
    clear H1
    simp only [Option.some.injEq, Prod.mk.injEq] at H
    obtain ⟨rfl, rfl, rfl, rfl, rfl, rfl⟩ := H
    have hcz10_0 : wc.cell? ⟨gb127, 0, none⟩ = some (.int .i64 0) := (blk_cell BK127.out 0).trans rfl
    have hcz10_1 : wc.cell? ⟨gb127, 1, none⟩ = some (.bool false) := (blk_cell BK127.out 1).trans rfl
    have hcz10_2 : wc.cell? ⟨gb127, 2, none⟩ = some (.int .i64 0) := (blk_cell BK127.out 2).trans rfl
    have hcz10_3 : wc.cell? ⟨gb127, 3, none⟩ = some (.string (⟨#[]⟩ : ByteArray)) := (blk_cell BK127.out 3).trans rfl
    have hcz10_4 : wc.cell? ⟨gb127, 4, none⟩ = some (.slice none 0 0) := (blk_cell BK127.out 4).trans rfl
    have hfz10_0 := blk_frozen BK127.out 0
    have hfz10_1 := blk_frozen BK127.out 1
    have hfz10_2 := blk_frozen BK127.out 2
    have hfz10_3 := blk_frozen BK127.out 3
    have hfz10_4 := blk_frozen BK127.out 4
    go_wp2
    refine bodyPost_ret (results_ct rfl _ _ gb127 26 #[.int .i64 0, .bool false, .int .i64 0, .string (⟨#[]⟩ : ByteArray), .slice none 0 0] (0, 0) _ rfl (bkp BK127.out) Tryd.underlying26 rfl (by kernel_rfl)) rfl ?_
    exact ⟨_, by first | rfl | (simp [errW_none, errW_some] <;> rfl) | (simp [*, errW_none, errW_some] <;> rfl), by first | exact Kd.R_nil _ _ _ _ _ | exact Kd.N_nil _ _ _ _ _ | exact Kd.V_nil _ _ _ _ _ | exact Kd.Q_nil _ _ _ _ _ | exact Kd.S_nil _ _ _ _ _, by repeat (first | (with_reducible first | exact HB.out | apply below_alloc | apply pw_below_drewN | apply below_drew1 | refine below_set ?_ GE127.out) | exact HB.out)⟩
   ·
    replace c9 := Bool.eq_false_iff.mpr c9
    subst c9
    have H1 : (parts_Join.l0 kj2 l0 l1 1) = some (r1, r2, r3, r4, r5, r6) := by rw [if_neg (show ¬ (false = true) by decide)] at H; exact H
    clear H
    have H := H1
    clear H1
    have H' := Aside0.mk H
    clear H
    go_wp2
    go_loopg [6] kj2 (fun kq v6 w' => ∃ (x6_2 : Int) (x128000_2 : Int) (x128001_2 : Bool) (x128002_2 : Int) (x128003_2 : ByteArray), v6 = .int .i64 x6_2 ∧ Aside0 (parts_Join.l0 kq l0 l1 x6_2 = some (r1, r2, r3, r4, r5, r6)) ∧ Aside0 (kq ≤ kj2) ∧ Aside0 (w'.heap[gb127]? = some (.cells #[.int .i64 x128000_2, .bool x128001_2, .int .i64 x128002_2, .string x128003_2, (.slice none 0 0)] 26 (0, 0))) ∧ Aside0 (Below w.heap.size w w'))
    case atStart => exact ⟨(1), (0), (false), (0), ((⟨#[]⟩ : ByteArray)), (by first | rfl | (simp; done) | (simp [*]; done)), H', ⟨Nat.le_refl _⟩, ⟨bk BK127.out⟩, ⟨bws HB.out⟩⟩
    case round =>
     clear H'
     try clear c1
     try clear c2
     try clear p2
     try clear c6
     try clear c9
     try clear hcz10_0
     try clear hcz10_1
     try clear hcz10_2
     try clear hcz10_3
     try clear hcz10_4
     try clear hfz10_0
     try clear hfz10_1
     try clear hfz10_2
     try clear hfz10_3
     try clear hfz10_4
     try clear p2
     obtain ⟨x6_2, x128000_2, x128001_2, x128002_2, x128003_2, rfl, HA, HK2, BK127, HB⟩ := hrel
     cases gk with
     | zero => exact absurd HA.out (by simp [parts_Join.l0])
     | succ k2 =>
      have H := HA.out
      clear HA
      simp only [parts_Join.l0] at H
      by_cases c11 : x6_2 < (l1.length : Int)
      ·
       rw [if_pos c11] at H
       have c11b0 : decide (x6_2 < (l1.length : Int)) = true := decide_eq_true c11
       clear c11
       by_cases c12 : 0 ≤ x6_2
       ·
        rw [if_pos c12] at H
        have c12b0 : decide (0 ≤ x6_2) = true := decide_eq_true c12
        clear c12
        obtain ⟨ji13, hji13⟩ : ∃ j_ : Int, (wrap64 (x6_2 - 1)) = j_ := ⟨_, rfl⟩
        replace H : (if 0 ≤ (ji13) then (if (ji13) < (l1.length : Int) then (if ((rd_T61 l1 x6_2).f0) ≤ ((rd_T61 l1 (ji13)).f0) then (some (0, false, 0, (⟨#[]⟩ : ByteArray), ([] : List (S63)), 1)) else (parts_Join.l0 k2 l0 l1 (wrap64 (x6_2 + 1)))) else (none)) else (none)) = some (r1, r2, r3, r4, r5, r6) := by first | (rw [hji13] at H; exact H) | (simp only [hji13] at H ⊢; exact H)
        have hji13w : (IntKind.i64.wrap (x6_2 - 1)) = ji13 := (i64_w _).trans hji13
        by_cases c14 : 0 ≤ (ji13)
        ·
         rw [if_pos c14] at H
         have c14b0 : decide (0 ≤ (ji13)) = true := decide_eq_true c14
         clear c14
         by_cases c15 : (ji13) < (l1.length : Int)
         ·
          rw [if_pos c15] at H
          have c15b0 : decide ((ji13) < (l1.length : Int)) = true := decide_eq_true c15
          clear c15
          by_cases c16 : ((rd_T61 l1 x6_2).f0) ≤ ((rd_T61 l1 (ji13)).f0)
          ·
           rw [if_pos c16] at H
           have c16b0 : decide (((rd_T61 l1 x6_2).f0) ≤ ((rd_T61 l1 (ji13)).f0)) = true := decide_eq_true c16
           clear c16
           simp only [Option.some.injEq, Prod.mk.injEq] at H
           obtain ⟨rfl, rfl, rfl, rfl, rfl, rfl⟩ := H
           try go_wp2
           replace BK127 := Aside0.mk (blk_drew BK127.out)
           replace HB := Aside0.mk (below_drew1 HB.out)
           have p129 : 0 ≤ (x6_2 : Int) := of_decide_eq_true asm
           have q129 : x6_2 < (l1.length : Int) := of_decide_eq_true asm
           obtain ⟨ad129, e129, hx129_0, hx129_1⟩ := at_T61 HR1.out x6_2 p129 q129
           have hw129_1 := hx129_1
           have hw129_0 := hx129_0
           cases e129
           replace hx129_0 := bc HB.out hx129_0
           replace hx129_1 := bc HB.out hx129_1
           replace p129 := eq_true p129
           replace q129 := eq_true q129
           have p130 : 0 ≤ ((ji13) : Int) := of_decide_eq_true asm
           have q130 : (ji13) < (l1.length : Int) := of_decide_eq_true asm
           obtain ⟨ad130, e130, hx130_0, hx130_1⟩ := at_T61 HR1.out (ji13) p130 q130
           have hw130_1 := hx130_1
           have hw130_0 := hx130_0
           obtain rfl : ad129 = ad130 := (by injection e130)
           replace hx130_0 := bc HB.out hx130_0
           replace hx130_1 := bc HB.out hx130_1
           replace p130 := eq_true p130
           replace q130 := eq_true q130
           refine start_ (n := 12) (S := fun w' => w'.cell? (ad129.add ((x6_2).toNat * 2)) = some (.int .i64 ((rd_T61 l1 x6_2).f0)) ∧ w'.cell? ⟨(ad129.add ((x6_2).toNat * 2)).block, (ad129.add ((x6_2).toNat * 2)).off + 1, none⟩ = some (.string ((rd_T61 l1 x6_2).f1)) ∧ w'.cell? (ad129.add (((ji13)).toNat * 2)) = some (.int .i64 ((rd_T61 l1 (ji13)).f0)) ∧ w'.cell? ⟨(ad129.add (((ji13)).toNat * 2)).block, (ad129.add (((ji13)).toNat * 2)).off + 1, none⟩ = some (.string ((rd_T61 l1 (ji13)).f1))) (ds := []) #[false, false, false, false, false, false, false, false, false, false, false, false] (by kernel_rfl) rfl rfl ⟨(bc HB.out hw129_0), (bc HB.out hw129_1), (bc HB.out hw130_0), (bc HB.out hw130_1)⟩ (fun hHeld => ?_); refine with_tabW parts_Join.tab6 parts_Join.bits6 (fun HT_ HW_ => ?_)
           generalize wr.drew = w17 at BK127 HB hx129_0 hx129_1 hx130_0 hx130_1 hHeld ⊢
           refine pu 0 (some 29) HT_.out ?_
           refine pu 1 (some 30) HT_.out ?_
           refine pu 2 (some 31) HT_.out ?_
           refine pu 3 (some 32) HT_.out ?_
           refine pu 5 (some 34) HT_.out ?_
           refine pu 6 (some 35) HT_.out ?_
           refine pu 7 (some 36) HT_.out ?_
           refine pu 8 (some 37) HT_.out ?_
           refine pu 9 (some 38) HT_.out ?_
           refine tk 4 (some 33) HT_.out HW_.out hHeld ?_
           refine tk 10 (some 39) HT_.out HW_.out hHeld ?_
           refine pu 11 (some 40) HT_.out ?_
           refine done_ (done_of HT_.out (by kernel_rfl)) ?_
           have hcz18_0 : w17.cell? ⟨gb127, 0, none⟩ = some (.int .i64 x128000_2) := (blk_cell BK127.out 0).trans rfl
           have hcz18_1 : w17.cell? ⟨gb127, 1, none⟩ = some (.bool x128001_2) := (blk_cell BK127.out 1).trans rfl
           have hcz18_2 : w17.cell? ⟨gb127, 2, none⟩ = some (.int .i64 x128002_2) := (blk_cell BK127.out 2).trans rfl
           have hcz18_3 : w17.cell? ⟨gb127, 3, none⟩ = some (.string x128003_2) := (blk_cell BK127.out 3).trans rfl
           have hcz18_4 : w17.cell? ⟨gb127, 4, none⟩ = some (.slice none 0 0) := (blk_cell BK127.out 4).trans rfl
           have hfz18_0 := blk_frozen BK127.out 0
           have hfz18_1 := blk_frozen BK127.out 1
           have hfz18_2 := blk_frozen BK127.out 2
           have hfz18_3 := blk_frozen BK127.out 3
           have hfz18_4 := blk_frozen BK127.out 4
           try go_wp2
           refine bodyPost_ret (results_ct rfl _ _ gb127 26 #[.int .i64 0, .bool false, .int .i64 0, .string (⟨#[]⟩ : ByteArray), .slice none 0 0] (0, 0) _ rfl (bkp BK127.out) Tryd.underlying26 rfl (by kernel_rfl)) rfl ?_
           exact ⟨_, by first | rfl | (simp [errW_none, errW_some] <;> rfl) | (simp only [← hji13]; first | rfl | (simp [errW_none, errW_some] <;> rfl)) | (simp [*, errW_none, errW_some] <;> rfl), by first | exact Kd.R_nil _ _ _ _ _ | exact Kd.N_nil _ _ _ _ _ | exact Kd.V_nil _ _ _ _ _ | exact Kd.Q_nil _ _ _ _ _ | exact Kd.S_nil _ _ _ _ _, by repeat (first | (with_reducible first | exact HB.out | apply below_alloc | apply pw_below_drewN | apply below_drew1 | refine below_set ?_ GE127.out) | exact HB.out)⟩
          ·
           rw [if_neg c16] at H
           have c16b0 : decide (((rd_T61 l1 x6_2).f0) ≤ ((rd_T61 l1 (ji13)).f0)) = false := decide_eq_false c16
           clear c16
           have H' := Aside0.mk H
           clear H
           try go_wp2
           replace BK127 := Aside0.mk (blk_drew BK127.out)
           replace HB := Aside0.mk (below_drew1 HB.out)
           have p129 : 0 ≤ (x6_2 : Int) := of_decide_eq_true asm
           have q129 : x6_2 < (l1.length : Int) := of_decide_eq_true asm
           obtain ⟨ad129, e129, hx129_0, hx129_1⟩ := at_T61 HR1.out x6_2 p129 q129
           have hw129_1 := hx129_1
           have hw129_0 := hx129_0
           cases e129
           replace hx129_0 := bc HB.out hx129_0
           replace hx129_1 := bc HB.out hx129_1
           replace p129 := eq_true p129
           replace q129 := eq_true q129
           have p130 : 0 ≤ ((ji13) : Int) := of_decide_eq_true asm
           have q130 : (ji13) < (l1.length : Int) := of_decide_eq_true asm
           obtain ⟨ad130, e130, hx130_0, hx130_1⟩ := at_T61 HR1.out (ji13) p130 q130
           have hw130_1 := hx130_1
           have hw130_0 := hx130_0
           obtain rfl : ad129 = ad130 := (by injection e130)
           replace hx130_0 := bc HB.out hx130_0
           replace hx130_1 := bc HB.out hx130_1
           replace p130 := eq_true p130
           replace q130 := eq_true q130
           refine start_ (n := 12) (S := fun w' => w'.cell? (ad129.add ((x6_2).toNat * 2)) = some (.int .i64 ((rd_T61 l1 x6_2).f0)) ∧ w'.cell? ⟨(ad129.add ((x6_2).toNat * 2)).block, (ad129.add ((x6_2).toNat * 2)).off + 1, none⟩ = some (.string ((rd_T61 l1 x6_2).f1)) ∧ w'.cell? (ad129.add (((ji13)).toNat * 2)) = some (.int .i64 ((rd_T61 l1 (ji13)).f0)) ∧ w'.cell? ⟨(ad129.add (((ji13)).toNat * 2)).block, (ad129.add (((ji13)).toNat * 2)).off + 1, none⟩ = some (.string ((rd_T61 l1 (ji13)).f1))) (ds := []) #[false, false, false, false, false, false, false, false, false, false, false, false] (by kernel_rfl) rfl rfl ⟨(bc HB.out hw129_0), (bc HB.out hw129_1), (bc HB.out hw130_0), (bc HB.out hw130_1)⟩ (fun hHeld => ?_); refine with_tabW parts_Join.tab6 parts_Join.bits6 (fun HT_ HW_ => ?_)
           generalize wr.drew = w19 at BK127 HB hx129_0 hx129_1 hx130_0 hx130_1 hHeld ⊢
           refine pu 0 (some 29) HT_.out ?_
           refine pu 1 (some 30) HT_.out ?_
           refine pu 2 (some 31) HT_.out ?_
           refine pu 3 (some 32) HT_.out ?_
           refine pu 5 (some 34) HT_.out ?_
           refine pu 6 (some 35) HT_.out ?_
           refine pu 7 (some 36) HT_.out ?_
           refine pu 8 (some 37) HT_.out ?_
           refine pu 9 (some 38) HT_.out ?_
           refine tk 4 (some 33) HT_.out HW_.out hHeld ?_
           refine tk 10 (some 39) HT_.out HW_.out hHeld ?_
           refine pu 11 (some 40) HT_.out ?_
           refine done_ (done_of HT_.out (by kernel_rfl)) ?_
           try go_wp2
           go_roundg k2
           case measure => have := HJ2.out; have := HK2.out; omega
           case rel => exact ⟨(wrap64 (x6_2 + 1)), (x128000_2), (x128001_2), (x128002_2), (x128003_2), (by first | rfl | (simp; done) | (simp [*]; done)), H', ⟨by have := HJ2.out; have := HK2.out; omega⟩, ⟨bk BK127.out⟩, ⟨bws HB.out⟩⟩
         ·
          rw [if_neg c15] at H
          exact absurd H (by simp)
        ·
         rw [if_neg c14] at H
         exact absurd H (by simp)
       ·
        rw [if_neg c12] at H
        exact absurd H (by simp)
      ·
       rw [if_neg c11] at H
       have c11b0 : decide (x6_2 < (l1.length : Int)) = false := decide_eq_false c11
       clear c11
       have H' := Aside0.mk H
       clear H
       go_wp2_with (first | ((with_reducible refine gate_dst (N := 7) rfl ?_); (try (refine gate_guard (by rfl) ?_; dsimp only)); refine box_event ?hg (N := 7) ?hd (cs := #[.int .i64 0, .bool false, .int .i64 0, .string (⟨#[]⟩ : ByteArray), .slice none 0 0]) (t := 26) ?hr ?_; (case hd => rfl); (case hg => rfl); (case hr => first | (go_simp; done) | (go_simp; rfl)); intro gb131 hg w20 hbox hb; have n0_ := Aside0.mk (blk_below (g := gb127) (o := .cells #[.int .i64 x128000_2, .bool x128001_2, .int .i64 x128002_2, .string x128003_2, .slice none 0 0] 26 (0, 0)) (bk BK127.out) hb); have n1_ := Aside0.mk (below_step (bws HB.out) hb); have n2_ := Aside0.mk (hbox); have n3_ := Aside0.mk ((by rw [hg]; exact (below_size (bws HB.out)) : w.heap.size ≤ gb131)); have n4_ := Aside0.mk ((by rw [hg]; exact (below_size (bws HB.out)) : w.heap.size ≤ gb131)); have n5_ := Aside0.mk ((by rw [hg]; exact Nat.ne_of_lt (blk_lt (g := gb127) (o := .cells #[.int .i64 x128000_2, .bool x128001_2, .int .i64 x128002_2, .string x128003_2, .slice none 0 0] 26 (0, 0)) (bk BK127.out)) : gb127 ≠ gb131)); have n6_ := Aside0.mk ((by rw [hg]; exact Nat.ne_of_gt (blk_lt (g := gb127) (o := .cells #[.int .i64 x128000_2, .bool x128001_2, .int .i64 x128002_2, .string x128003_2, .slice none 0 0] 26 (0, 0)) (bk BK127.out)) : gb131 ≠ gb127)); clear BK127; clear HB; have BK127 := n0_; have HB := n1_; have BK131 := n2_; have GW131 := n3_; have GE131 := n4_; have NB127_131 := n5_; have NB131_127 := n6_; clear n0_ n1_ n2_ n3_ n4_ n5_ n6_; clear hb hbox hg))
       go_loopg [8, 9, 44] k2 (fun kq v8 v9 v44 w' => ∃ (x8_3 : List ByteArray) (x9_3 : Bool) (x44_3 : Int) (x128000_3 : Int) (x128001_3 : Bool) (x128002_3 : Int) (x128003_3 : ByteArray) (x132002_3 : Int) (x132004_3 : List (S63)) (u132004 : Value), v9 = .bool x9_3 ∧ v44 = .int .i64 x44_3 ∧ Aside0 (parts_Join.l1 kq l0 l1 x8_3 x9_3 l1 (l1.length : Int) x44_3 0 false x132002_3 (⟨#[]⟩ : ByteArray) x132004_3 = some (r1, r2, r3, r4, r5, r6)) ∧ Aside0 (kq ≤ k2) ∧ Aside0 (Kd.R Kd.string 9 w' w.heap.size (fun _ => True) v8 x8_3) ∧ Aside0 (Kd.R k63 63 w' w.heap.size (fun _ => True) u132004 x132004_3) ∧ Aside0 (w'.heap[gb127]? = some (.cells #[.int .i64 x128000_3, .bool x128001_3, .int .i64 x128002_3, .string x128003_3, (.slice none 0 0)] 26 (0, 0))) ∧ Aside0 (w'.heap[gb131]? = some (.cells #[.int .i64 0, .bool false, .int .i64 x132002_3, .string (⟨#[]⟩ : ByteArray), u132004] 26 (0, 0))) ∧ Aside0 (Below w.heap.size w w'))
       case atStart => exact ⟨(([] : List ByteArray)), (false), (0), (x128000_2), (x128001_2), (x128002_2), (x128003_2), (0), (([] : List (S63))), (.slice none 0 0), (by first | rfl | (simp; done) | (simp [*]; done)), (by first | rfl | (simp; done) | (simp [*]; done)), H', ⟨Nat.le_refl _⟩, ⟨by first | exact Kd.R_nil _ _ _ _ _ | exact Kd.N_nil _ _ _ _ _ | exact Kd.V_nil _ _ _ _ _ | exact Kd.Q_nil _ _ _ _ _ | exact Kd.S_nil _ _ _ _ _⟩, ⟨by first | exact Kd.R_nil _ _ _ _ _ | exact Kd.N_nil _ _ _ _ _ | exact Kd.V_nil _ _ _ _ _ | exact Kd.Q_nil _ _ _ _ _ | exact Kd.S_nil _ _ _ _ _⟩, ⟨bk BK127.out⟩, ⟨bk BK131.out⟩, ⟨bws HB.out⟩⟩
       case round =>
        clear H'
        try clear c1
        try clear p1
        try clear q1
        try clear hx1
        try clear c2
        try clear p2
        try clear c6
        try clear p6
        try clear c9
        try clear c11
        try clear c11b0
        try clear c12
        try clear c12b0
        try clear p12
        try clear q12
        try clear hx12
        try clear p13
        try clear q13
        try clear hx13
        try clear c14
        try clear c14b0
        try clear c15
        try clear c15b0
        try clear c16
        try clear c16b0
        try clear hcz10_0
        try clear hcz10_1
        try clear hcz10_2
        try clear hcz10_3
        try clear hcz10_4
        try clear hcz18_0
        try clear hcz18_1
        try clear hcz18_2
        try clear hcz18_3
        try clear hcz18_4
        try clear hfz10_0
        try clear hfz10_1
        try clear hfz10_2
        try clear hfz10_3
        try clear hfz10_4
        try clear hfz18_0
        try clear hfz18_1
        try clear hfz18_2
        try clear hfz18_3
        try clear hfz18_4
        try clear hx129_0
        try clear hx129_1
        try clear hx130_0
        try clear hx130_1
        try clear p129
        try clear p130
        try clear p2
        try clear q129
        try clear q130
        obtain ⟨x8_3, x9_3, x44_3, x128000_3, x128001_3, x128002_3, x128003_3, x132002_3, x132004_3, u132004, rfl, rfl, HA, HK3, HO_8, HO_132004, BK127, BK131, HB⟩ := hrel
        cases gk with
        | zero => exact absurd HA.out (by simp [parts_Join.l1])
        | succ k3 =>
         have H := HA.out
         clear HA
         simp only [parts_Join.l1] at H
         by_cases c21 : x44_3 < (l1.length : Int)
         ·
          rw [if_pos c21] at H
          have c21b0 : decide (x44_3 < (l1.length : Int)) = true := decide_eq_true c21
          clear c21
          by_cases c22 : 0 ≤ x44_3
          ·
           rw [if_pos c22] at H
           have c22b0 : decide (0 ≤ x44_3) = true := decide_eq_true c22
           clear c22
           by_cases c23 : x44_3 < (l1.length : Int)
           ·
            rw [if_pos c23] at H
            have c23b0 : decide (x44_3 < (l1.length : Int)) = true := decide_eq_true c23
            clear c23
            replace H := Option.bind_eq_some_iff.mp H
            obtain ⟨⟨t134, t135⟩, A240, H⟩ := H
            replace H : (if t135 = true then (if 0 ≤ t134 then (if t134 < (l0.length : Int) then (if ((rd_T46 l0 t134).f2).toList = ((rd_T61 l1 x44_3).f1).toList then (if x132004_3.length + ((rd_T46 l0 t134).f3).length < 5864062014805 then ((some (x132004_3 ++ ((rd_T46 l0 t134).f3) : List (S63))).bind fun y139 => (if x8_3.length < 8796093022208 then ((some (x8_3 ++ [(rd_T46 l0 t134).f2] : List ByteArray)).bind fun y143 => (if x9_3 = true then (parts_Join.l1 k3 l0 l1 y143 true l1 (l1.length : Int) (wrap64 (x44_3 + 1)) 0 false (wrap64 (x132002_3 + ((rd_T46 l0 t134).f1))) (⟨#[]⟩ : ByteArray) y139) else (if x44_3 < (wrap64 ((l1.length : Int) - 1)) then (parts_Join.l1 k3 l0 l1 y143 (decide (((rd_T46 l0 t134).f1) < 64)) l1 (l1.length : Int) (wrap64 (x44_3 + 1)) 0 false (wrap64 (x132002_3 + ((rd_T46 l0 t134).f1))) (⟨#[]⟩ : ByteArray) y139) else (parts_Join.l1 k3 l0 l1 y143 false l1 (l1.length : Int) (wrap64 (x44_3 + 1)) 0 false (wrap64 (x132002_3 + ((rd_T46 l0 t134).f1))) (⟨#[]⟩ : ByteArray) y139)))) else (none))) else (none)) else (some (0, false, 0, (⟨#[]⟩ : ByteArray), ([] : List (S63)), 140))) else (none)) else (none)) else (some (0, false, 0, (⟨#[]⟩ : ByteArray), ([] : List (S63)), 140))) = some (r1, r2, r3, r4, r5, r6) := H
            have A24 := Aside0.mk A240
            clear A240
            by_cases c25 : t135 = true
            ·
             subst c25
             have H1 : (if 0 ≤ t134 then (if t134 < (l0.length : Int) then (if ((rd_T46 l0 t134).f2).toList = ((rd_T61 l1 x44_3).f1).toList then (if x132004_3.length + ((rd_T46 l0 t134).f3).length < 5864062014805 then ((some (x132004_3 ++ ((rd_T46 l0 t134).f3) : List (S63))).bind fun y139 => (if x8_3.length < 8796093022208 then ((some (x8_3 ++ [(rd_T46 l0 t134).f2] : List ByteArray)).bind fun y143 => (if x9_3 = true then (parts_Join.l1 k3 l0 l1 y143 true l1 (l1.length : Int) (wrap64 (x44_3 + 1)) 0 false (wrap64 (x132002_3 + ((rd_T46 l0 t134).f1))) (⟨#[]⟩ : ByteArray) y139) else (if x44_3 < (wrap64 ((l1.length : Int) - 1)) then (parts_Join.l1 k3 l0 l1 y143 (decide (((rd_T46 l0 t134).f1) < 64)) l1 (l1.length : Int) (wrap64 (x44_3 + 1)) 0 false (wrap64 (x132002_3 + ((rd_T46 l0 t134).f1))) (⟨#[]⟩ : ByteArray) y139) else (parts_Join.l1 k3 l0 l1 y143 false l1 (l1.length : Int) (wrap64 (x44_3 + 1)) 0 false (wrap64 (x132002_3 + ((rd_T46 l0 t134).f1))) (⟨#[]⟩ : ByteArray) y139)))) else (none))) else (none)) else (some (0, false, 0, (⟨#[]⟩ : ByteArray), ([] : List (S63)), 140))) else (none)) else (none)) = some (r1, r2, r3, r4, r5, r6) := by rw [if_pos rfl] at H; exact H
             clear H
             have H := H1
             clear H1
             by_cases c26 : 0 ≤ t134
             ·
              rw [if_pos c26] at H
              have c26b0 : decide (0 ≤ t134) = true := decide_eq_true c26
              clear c26
              by_cases c27 : t134 < (l0.length : Int)
              ·
               rw [if_pos c27] at H
               have c27b0 : decide (t134 < (l0.length : Int)) = true := decide_eq_true c27
               clear c27
               by_cases c28 : ((rd_T46 l0 t134).f2).toList = ((rd_T61 l1 x44_3).f1).toList
               ·
                rw [if_pos c28] at H
                have c28b0 : (((rd_T46 l0 t134).f2).toList == ((rd_T61 l1 x44_3).f1).toList) = true := beq_iff_eq.mpr c28
                have c28b1 : (((rd_T46 l0 t134).f2).toList != ((rd_T61 l1 x44_3).f1).toList) = false := bne_eq_false_iff_eq.mpr c28
                clear c28
                by_cases c29 : x132004_3.length + ((rd_T46 l0 t134).f3).length < 5864062014805
                ·
                 rw [if_pos c29] at H
                 have LMc29 := Aside0.mk c29
                 clear c29
                 obtain ⟨y139, hy139⟩ : ∃ y_ : List (S63), y_ = (x132004_3 ++ ((rd_T46 l0 t134).f3)) := ⟨_, rfl⟩
                 replace H : (if x8_3.length < 8796093022208 then ((some (x8_3 ++ [(rd_T46 l0 t134).f2] : List ByteArray)).bind fun y143 => (if x9_3 = true then (parts_Join.l1 k3 l0 l1 y143 true l1 (l1.length : Int) (wrap64 (x44_3 + 1)) 0 false (wrap64 (x132002_3 + ((rd_T46 l0 t134).f1))) (⟨#[]⟩ : ByteArray) y139) else (if x44_3 < (wrap64 ((l1.length : Int) - 1)) then (parts_Join.l1 k3 l0 l1 y143 (decide (((rd_T46 l0 t134).f1) < 64)) l1 (l1.length : Int) (wrap64 (x44_3 + 1)) 0 false (wrap64 (x132002_3 + ((rd_T46 l0 t134).f1))) (⟨#[]⟩ : ByteArray) y139) else (parts_Join.l1 k3 l0 l1 y143 false l1 (l1.length : Int) (wrap64 (x44_3 + 1)) 0 false (wrap64 (x132002_3 + ((rd_T46 l0 t134).f1))) (⟨#[]⟩ : ByteArray) y139)))) else (none)) = some (r1, r2, r3, r4, r5, r6) := by first | (rw [hy139]; with_reducible exact H) | (have H2_ := (Option.bind_some _ _).symm.trans H; rw [hy139]; with_reducible exact H2_) | (have H2_ := (Option.bind_some _ _).symm.trans H; with_reducible exact H2_) | with_reducible exact H | (rw [hy139]; exact H) | exact H
                 have Ny139 := Aside0.mk hy139
                 clear hy139
                 by_cases c30 : x8_3.length < 8796093022208
                 ·
                  rw [if_pos c30] at H
                  have LMc30 := Aside0.mk c30
                  clear c30
                  obtain ⟨y143, hy143⟩ : ∃ y_ : List ByteArray, y_ = (x8_3 ++ [(rd_T46 l0 t134).f2]) := ⟨_, rfl⟩
                  replace H : (if x9_3 = true then (parts_Join.l1 k3 l0 l1 y143 true l1 (l1.length : Int) (wrap64 (x44_3 + 1)) 0 false (wrap64 (x132002_3 + ((rd_T46 l0 t134).f1))) (⟨#[]⟩ : ByteArray) y139) else (if x44_3 < (wrap64 ((l1.length : Int) - 1)) then (parts_Join.l1 k3 l0 l1 y143 (decide (((rd_T46 l0 t134).f1) < 64)) l1 (l1.length : Int) (wrap64 (x44_3 + 1)) 0 false (wrap64 (x132002_3 + ((rd_T46 l0 t134).f1))) (⟨#[]⟩ : ByteArray) y139) else (parts_Join.l1 k3 l0 l1 y143 false l1 (l1.length : Int) (wrap64 (x44_3 + 1)) 0 false (wrap64 (x132002_3 + ((rd_T46 l0 t134).f1))) (⟨#[]⟩ : ByteArray) y139))) = some (r1, r2, r3, r4, r5, r6) := by first | (rw [hy143]; with_reducible exact H) | (have H2_ := (Option.bind_some _ _).symm.trans H; rw [hy143]; with_reducible exact H2_) | (have H2_ := (Option.bind_some _ _).symm.trans H; with_reducible exact H2_) | with_reducible exact H | (rw [hy143]; exact H) | exact H
                  have Ny143 := Aside0.mk hy143
                  clear hy143
                  by_cases c31 : x9_3 = true
                  ·
                   subst c31
                   have H1 : (parts_Join.l1 k3 l0 l1 y143 true l1 (l1.length : Int) (wrap64 (x44_3 + 1)) 0 false (wrap64 (x132002_3 + ((rd_T46 l0 t134).f1))) (⟨#[]⟩ : ByteArray) y139) = some (r1, r2, r3, r4, r5, r6) := by rw [if_pos rfl] at H; exact H
                   clear H
                   have H := H1
                   clear H1
                   have H' := Aside0.mk H
                   clear H
                   have p132 : 0 ≤ (x44_3 : Int) := of_decide_eq_true asm
                   have q132 : x44_3 < (l1.length : Int) := of_decide_eq_true asm
                   obtain ⟨ad132, e132, hx132_0, hx132_1⟩ := at_T61 HR1.out x44_3 p132 q132
                   cases e132
                   replace hx132_0 := bc HB.out hx132_0
                   replace hx132_1 := bc HB.out hx132_1
                   replace p132 := eq_true p132
                   replace q132 := eq_true q132
                   try go_wp2_with (first | ((with_reducible refine gate_dst (N := 11) rfl ?_); (try (refine gate_guard (by rfl) ?_; dsimp only)); refine box_event ?hg (N := 11) ?hd (cs := #[.int .i64 0, .string (⟨#[]⟩ : ByteArray)]) (t := 61) ?hr ?_; (case hd => rfl); (case hg => rfl); (case hr => first | (go_simp; done) | (go_simp; rfl)); intro gb133 hg w32 hbox hb; have n0_ := Aside0.mk (Kd.R_below (kR HO_8.out) hb); have n1_ := Aside0.mk (Kd.R_below (kR HO_132004.out) hb); have n2_ := Aside0.mk (blk_below (g := gb127) (o := .cells #[.int .i64 x128000_3, .bool x128001_3, .int .i64 x128002_3, .string x128003_3, .slice none 0 0] 26 (0, 0)) (bk BK127.out) hb); have n3_ := Aside0.mk (blk_below (g := gb131) (o := .cells #[.int .i64 0, .bool false, .int .i64 x132002_3, .string (⟨#[]⟩ : ByteArray), u132004] 26 (0, 0)) (bk BK131.out) hb); have n4_ := Aside0.mk (below_step (bws HB.out) hb); have n5_ := Aside0.mk (hbox); have n6_ := Aside0.mk ((by rw [hg]; exact (below_size (bws HB.out)) : w.heap.size ≤ gb133)); have n7_ := Aside0.mk ((by rw [hg]; exact (below_size (bws HB.out)) : w.heap.size ≤ gb133)); have n8_ := Aside0.mk ((by rw [hg]; exact Nat.ne_of_lt (blk_lt (g := gb127) (o := .cells #[.int .i64 x128000_3, .bool x128001_3, .int .i64 x128002_3, .string x128003_3, .slice none 0 0] 26 (0, 0)) (bk BK127.out)) : gb127 ≠ gb133)); have n9_ := Aside0.mk ((by rw [hg]; exact Nat.ne_of_gt (blk_lt (g := gb127) (o := .cells #[.int .i64 x128000_3, .bool x128001_3, .int .i64 x128002_3, .string x128003_3, .slice none 0 0] 26 (0, 0)) (bk BK127.out)) : gb133 ≠ gb127)); have n10_ := Aside0.mk ((by rw [hg]; exact Nat.ne_of_lt (blk_lt (g := gb131) (o := .cells #[.int .i64 0, .bool false, .int .i64 x132002_3, .string (⟨#[]⟩ : ByteArray), u132004] 26 (0, 0)) (bk BK131.out)) : gb131 ≠ gb133)); have n11_ := Aside0.mk ((by rw [hg]; exact Nat.ne_of_gt (blk_lt (g := gb131) (o := .cells #[.int .i64 0, .bool false, .int .i64 x132002_3, .string (⟨#[]⟩ : ByteArray), u132004] 26 (0, 0)) (bk BK131.out)) : gb133 ≠ gb131)); clear HO_8; clear HO_132004; clear BK127; clear BK131; clear HB; have HO_8 := n0_; have HO_132004 := n1_; have BK127 := n2_; have BK131 := n3_; have HB := n4_; have BK133 := n5_; have GW133 := n6_; have GE133 := n7_; have NB127_133 := n8_; have NB133_127 := n9_; have NB131_133 := n10_; have NB133_131 := n11_; clear n0_ n1_ n2_ n3_ n4_ n5_ n6_ n7_ n8_ n9_ n10_ n11_; clear hb hbox hg; have hnb33 := NB133_127.out; have hnc33 := NB127_133.out; have hnb34 := NB133_131.out; have hnc34 := NB131_133.out; have hcz35_0 : w32.cell? ⟨gb133, 0, none⟩ = some (.int .i64 0) := (blk_cell BK133.out 0).trans rfl; have hcz35_1 : w32.cell? ⟨gb133, 1, none⟩ = some (.string (⟨#[]⟩ : ByteArray)) := (blk_cell BK133.out 1).trans rfl; have hfz35_0 := blk_frozen BK133.out 0; have hfz35_1 := blk_frozen BK133.out 1) | ((with_reducible refine gate_callee (f := 30) rfl ?_); refine goesL_ (some 53) rfl rfl Tryd.func30 (by kernel_rfl) rfl #[.slice A0 l0.length c0, .int .i64 ((rd_T61 l1 x44_3).f0)] rfl gl ?_; (with_reducible refine (parts_find.calls _ _ l0 ((rd_T61 l1 x44_3).f0) t134 true _ ?side1 ?side2 A24.out).mono ?_); (case side1 => exact Kd.C_below HR0.out (bws HB.out)); (case side2 => exact HC0.out); rintro e w36 ⟨rfl, hb⟩; refine ⟨_, rfl, ?_⟩; replace HO_8 := Aside0.mk (Kd.R_below (by (with_reducible repeat (first | apply Kd.R_alloc | apply Kd.R_drewN | apply Kd.R_drew)); exact (Kd.R_mono (Kd.R_far (p := ⟨gb133, 1, none⟩) (Kd.R_far (p := ⟨gb133, 0, none⟩) (Kd.R_types HO_8.out BK133.out (by decide)) (fun _ hk => hk.2) (.int .i64 ((rd_T61 l1 x44_3).f0))) (fun _ hk => hk.2) (.string ((rd_T61 l1 x44_3).f1))) (fun _ h_ => h_.1))) hb); replace HO_132004 := Aside0.mk (Kd.R_below (by (with_reducible repeat (first | apply Kd.R_alloc | apply Kd.R_drewN | apply Kd.R_drew)); exact (Kd.R_mono (Kd.R_far (p := ⟨gb133, 1, none⟩) (Kd.R_far (p := ⟨gb133, 0, none⟩) (Kd.R_types HO_132004.out BK133.out (by decide)) (fun _ hk => hk.2) (.int .i64 ((rd_T61 l1 x44_3).f0))) (fun _ hk => hk.2) (.string ((rd_T61 l1 x44_3).f1))) (fun _ h_ => h_.1))) hb); replace BK127 := Aside0.mk (blk_below (g := gb127) (o := .cells #[.int .i64 x128000_3, .bool x128001_3, .int .i64 x128002_3, .string x128003_3, .slice none 0 0] 26 (0, 0)) (bkf BK127.out) hb); replace BK131 := Aside0.mk (blk_below (g := gb131) (o := .cells #[.int .i64 0, .bool false, .int .i64 x132002_3, .string (⟨#[]⟩ : ByteArray), u132004] 26 (0, 0)) (bkf BK131.out) hb); replace BK133 := Aside0.mk (blk_below (g := gb133) (o := .cells #[.int .i64 ((rd_T61 l1 x44_3).f0), .string ((rd_T61 l1 x44_3).f1)] 61 (0, 0)) (bkp BK133.out) hb); replace HB := Aside0.mk (below_step (bws HB.out) hb); (try clear hb); (try clear hb2); (try clear hk); (try clear hi)))
                   replace HO_8 := Aside0.mk (Kd.R_drew HO_8.out)
                   replace HO_132004 := Aside0.mk (Kd.R_drew HO_132004.out)
                   replace BK127 := Aside0.mk (blk_drew BK127.out)
                   replace BK131 := Aside0.mk (blk_drew BK131.out)
                   replace BK133 := Aside0.mk (blk_drew BK133.out)
                   replace HB := Aside0.mk (below_drew1 HB.out)
                   have p136 : 0 ≤ (t134 : Int) := of_decide_eq_true asm
                   have q136 : t134 < (l0.length : Int) := of_decide_eq_true asm
                   obtain ⟨ad136, A136_3, c136_3, e136, hx136_0, hx136_1, hx136_2, hx136_3, hl136_3, hi136_3⟩ := at_T46 HR0.out t134 p136 q136
                   have hw136_3 := hx136_3
                   have hw136_2 := hx136_2
                   have hw136_1 := hx136_1
                   have hw136_0 := hx136_0
                   cases e136
                   replace hx136_0 := bc HB.out hx136_0
                   replace hx136_1 := bc HB.out hx136_1
                   replace hx136_2 := bc HB.out hx136_2
                   replace hx136_3 := bc HB.out hx136_3
                   have HR136_3 := Aside0.mk hi136_3
                   have HC136_3 := Aside0.mk hl136_3
                   clear hi136_3 hl136_3
                   replace p136 := eq_true p136
                   replace q136 := eq_true q136
                   refine start_ (n := 12) (S := fun w' => w'.cell? ⟨gb133, 0, none⟩ = some (.int .i64 ((rd_T61 l1 x44_3).f0)) ∧ w'.cell? ⟨gb133, 1, none⟩ = some (.string ((rd_T61 l1 x44_3).f1)) ∧ w'.cell? (ad136.add ((t134).toNat * 4)) = some (.int .i64 ((rd_T46 l0 t134).f0)) ∧ w'.cell? ⟨(ad136.add ((t134).toNat * 4)).block, (ad136.add ((t134).toNat * 4)).off + 1, none⟩ = some (.int .i64 ((rd_T46 l0 t134).f1)) ∧ w'.cell? ⟨(ad136.add ((t134).toNat * 4)).block, (ad136.add ((t134).toNat * 4)).off + 2, none⟩ = some (.string ((rd_T46 l0 t134).f2)) ∧ w'.cell? ⟨(ad136.add ((t134).toNat * 4)).block, (ad136.add ((t134).toNat * 4)).off + 3, none⟩ = some (.slice A136_3 ((rd_T46 l0 t134).f3).length c136_3)) (ds := []) #[false, false, false, false, false, false, false, false, false, false, false, false] (by kernel_rfl) rfl rfl ⟨(blk_cell BK133.out 0).trans rfl, (blk_cell BK133.out 1).trans rfl, (bc HB.out hw136_0), (bc HB.out hw136_1), (bc HB.out hw136_2), (bc HB.out hw136_3)⟩ (fun hHeld => ?_); refine with_tabW parts_Join.tab15 parts_Join.bits15 (fun HT_ HW_ => ?_)
                   generalize w36.drew = w37 at HO_8 HO_132004 BK127 BK131 BK133 HB HR136_3 hx136_0 hx136_1 hx136_2 hx136_3 hHeld ⊢
                   refine pu 0 (some 56) HT_.out ?_
                   refine pu 1 (some 57) HT_.out ?_
                   refine pu 2 (some 58) HT_.out ?_
                   refine pu 3 (some 59) HT_.out ?_
                   refine pu 4 (some 60) HT_.out ?_
                   refine pu 5 (some 61) HT_.out ?_
                   refine pu 6 (some 62) HT_.out ?_
                   refine pu 8 (some 64) HT_.out ?_
                   refine tk 7 (some 63) HT_.out HW_.out hHeld ?_
                   refine tk 9 (some 65) HT_.out HW_.out hHeld ?_
                   refine pu 10 (some 66) HT_.out ?_
                   refine pu 11 (some 67) HT_.out ?_
                   refine done_ (done_of HT_.out (by kernel_rfl)) ?_
                   try go_wp2
                   replace HO_8 := Aside0.mk (Kd.R_drew HO_8.out)
                   replace HO_132004 := Aside0.mk (Kd.R_drew HO_132004.out)
                   replace BK127 := Aside0.mk (blk_drew BK127.out)
                   replace BK131 := Aside0.mk (blk_drew BK131.out)
                   replace BK133 := Aside0.mk (blk_drew BK133.out)
                   replace HB := Aside0.mk (below_drew1 HB.out)
                   have p137 : 0 ≤ (t134 : Int) := of_decide_eq_true asm
                   have q137 : t134 < (l0.length : Int) := of_decide_eq_true asm
                   obtain ⟨ad137, A137_3, c137_3, e137, hx137_0, hx137_1, hx137_2, hx137_3, hl137_3, hi137_3⟩ := at_T46 HR0.out t134 p137 q137
                   have hw137_3 := hx137_3
                   have hw137_2 := hx137_2
                   have hw137_1 := hx137_1
                   have hw137_0 := hx137_0
                   obtain rfl : ad136 = ad137 := (by injection e137)
                   replace hx137_0 := bc HB.out hx137_0
                   replace hx137_1 := bc HB.out hx137_1
                   replace hx137_2 := bc HB.out hx137_2
                   replace hx137_3 := bc HB.out hx137_3
                   have HR137_3 := Aside0.mk hi137_3
                   have HC137_3 := Aside0.mk hl137_3
                   clear hi137_3 hl137_3
                   replace p137 := eq_true p137
                   replace q137 := eq_true q137
                   refine start_ (n := 10) (S := fun w' => w'.cell? ⟨gb131, 0, none⟩ = some (.int .i64 0) ∧ w'.cell? ⟨gb131, 1, none⟩ = some (.bool false) ∧ w'.cell? ⟨gb131, 2, none⟩ = some (.int .i64 x132002_3) ∧ w'.cell? ⟨gb131, 3, none⟩ = some (.string (⟨#[]⟩ : ByteArray)) ∧ w'.cell? ⟨gb131, 4, none⟩ = some (u132004) ∧ w'.cell? (ad136.add ((t134).toNat * 4)) = some (.int .i64 ((rd_T46 l0 t134).f0)) ∧ w'.cell? ⟨(ad136.add ((t134).toNat * 4)).block, (ad136.add ((t134).toNat * 4)).off + 1, none⟩ = some (.int .i64 ((rd_T46 l0 t134).f1)) ∧ w'.cell? ⟨(ad136.add ((t134).toNat * 4)).block, (ad136.add ((t134).toNat * 4)).off + 2, none⟩ = some (.string ((rd_T46 l0 t134).f2)) ∧ w'.cell? ⟨(ad136.add ((t134).toNat * 4)).block, (ad136.add ((t134).toNat * 4)).off + 3, none⟩ = some (.slice A137_3 ((rd_T46 l0 t134).f3).length c137_3)) (ds := [9]) #[false, false, false, false, false, false, false, false, false, false] (by kernel_rfl) rfl rfl ⟨(blk_cell BK131.out 0).trans rfl, (blk_cell BK131.out 1).trans rfl, (blk_cell BK131.out 2).trans rfl, (blk_cell BK131.out 3).trans rfl, (blk_cell BK131.out 4).trans rfl, (bc HB.out hw137_0), (bc HB.out hw137_1), (bc HB.out hw137_2), (bc HB.out hw137_3)⟩ (fun hHeld => ?_); refine with_tabW parts_Join.tab17 parts_Join.bits17 (fun HT_ HW_ => ?_)
                   generalize w37.drew = w38 at HO_8 HO_132004 BK127 BK131 BK133 HB HR137_3 hx137_0 hx137_1 hx137_2 hx137_3 hHeld ⊢
                   refine pu 0 (some 69) HT_.out ?_
                   refine pu 2 (some 71) HT_.out ?_
                   refine pu 3 (some 72) HT_.out ?_
                   refine pu 4 (some 73) HT_.out ?_
                   refine pu 5 (some 74) HT_.out ?_
                   refine tk 1 (some 70) HT_.out HW_.out hHeld ?_
                   refine tk 6 (some 75) HT_.out HW_.out hHeld ?_
                   refine pu 7 (some 76) HT_.out ?_
                   refine pu 8 (some 77) HT_.out ?_
                   refine last_ (i := 9) (N := none) #[true, true, true, true, true, true, true, true, true, true] rfl rfl (one_of HT_.out (by kernel_rfl)) (by decide) (fun K hK => ?_)
                   have hs39 : w38.cell? ⟨gb131, 2, none⟩ = some (.int .i64 x132002_3) := (blk_cell BK131.out 2).trans rfl
                   have hfs39 := blk_frozen BK131.out 2
                   have hns39_0 := NB127_131.out
                   have hns39_2 := NB133_131.out
                   have hms39_0 := NB131_127.out
                   have hms39_2 := NB131_133.out
                   refine skip_ (w1 := ?_) (by rfl) rfl ?_ ?_
                   rotate_left
                   ·
                    go_simp
                    rfl
                   refine hK.out _ _ ?_
                   clear hK K
                   refine done_ (done_of HT_.out (by kernel_rfl)) ?_
                   try go_wp2
                   have n0_ : Aside0 (Kd.R Kd.string 9 (w38.setCell ⟨gb131, 2, none⟩ (.int .i64 (wrap64 (x132002_3 + ((rd_T46 l0 t134).f1))))) w.heap.size (fun _ => True) u8 x8_3) := ⟨by (with_reducible repeat (first | apply Kd.R_alloc | apply Kd.R_drewN | apply Kd.R_drew)); exact Kd.R_mono (Kd.R_far (p := ⟨gb131, 2, none⟩) (Kd.R_types HO_8.out BK131.out (by decide)) (fun _ hk => hk.2) (.int .i64 (wrap64 (x132002_3 + ((rd_T46 l0 t134).f1))))) (fun _ hk => trivial)⟩
                   have n1_ : Aside0 (Kd.R k63 63 (w38.setCell ⟨gb131, 2, none⟩ (.int .i64 (wrap64 (x132002_3 + ((rd_T46 l0 t134).f1))))) w.heap.size (fun _ => True) u132004 x132004_3) := ⟨by (with_reducible repeat (first | apply Kd.R_alloc | apply Kd.R_drewN | apply Kd.R_drew)); exact Kd.R_mono (Kd.R_far (p := ⟨gb131, 2, none⟩) (Kd.R_types HO_132004.out BK131.out (by decide)) (fun _ hk => hk.2) (.int .i64 (wrap64 (x132002_3 + ((rd_T46 l0 t134).f1))))) (fun _ hk => trivial)⟩
                   have n2_ : Aside0 ((w38.setCell ⟨gb131, 2, none⟩ (.int .i64 (wrap64 (x132002_3 + ((rd_T46 l0 t134).f1))))).heap[gb127]? = some (.cells #[.int .i64 x128000_3, .bool x128001_3, .int .i64 x128002_3, .string x128003_3, .slice none 0 0] 26 (0, 0))) := ⟨bkf BK127.out⟩
                   have n3_ : Aside0 ((w38.setCell ⟨gb131, 2, none⟩ (.int .i64 (wrap64 (x132002_3 + ((rd_T46 l0 t134).f1))))).heap[gb131]? = some (.cells #[.int .i64 0, .bool false, .int .i64 (wrap64 (x132002_3 + ((rd_T46 l0 t134).f1))), .string (⟨#[]⟩ : ByteArray), u132004] 26 (0, 0))) := ⟨bkp BK131.out⟩
                   have n4_ : Aside0 ((w38.setCell ⟨gb131, 2, none⟩ (.int .i64 (wrap64 (x132002_3 + ((rd_T46 l0 t134).f1))))).heap[gb133]? = some (.cells #[.int .i64 ((rd_T61 l1 x44_3).f0), .string ((rd_T61 l1 x44_3).f1)] 61 (0, 0))) := ⟨bkf BK133.out⟩
                   have n5_ : Aside0 (Below w.heap.size w (w38.setCell ⟨gb131, 2, none⟩ (.int .i64 (wrap64 (x132002_3 + ((rd_T46 l0 t134).f1)))))) := ⟨bws HB.out⟩
                   (try clear HO_8)
                   (try clear HO_132004)
                   (try clear BK127)
                   (try clear BK131)
                   (try clear BK133)
                   (try clear HB)
                   generalize (w38.setCell ⟨gb131, 2, none⟩ (.int .i64 (wrap64 (x132002_3 + ((rd_T46 l0 t134).f1))))) = w40 at n0_ n1_ n2_ n3_ n4_ n5_ ⊢
                   have HO_8 := n0_
                   have HO_132004 := n1_
                   have BK127 := n2_
                   have BK131 := n3_
                   have BK133 := n4_
                   have HB := n5_
                   clear n0_ n1_ n2_ n3_ n4_ n5_
                   replace HO_8 := Aside0.mk (Kd.R_drew HO_8.out)
                   replace HO_132004 := Aside0.mk (Kd.R_drew HO_132004.out)
                   replace BK127 := Aside0.mk (blk_drew BK127.out)
                   replace BK131 := Aside0.mk (blk_drew BK131.out)
                   replace BK133 := Aside0.mk (blk_drew BK133.out)
                   replace HB := Aside0.mk (below_drew1 HB.out)
                   have p138 : 0 ≤ (t134 : Int) := of_decide_eq_true asm
                   have q138 : t134 < (l0.length : Int) := of_decide_eq_true asm
                   obtain ⟨ad138, A138_3, c138_3, e138, hx138_0, hx138_1, hx138_2, hx138_3, hl138_3, hi138_3⟩ := at_T46 HR0.out t134 p138 q138
                   have hw138_3 := hx138_3
                   have hw138_2 := hx138_2
                   have hw138_1 := hx138_1
                   have hw138_0 := hx138_0
                   obtain rfl : ad136 = ad138 := (by injection e138)
                   replace hx138_0 := bc HB.out hx138_0
                   replace hx138_1 := bc HB.out hx138_1
                   replace hx138_2 := bc HB.out hx138_2
                   replace hx138_3 := bc HB.out hx138_3
                   have HR138_3 := Aside0.mk hi138_3
                   have HC138_3 := Aside0.mk hl138_3
                   clear hi138_3 hl138_3
                   replace p138 := eq_true p138
                   replace q138 := eq_true q138
                   refine start_ (n := 10) (S := fun w' => w'.cell? ⟨gb131, 0, none⟩ = some (.int .i64 0) ∧ w'.cell? ⟨gb131, 1, none⟩ = some (.bool false) ∧ w'.cell? ⟨gb131, 2, none⟩ = some (.int .i64 (wrap64 (x132002_3 + ((rd_T46 l0 t134).f1)))) ∧ w'.cell? ⟨gb131, 3, none⟩ = some (.string (⟨#[]⟩ : ByteArray)) ∧ w'.cell? ⟨gb131, 4, none⟩ = some (u132004) ∧ w'.cell? (ad136.add ((t134).toNat * 4)) = some (.int .i64 ((rd_T46 l0 t134).f0)) ∧ w'.cell? ⟨(ad136.add ((t134).toNat * 4)).block, (ad136.add ((t134).toNat * 4)).off + 1, none⟩ = some (.int .i64 ((rd_T46 l0 t134).f1)) ∧ w'.cell? ⟨(ad136.add ((t134).toNat * 4)).block, (ad136.add ((t134).toNat * 4)).off + 2, none⟩ = some (.string ((rd_T46 l0 t134).f2)) ∧ w'.cell? ⟨(ad136.add ((t134).toNat * 4)).block, (ad136.add ((t134).toNat * 4)).off + 3, none⟩ = some (.slice A138_3 ((rd_T46 l0 t134).f3).length c138_3)) (ds := [9]) #[false, false, false, false, false, false, false, false, false, false] (by kernel_rfl) rfl rfl ⟨(blk_cell BK131.out 0).trans rfl, (blk_cell BK131.out 1).trans rfl, (blk_cell BK131.out 2).trans rfl, (blk_cell BK131.out 3).trans rfl, (blk_cell BK131.out 4).trans rfl, (bc HB.out hw138_0), (bc HB.out hw138_1), (bc HB.out hw138_2), (bc HB.out hw138_3)⟩ (fun hHeld => ?_); refine with_tabW parts_Join.tab18 parts_Join.bits18 (fun HT_ HW_ => ?_)
                   generalize w40.drew = w41 at HO_8 HO_132004 BK127 BK131 BK133 HB HR138_3 hx138_0 hx138_1 hx138_2 hx138_3 hHeld ⊢
                   refine pu 0 (some 78) HT_.out ?_
                   refine pu 2 (some 80) HT_.out ?_
                   refine pu 3 (some 81) HT_.out ?_
                   refine pu 4 (some 82) HT_.out ?_
                   refine pu 5 (some 83) HT_.out ?_
                   refine tk 1 (some 79) HT_.out HW_.out hHeld ?_
                   refine tk 6 (some 84) HT_.out HW_.out hHeld ?_
                   refine one_ (i := 7) (N := some 85) #[true, true, true, true, true, true, true, true, false, false] rfl rfl (one_of HT_.out (by kernel_rfl)) (by decide) (fun K hK => ?_)
                   refine Kd.R_append_rows_step k63 (w0 := w) w.heap.size (by rfl) (.tmp 79) (.tmp 84) 24 63 (.agg #[(.string ⟨#[]⟩), (.int .i64 0)]) 24 rfl Tryd.underlying24 info63 rfl (by decide) (by omega) u132004 x132004_3 ((rd_T46 l0 t134).f3) _ _ _ (fun _ => True) (fun _ => False) rfl rfl ?aO ?aR (fun _ _ h => h) (fun _ h => h.elim) ?aF ?aB ?aS ?aL ?_
                   (case aR => exact kC (Kd.C_below HR138_3.out HB.out))
                   (case aB => exact (bws HB.out))
                   (case aF => exact (fun _ _ => trivial))
                   (case aO => exact (kR HO_132004.out))
                   (case aS => exact (below_size (bws HB.out)))
                   (case aL => have := LMc29.out; omega)
                   intro v140 w42 ho hb hg hat
                   rw [← Ny139.out] at ho
                   have n0_ := Aside0.mk (Kd.R_over' (kR HO_8.out) (Kd.R_typed (kR HO_132004.out)) (by decide) hg)
                   have n1_ := Aside0.mk (blk_grown (g := gb127) (o := .cells #[.int .i64 x128000_3, .bool x128001_3, .int .i64 x128002_3, .string x128003_3, .slice none 0 0] 26 (0, 0)) (bk BK127.out) hg (Kd.R_ne HO_132004.out BK127.out (by decide)))
                   have n2_ := Aside0.mk (blk_grown (g := gb131) (o := .cells #[.int .i64 0, .bool false, .int .i64 (wrap64 (x132002_3 + ((rd_T46 l0 t134).f1))), .string (⟨#[]⟩ : ByteArray), u132004] 26 (0, 0)) (bk BK131.out) hg (Kd.R_ne HO_132004.out BK131.out (by decide)))
                   have n3_ := Aside0.mk (blk_grown (g := gb133) (o := .cells #[.int .i64 ((rd_T61 l1 x44_3).f0), .string ((rd_T61 l1 x44_3).f1)] 61 (0, 0)) (bk BK133.out) hg (Kd.R_ne HO_132004.out BK133.out (by decide)))
                   have n4_ := Aside0.mk (hb)
                   have n5_ := Aside0.mk (ho)
                   clear HO_8
                   clear BK127
                   clear BK131
                   clear BK133
                   clear HB
                   clear HO_132004
                   have HO_8 := n0_
                   have BK127 := n1_
                   have BK131 := n2_
                   have BK133 := n3_
                   have HB := n4_
                   have HO141 := n5_
                   clear n0_ n1_ n2_ n3_ n4_ n5_
                   clear ho hb hg hat
                   obtain ⟨Ao43, co43, eo43⟩ := Kd.R_slice HO141.out
                   (first | subst eo43 | (injection eo43 with f1_ f2_ f3_; have f4_ := f1_.symm; have f5_ := f3_.symm; clear f1_ f2_ f3_; subst f4_; subst f5_))
                   refine hK.out _ _ ⟨(blk_cell BK131.out 0).trans rfl, (blk_cell BK131.out 1).trans rfl, (blk_cell BK131.out 2).trans rfl, (blk_cell BK131.out 3).trans rfl, (blk_cell BK131.out 4).trans rfl, (bc HB.out hw138_0), (bc HB.out hw138_1), (bc HB.out hw138_2), (bc HB.out hw138_3)⟩ (fun hHeld => ?_)
                   clear hK K
                   refine norm_ (a' := ?_) ?_ ?_
                   rotate_left
                   ·
                    show Act.put _ (some 85) _ = _
                    simp only [Act.put, List.setIfInBounds_toArray, List.set_cons_zero, List.set_cons_succ, i64_w, i32_w]
                    rfl
                   refine pu 8 (some 86) HT_.out ?_
                   refine last_ (i := 9) (N := none) #[true, true, true, true, true, true, true, true, true, true] rfl rfl (one_of HT_.out (by kernel_rfl)) (by decide) (fun K hK => ?_)
                   have hs44 : w42.cell? ⟨gb131, 4, none⟩ = some (u132004) := (blk_cell BK131.out 4).trans rfl
                   have hfs44 := blk_frozen BK131.out 4
                   have hns44_0 := NB127_131.out
                   have hns44_2 := NB133_131.out
                   have hms44_0 := NB131_127.out
                   have hms44_2 := NB131_133.out
                   refine skip_ (w1 := ?_) (by rfl) rfl ?_ ?_
                   rotate_left
                   ·
                    go_simp
                    rfl
                   refine hK.out _ _ ?_
                   clear hK K
                   refine done_ (done_of HT_.out (by kernel_rfl)) ?_
                   have p142 : 0 ≤ (t134 : Int) := of_decide_eq_true asm
                   have q142 : t134 < (l0.length : Int) := of_decide_eq_true asm
                   obtain ⟨ad142, A142_3, c142_3, e142, hx142_0, hx142_1, hx142_2, hx142_3, hl142_3, hi142_3⟩ := at_T46 HR0.out t134 p142 q142
                   obtain rfl : ad136 = ad142 := (by injection e142)
                   have hn142_0 : ad136.block ≠ gb131 := Nat.ne_of_lt (Nat.lt_of_lt_of_le (by have := World.block_lt_of_cell? _ _ hx142_0; first | rwa [add_block] at this | exact this) GW131.out)
                   replace hx142_0 := bc HB.out hx142_0
                   replace hx142_1 := bc HB.out hx142_1
                   replace hx142_2 := bc HB.out hx142_2
                   replace hx142_3 := bc HB.out hx142_3
                   have HR142_3 := Aside0.mk hi142_3
                   have HC142_3 := Aside0.mk hl142_3
                   clear hi142_3 hl142_3
                   replace hx142_0 := (cell_far (p := ⟨gb131, 4, none⟩) (by first | (rw [add_block]; exact hn142_0) | (show (Addr.add _ _).block ≠ _; rw [add_block]; exact hn142_0) | exact hn142_0) (.slice Ao43 y139.length co43)).trans hx142_0
                   replace hx142_1 := (cell_far (p := ⟨gb131, 4, none⟩) (by first | (rw [add_block]; exact hn142_0) | (show (Addr.add _ _).block ≠ _; rw [add_block]; exact hn142_0) | exact hn142_0) (.slice Ao43 y139.length co43)).trans hx142_1
                   replace hx142_2 := (cell_far (p := ⟨gb131, 4, none⟩) (by first | (rw [add_block]; exact hn142_0) | (show (Addr.add _ _).block ≠ _; rw [add_block]; exact hn142_0) | exact hn142_0) (.slice Ao43 y139.length co43)).trans hx142_2
                   replace hx142_3 := (cell_far (p := ⟨gb131, 4, none⟩) (by first | (rw [add_block]; exact hn142_0) | (show (Addr.add _ _).block ≠ _; rw [add_block]; exact hn142_0) | exact hn142_0) (.slice Ao43 y139.length co43)).trans hx142_3
                   clear hn142_0
                   replace p142 := eq_true p142
                   replace q142 := eq_true q142
                   try go_wp2_with (first | ((with_reducible refine gate_builtin (b := .append) (xs := #[.tmp 87, .tmp 93]) rfl ?_); (try (refine gate_guard (by rfl) ?_; dsimp only)); at_builtin; refine Kd.R_append Kd.string (w0 := w) w.heap.size rfl (.tmp 87) (.tmp 93) 56 9 (.string ⟨#[]⟩) 16 rfl Tryd.underlying56 info9 rfl (by decide) (by omega) u8 x8_3 ((rd_T46 l0 t134).f2) [.string ((rd_T46 l0 t134).f2)] (fun _ => True) (fun _ => False) rfl (by first | (go_simp; done) | (go_simp; rfl)) ?aP (fun _ hk => hk.elim) ?aF ?aO ?aB ?aS ?aL ?_; (case aP => exact rfl); (case aB => exact (bws HB.out)); (case aF => exact (fun _ _ => trivial)); (case aO => exact (by (with_reducible repeat (first | apply Kd.R_alloc | apply Kd.R_drewN | apply Kd.R_drew)); exact Kd.R_mono (Kd.R_far (p := ⟨gb131, 4, none⟩) (Kd.R_types HO_8.out BK131.out (by decide)) (fun _ hk => hk.2) (.slice Ao43 y139.length co43)) (fun _ hk => trivial))); (case aS => exact (below_size (bws HB.out))); (case aL => have := LMc30.out; omega); intro v144 w45 ho hb hg hat; rw [← Ny143.out] at ho; have n0_ := Aside0.mk (blk_grown (g := gb127) (o := .cells #[.int .i64 x128000_3, .bool x128001_3, .int .i64 x128002_3, .string x128003_3, .slice none 0 0] 26 (0, 0)) (bkf BK127.out) hg (Kd.R_ne HO_8.out BK127.out (by decide))); have n1_ := Aside0.mk (blk_grown (g := gb131) (o := .cells #[.int .i64 0, .bool false, .int .i64 (wrap64 (x132002_3 + ((rd_T46 l0 t134).f1))), .string (⟨#[]⟩ : ByteArray), .slice Ao43 y139.length co43] 26 (0, 0)) (bkp BK131.out) hg (Kd.R_ne HO_8.out BK131.out (by decide))); have n2_ := Aside0.mk (blk_grown (g := gb133) (o := .cells #[.int .i64 ((rd_T61 l1 x44_3).f0), .string ((rd_T61 l1 x44_3).f1)] 61 (0, 0)) (bkf BK133.out) hg (Kd.R_ne HO_8.out BK133.out (by decide))); have n3_ := Aside0.mk (Kd.R_over' (by (with_reducible repeat (first | apply Kd.R_alloc | apply Kd.R_drewN | apply Kd.R_drew)); exact (Kd.R_mono (Kd.R_far (p := ⟨gb131, 4, none⟩) (Kd.R_types HO141.out BK131.out (by decide)) (fun _ hk => hk.2) (.slice Ao43 y139.length co43)) (fun _ h_ => h_.1))) (Kd.R_typed (by (with_reducible repeat (first | apply Kd.R_alloc | apply Kd.R_drewN | apply Kd.R_drew)); exact (Kd.R_mono (Kd.R_far (p := ⟨gb131, 4, none⟩) (Kd.R_types HO_8.out BK131.out (by decide)) (fun _ hk => hk.2) (.slice Ao43 y139.length co43)) (fun _ h_ => h_.1)))) (by decide) hg); have n4_ := Aside0.mk (hb); have n5_ := Aside0.mk (ho); clear BK127; clear BK131; clear BK133; clear HO141; clear HB; clear HO_8; have BK127 := n0_; have BK131 := n1_; have BK133 := n2_; have HO141 := n3_; have HB := n4_; have HO145 := n5_; clear n0_ n1_ n2_ n3_ n4_ n5_; clear ho hb hg hat))
                   go_roundg k3
                   case measure => have := HJ2.out; have := HK2.out; have := HK3.out; omega
                   case rel => exact ⟨(y143), (true), (wrap64 (x44_3 + 1)), (x128000_3), (x128001_3), (x128002_3), (x128003_3), (wrap64 (x132002_3 + ((rd_T46 l0 t134).f1))), (y139), (.slice Ao43 y139.length co43), (by first | rfl | (simp; done) | (simp [*]; done)), (by first | rfl | (simp; done) | (simp [*]; done)), H', ⟨by have := HJ2.out; have := HK2.out; have := HK3.out; omega⟩, ⟨kR HO145.out⟩, ⟨kR HO141.out⟩, ⟨bk BK127.out⟩, ⟨bk BK131.out⟩, ⟨bws HB.out⟩⟩
                  ·
                   replace c31 := Bool.eq_false_iff.mpr c31
                   subst c31
                   have H1 : (if x44_3 < (wrap64 ((l1.length : Int) - 1)) then (parts_Join.l1 k3 l0 l1 y143 (decide (((rd_T46 l0 t134).f1) < 64)) l1 (l1.length : Int) (wrap64 (x44_3 + 1)) 0 false (wrap64 (x132002_3 + ((rd_T46 l0 t134).f1))) (⟨#[]⟩ : ByteArray) y139) else (parts_Join.l1 k3 l0 l1 y143 false l1 (l1.length : Int) (wrap64 (x44_3 + 1)) 0 false (wrap64 (x132002_3 + ((rd_T46 l0 t134).f1))) (⟨#[]⟩ : ByteArray) y139)) = some (r1, r2, r3, r4, r5, r6) := by rw [if_neg (show ¬ (false = true) by decide)] at H; exact H
                   clear H
                   have H := H1
                   clear H1
                   by_cases c46 : x44_3 < (wrap64 ((l1.length : Int) - 1))
                   ·
                    rw [if_pos c46] at H
                    have c46b0 : decide (x44_3 < (wrap64 ((l1.length : Int) - 1))) = true := decide_eq_true c46
                    clear c46
                    have H' := Aside0.mk H
                    clear H
                    have p132 : 0 ≤ (x44_3 : Int) := of_decide_eq_true asm
                    have q132 : x44_3 < (l1.length : Int) := of_decide_eq_true asm
                    obtain ⟨ad132, e132, hx132_0, hx132_1⟩ := at_T61 HR1.out x44_3 p132 q132
                    cases e132
                    replace hx132_0 := bc HB.out hx132_0
                    replace hx132_1 := bc HB.out hx132_1
                    replace p132 := eq_true p132
                    replace q132 := eq_true q132
                    try go_wp2_with (first | ((with_reducible refine gate_dst (N := 11) rfl ?_); (try (refine gate_guard (by rfl) ?_; dsimp only)); refine box_event ?hg (N := 11) ?hd (cs := #[.int .i64 0, .string (⟨#[]⟩ : ByteArray)]) (t := 61) ?hr ?_; (case hd => rfl); (case hg => rfl); (case hr => first | (go_simp; done) | (go_simp; rfl)); intro gb133 hg w47 hbox hb; have n0_ := Aside0.mk (Kd.R_below (kR HO_8.out) hb); have n1_ := Aside0.mk (Kd.R_below (kR HO_132004.out) hb); have n2_ := Aside0.mk (blk_below (g := gb127) (o := .cells #[.int .i64 x128000_3, .bool x128001_3, .int .i64 x128002_3, .string x128003_3, .slice none 0 0] 26 (0, 0)) (bk BK127.out) hb); have n3_ := Aside0.mk (blk_below (g := gb131) (o := .cells #[.int .i64 0, .bool false, .int .i64 x132002_3, .string (⟨#[]⟩ : ByteArray), u132004] 26 (0, 0)) (bk BK131.out) hb); have n4_ := Aside0.mk (below_step (bws HB.out) hb); have n5_ := Aside0.mk (hbox); have n6_ := Aside0.mk ((by rw [hg]; exact (below_size (bws HB.out)) : w.heap.size ≤ gb133)); have n7_ := Aside0.mk ((by rw [hg]; exact (below_size (bws HB.out)) : w.heap.size ≤ gb133)); have n8_ := Aside0.mk ((by rw [hg]; exact Nat.ne_of_lt (blk_lt (g := gb127) (o := .cells #[.int .i64 x128000_3, .bool x128001_3, .int .i64 x128002_3, .string x128003_3, .slice none 0 0] 26 (0, 0)) (bk BK127.out)) : gb127 ≠ gb133)); have n9_ := Aside0.mk ((by rw [hg]; exact Nat.ne_of_gt (blk_lt (g := gb127) (o := .cells #[.int .i64 x128000_3, .bool x128001_3, .int .i64 x128002_3, .string x128003_3, .slice none 0 0] 26 (0, 0)) (bk BK127.out)) : gb133 ≠ gb127)); have n10_ := Aside0.mk ((by rw [hg]; exact Nat.ne_of_lt (blk_lt (g := gb131) (o := .cells #[.int .i64 0, .bool false, .int .i64 x132002_3, .string (⟨#[]⟩ : ByteArray), u132004] 26 (0, 0)) (bk BK131.out)) : gb131 ≠ gb133)); have n11_ := Aside0.mk ((by rw [hg]; exact Nat.ne_of_gt (blk_lt (g := gb131) (o := .cells #[.int .i64 0, .bool false, .int .i64 x132002_3, .string (⟨#[]⟩ : ByteArray), u132004] 26 (0, 0)) (bk BK131.out)) : gb133 ≠ gb131)); clear HO_8; clear HO_132004; clear BK127; clear BK131; clear HB; have HO_8 := n0_; have HO_132004 := n1_; have BK127 := n2_; have BK131 := n3_; have HB := n4_; have BK133 := n5_; have GW133 := n6_; have GE133 := n7_; have NB127_133 := n8_; have NB133_127 := n9_; have NB131_133 := n10_; have NB133_131 := n11_; clear n0_ n1_ n2_ n3_ n4_ n5_ n6_ n7_ n8_ n9_ n10_ n11_; clear hb hbox hg; have hnb48 := NB133_127.out; have hnc48 := NB127_133.out; have hnb49 := NB133_131.out; have hnc49 := NB131_133.out; have hcz50_0 : w47.cell? ⟨gb133, 0, none⟩ = some (.int .i64 0) := (blk_cell BK133.out 0).trans rfl; have hcz50_1 : w47.cell? ⟨gb133, 1, none⟩ = some (.string (⟨#[]⟩ : ByteArray)) := (blk_cell BK133.out 1).trans rfl; have hfz50_0 := blk_frozen BK133.out 0; have hfz50_1 := blk_frozen BK133.out 1) | ((with_reducible refine gate_callee (f := 30) rfl ?_); refine goesL_ (some 53) rfl rfl Tryd.func30 (by kernel_rfl) rfl #[.slice A0 l0.length c0, .int .i64 ((rd_T61 l1 x44_3).f0)] rfl gl ?_; (with_reducible refine (parts_find.calls _ _ l0 ((rd_T61 l1 x44_3).f0) t134 true _ ?side1 ?side2 A24.out).mono ?_); (case side1 => exact Kd.C_below HR0.out (bws HB.out)); (case side2 => exact HC0.out); rintro e w51 ⟨rfl, hb⟩; refine ⟨_, rfl, ?_⟩; replace HO_8 := Aside0.mk (Kd.R_below (by (with_reducible repeat (first | apply Kd.R_alloc | apply Kd.R_drewN | apply Kd.R_drew)); exact (Kd.R_mono (Kd.R_far (p := ⟨gb133, 1, none⟩) (Kd.R_far (p := ⟨gb133, 0, none⟩) (Kd.R_types HO_8.out BK133.out (by decide)) (fun _ hk => hk.2) (.int .i64 ((rd_T61 l1 x44_3).f0))) (fun _ hk => hk.2) (.string ((rd_T61 l1 x44_3).f1))) (fun _ h_ => h_.1))) hb); replace HO_132004 := Aside0.mk (Kd.R_below (by (with_reducible repeat (first | apply Kd.R_alloc | apply Kd.R_drewN | apply Kd.R_drew)); exact (Kd.R_mono (Kd.R_far (p := ⟨gb133, 1, none⟩) (Kd.R_far (p := ⟨gb133, 0, none⟩) (Kd.R_types HO_132004.out BK133.out (by decide)) (fun _ hk => hk.2) (.int .i64 ((rd_T61 l1 x44_3).f0))) (fun _ hk => hk.2) (.string ((rd_T61 l1 x44_3).f1))) (fun _ h_ => h_.1))) hb); replace BK127 := Aside0.mk (blk_below (g := gb127) (o := .cells #[.int .i64 x128000_3, .bool x128001_3, .int .i64 x128002_3, .string x128003_3, .slice none 0 0] 26 (0, 0)) (bkf BK127.out) hb); replace BK131 := Aside0.mk (blk_below (g := gb131) (o := .cells #[.int .i64 0, .bool false, .int .i64 x132002_3, .string (⟨#[]⟩ : ByteArray), u132004] 26 (0, 0)) (bkf BK131.out) hb); replace BK133 := Aside0.mk (blk_below (g := gb133) (o := .cells #[.int .i64 ((rd_T61 l1 x44_3).f0), .string ((rd_T61 l1 x44_3).f1)] 61 (0, 0)) (bkp BK133.out) hb); replace HB := Aside0.mk (below_step (bws HB.out) hb); (try clear hb); (try clear hb2); (try clear hk); (try clear hi)))
                    replace HO_8 := Aside0.mk (Kd.R_drew HO_8.out)
                    replace HO_132004 := Aside0.mk (Kd.R_drew HO_132004.out)
                    replace BK127 := Aside0.mk (blk_drew BK127.out)
                    replace BK131 := Aside0.mk (blk_drew BK131.out)
                    replace BK133 := Aside0.mk (blk_drew BK133.out)
                    replace HB := Aside0.mk (below_drew1 HB.out)
                    have p136 : 0 ≤ (t134 : Int) := of_decide_eq_true asm
                    have q136 : t134 < (l0.length : Int) := of_decide_eq_true asm
                    obtain ⟨ad136, A136_3, c136_3, e136, hx136_0, hx136_1, hx136_2, hx136_3, hl136_3, hi136_3⟩ := at_T46 HR0.out t134 p136 q136
                    have hw136_3 := hx136_3
                    have hw136_2 := hx136_2
                    have hw136_1 := hx136_1
                    have hw136_0 := hx136_0
                    cases e136
                    replace hx136_0 := bc HB.out hx136_0
                    replace hx136_1 := bc HB.out hx136_1
                    replace hx136_2 := bc HB.out hx136_2
                    replace hx136_3 := bc HB.out hx136_3
                    have HR136_3 := Aside0.mk hi136_3
                    have HC136_3 := Aside0.mk hl136_3
                    clear hi136_3 hl136_3
                    replace p136 := eq_true p136
                    replace q136 := eq_true q136
                    refine start_ (n := 12) (S := fun w' => w'.cell? ⟨gb133, 0, none⟩ = some (.int .i64 ((rd_T61 l1 x44_3).f0)) ∧ w'.cell? ⟨gb133, 1, none⟩ = some (.string ((rd_T61 l1 x44_3).f1)) ∧ w'.cell? (ad136.add ((t134).toNat * 4)) = some (.int .i64 ((rd_T46 l0 t134).f0)) ∧ w'.cell? ⟨(ad136.add ((t134).toNat * 4)).block, (ad136.add ((t134).toNat * 4)).off + 1, none⟩ = some (.int .i64 ((rd_T46 l0 t134).f1)) ∧ w'.cell? ⟨(ad136.add ((t134).toNat * 4)).block, (ad136.add ((t134).toNat * 4)).off + 2, none⟩ = some (.string ((rd_T46 l0 t134).f2)) ∧ w'.cell? ⟨(ad136.add ((t134).toNat * 4)).block, (ad136.add ((t134).toNat * 4)).off + 3, none⟩ = some (.slice A136_3 ((rd_T46 l0 t134).f3).length c136_3)) (ds := []) #[false, false, false, false, false, false, false, false, false, false, false, false] (by kernel_rfl) rfl rfl ⟨(blk_cell BK133.out 0).trans rfl, (blk_cell BK133.out 1).trans rfl, (bc HB.out hw136_0), (bc HB.out hw136_1), (bc HB.out hw136_2), (bc HB.out hw136_3)⟩ (fun hHeld => ?_); refine with_tabW parts_Join.tab15 parts_Join.bits15 (fun HT_ HW_ => ?_)
                    generalize w51.drew = w52 at HO_8 HO_132004 BK127 BK131 BK133 HB HR136_3 hx136_0 hx136_1 hx136_2 hx136_3 hHeld ⊢
                    refine pu 0 (some 56) HT_.out ?_
                    refine pu 1 (some 57) HT_.out ?_
                    refine pu 2 (some 58) HT_.out ?_
                    refine pu 3 (some 59) HT_.out ?_
                    refine pu 4 (some 60) HT_.out ?_
                    refine pu 5 (some 61) HT_.out ?_
                    refine pu 6 (some 62) HT_.out ?_
                    refine pu 8 (some 64) HT_.out ?_
                    refine tk 7 (some 63) HT_.out HW_.out hHeld ?_
                    refine tk 9 (some 65) HT_.out HW_.out hHeld ?_
                    refine pu 10 (some 66) HT_.out ?_
                    refine pu 11 (some 67) HT_.out ?_
                    refine done_ (done_of HT_.out (by kernel_rfl)) ?_
                    try go_wp2
                    replace HO_8 := Aside0.mk (Kd.R_drew HO_8.out)
                    replace HO_132004 := Aside0.mk (Kd.R_drew HO_132004.out)
                    replace BK127 := Aside0.mk (blk_drew BK127.out)
                    replace BK131 := Aside0.mk (blk_drew BK131.out)
                    replace BK133 := Aside0.mk (blk_drew BK133.out)
                    replace HB := Aside0.mk (below_drew1 HB.out)
                    have p137 : 0 ≤ (t134 : Int) := of_decide_eq_true asm
                    have q137 : t134 < (l0.length : Int) := of_decide_eq_true asm
                    obtain ⟨ad137, A137_3, c137_3, e137, hx137_0, hx137_1, hx137_2, hx137_3, hl137_3, hi137_3⟩ := at_T46 HR0.out t134 p137 q137
                    have hw137_3 := hx137_3
                    have hw137_2 := hx137_2
                    have hw137_1 := hx137_1
                    have hw137_0 := hx137_0
                    obtain rfl : ad136 = ad137 := (by injection e137)
                    replace hx137_0 := bc HB.out hx137_0
                    replace hx137_1 := bc HB.out hx137_1
                    replace hx137_2 := bc HB.out hx137_2
                    replace hx137_3 := bc HB.out hx137_3
                    have HR137_3 := Aside0.mk hi137_3
                    have HC137_3 := Aside0.mk hl137_3
                    clear hi137_3 hl137_3
                    replace p137 := eq_true p137
                    replace q137 := eq_true q137
                    refine start_ (n := 10) (S := fun w' => w'.cell? ⟨gb131, 0, none⟩ = some (.int .i64 0) ∧ w'.cell? ⟨gb131, 1, none⟩ = some (.bool false) ∧ w'.cell? ⟨gb131, 2, none⟩ = some (.int .i64 x132002_3) ∧ w'.cell? ⟨gb131, 3, none⟩ = some (.string (⟨#[]⟩ : ByteArray)) ∧ w'.cell? ⟨gb131, 4, none⟩ = some (u132004) ∧ w'.cell? (ad136.add ((t134).toNat * 4)) = some (.int .i64 ((rd_T46 l0 t134).f0)) ∧ w'.cell? ⟨(ad136.add ((t134).toNat * 4)).block, (ad136.add ((t134).toNat * 4)).off + 1, none⟩ = some (.int .i64 ((rd_T46 l0 t134).f1)) ∧ w'.cell? ⟨(ad136.add ((t134).toNat * 4)).block, (ad136.add ((t134).toNat * 4)).off + 2, none⟩ = some (.string ((rd_T46 l0 t134).f2)) ∧ w'.cell? ⟨(ad136.add ((t134).toNat * 4)).block, (ad136.add ((t134).toNat * 4)).off + 3, none⟩ = some (.slice A137_3 ((rd_T46 l0 t134).f3).length c137_3)) (ds := [9]) #[false, false, false, false, false, false, false, false, false, false] (by kernel_rfl) rfl rfl ⟨(blk_cell BK131.out 0).trans rfl, (blk_cell BK131.out 1).trans rfl, (blk_cell BK131.out 2).trans rfl, (blk_cell BK131.out 3).trans rfl, (blk_cell BK131.out 4).trans rfl, (bc HB.out hw137_0), (bc HB.out hw137_1), (bc HB.out hw137_2), (bc HB.out hw137_3)⟩ (fun hHeld => ?_); refine with_tabW parts_Join.tab17 parts_Join.bits17 (fun HT_ HW_ => ?_)
                    generalize w52.drew = w53 at HO_8 HO_132004 BK127 BK131 BK133 HB HR137_3 hx137_0 hx137_1 hx137_2 hx137_3 hHeld ⊢
                    refine pu 0 (some 69) HT_.out ?_
                    refine pu 2 (some 71) HT_.out ?_
                    refine pu 3 (some 72) HT_.out ?_
                    refine pu 4 (some 73) HT_.out ?_
                    refine pu 5 (some 74) HT_.out ?_
                    refine tk 1 (some 70) HT_.out HW_.out hHeld ?_
                    refine tk 6 (some 75) HT_.out HW_.out hHeld ?_
                    refine pu 7 (some 76) HT_.out ?_
                    refine pu 8 (some 77) HT_.out ?_
                    refine last_ (i := 9) (N := none) #[true, true, true, true, true, true, true, true, true, true] rfl rfl (one_of HT_.out (by kernel_rfl)) (by decide) (fun K hK => ?_)
                    have hs54 : w53.cell? ⟨gb131, 2, none⟩ = some (.int .i64 x132002_3) := (blk_cell BK131.out 2).trans rfl
                    have hfs54 := blk_frozen BK131.out 2
                    have hns54_0 := NB127_131.out
                    have hns54_2 := NB133_131.out
                    have hms54_0 := NB131_127.out
                    have hms54_2 := NB131_133.out
                    refine skip_ (w1 := ?_) (by rfl) rfl ?_ ?_
                    rotate_left
                    ·
                     go_simp
                     rfl
                    refine hK.out _ _ ?_
                    clear hK K
                    refine done_ (done_of HT_.out (by kernel_rfl)) ?_
                    try go_wp2
                    have n0_ : Aside0 (Kd.R Kd.string 9 (w53.setCell ⟨gb131, 2, none⟩ (.int .i64 (wrap64 (x132002_3 + ((rd_T46 l0 t134).f1))))) w.heap.size (fun _ => True) u8 x8_3) := ⟨by (with_reducible repeat (first | apply Kd.R_alloc | apply Kd.R_drewN | apply Kd.R_drew)); exact Kd.R_mono (Kd.R_far (p := ⟨gb131, 2, none⟩) (Kd.R_types HO_8.out BK131.out (by decide)) (fun _ hk => hk.2) (.int .i64 (wrap64 (x132002_3 + ((rd_T46 l0 t134).f1))))) (fun _ hk => trivial)⟩
                    have n1_ : Aside0 (Kd.R k63 63 (w53.setCell ⟨gb131, 2, none⟩ (.int .i64 (wrap64 (x132002_3 + ((rd_T46 l0 t134).f1))))) w.heap.size (fun _ => True) u132004 x132004_3) := ⟨by (with_reducible repeat (first | apply Kd.R_alloc | apply Kd.R_drewN | apply Kd.R_drew)); exact Kd.R_mono (Kd.R_far (p := ⟨gb131, 2, none⟩) (Kd.R_types HO_132004.out BK131.out (by decide)) (fun _ hk => hk.2) (.int .i64 (wrap64 (x132002_3 + ((rd_T46 l0 t134).f1))))) (fun _ hk => trivial)⟩
                    have n2_ : Aside0 ((w53.setCell ⟨gb131, 2, none⟩ (.int .i64 (wrap64 (x132002_3 + ((rd_T46 l0 t134).f1))))).heap[gb127]? = some (.cells #[.int .i64 x128000_3, .bool x128001_3, .int .i64 x128002_3, .string x128003_3, .slice none 0 0] 26 (0, 0))) := ⟨bkf BK127.out⟩
                    have n3_ : Aside0 ((w53.setCell ⟨gb131, 2, none⟩ (.int .i64 (wrap64 (x132002_3 + ((rd_T46 l0 t134).f1))))).heap[gb131]? = some (.cells #[.int .i64 0, .bool false, .int .i64 (wrap64 (x132002_3 + ((rd_T46 l0 t134).f1))), .string (⟨#[]⟩ : ByteArray), u132004] 26 (0, 0))) := ⟨bkp BK131.out⟩
                    have n4_ : Aside0 ((w53.setCell ⟨gb131, 2, none⟩ (.int .i64 (wrap64 (x132002_3 + ((rd_T46 l0 t134).f1))))).heap[gb133]? = some (.cells #[.int .i64 ((rd_T61 l1 x44_3).f0), .string ((rd_T61 l1 x44_3).f1)] 61 (0, 0))) := ⟨bkf BK133.out⟩
                    have n5_ : Aside0 (Below w.heap.size w (w53.setCell ⟨gb131, 2, none⟩ (.int .i64 (wrap64 (x132002_3 + ((rd_T46 l0 t134).f1)))))) := ⟨bws HB.out⟩
                    (try clear HO_8)
                    (try clear HO_132004)
                    (try clear BK127)
                    (try clear BK131)
                    (try clear BK133)
                    (try clear HB)
                    generalize (w53.setCell ⟨gb131, 2, none⟩ (.int .i64 (wrap64 (x132002_3 + ((rd_T46 l0 t134).f1))))) = w55 at n0_ n1_ n2_ n3_ n4_ n5_ ⊢
                    have HO_8 := n0_
                    have HO_132004 := n1_
                    have BK127 := n2_
                    have BK131 := n3_
                    have BK133 := n4_
                    have HB := n5_
                    clear n0_ n1_ n2_ n3_ n4_ n5_
                    replace HO_8 := Aside0.mk (Kd.R_drew HO_8.out)
                    replace HO_132004 := Aside0.mk (Kd.R_drew HO_132004.out)
                    replace BK127 := Aside0.mk (blk_drew BK127.out)
                    replace BK131 := Aside0.mk (blk_drew BK131.out)
                    replace BK133 := Aside0.mk (blk_drew BK133.out)
                    replace HB := Aside0.mk (below_drew1 HB.out)
                    have p138 : 0 ≤ (t134 : Int) := of_decide_eq_true asm
                    have q138 : t134 < (l0.length : Int) := of_decide_eq_true asm
                    obtain ⟨ad138, A138_3, c138_3, e138, hx138_0, hx138_1, hx138_2, hx138_3, hl138_3, hi138_3⟩ := at_T46 HR0.out t134 p138 q138
                    have hw138_3 := hx138_3
                    have hw138_2 := hx138_2
                    have hw138_1 := hx138_1
                    have hw138_0 := hx138_0
                    obtain rfl : ad136 = ad138 := (by injection e138)
                    replace hx138_0 := bc HB.out hx138_0
                    replace hx138_1 := bc HB.out hx138_1
                    replace hx138_2 := bc HB.out hx138_2
                    replace hx138_3 := bc HB.out hx138_3
                    have HR138_3 := Aside0.mk hi138_3
                    have HC138_3 := Aside0.mk hl138_3
                    clear hi138_3 hl138_3
                    replace p138 := eq_true p138
                    replace q138 := eq_true q138
                    refine start_ (n := 10) (S := fun w' => w'.cell? ⟨gb131, 0, none⟩ = some (.int .i64 0) ∧ w'.cell? ⟨gb131, 1, none⟩ = some (.bool false) ∧ w'.cell? ⟨gb131, 2, none⟩ = some (.int .i64 (wrap64 (x132002_3 + ((rd_T46 l0 t134).f1)))) ∧ w'.cell? ⟨gb131, 3, none⟩ = some (.string (⟨#[]⟩ : ByteArray)) ∧ w'.cell? ⟨gb131, 4, none⟩ = some (u132004) ∧ w'.cell? (ad136.add ((t134).toNat * 4)) = some (.int .i64 ((rd_T46 l0 t134).f0)) ∧ w'.cell? ⟨(ad136.add ((t134).toNat * 4)).block, (ad136.add ((t134).toNat * 4)).off + 1, none⟩ = some (.int .i64 ((rd_T46 l0 t134).f1)) ∧ w'.cell? ⟨(ad136.add ((t134).toNat * 4)).block, (ad136.add ((t134).toNat * 4)).off + 2, none⟩ = some (.string ((rd_T46 l0 t134).f2)) ∧ w'.cell? ⟨(ad136.add ((t134).toNat * 4)).block, (ad136.add ((t134).toNat * 4)).off + 3, none⟩ = some (.slice A138_3 ((rd_T46 l0 t134).f3).length c138_3)) (ds := [9]) #[false, false, false, false, false, false, false, false, false, false] (by kernel_rfl) rfl rfl ⟨(blk_cell BK131.out 0).trans rfl, (blk_cell BK131.out 1).trans rfl, (blk_cell BK131.out 2).trans rfl, (blk_cell BK131.out 3).trans rfl, (blk_cell BK131.out 4).trans rfl, (bc HB.out hw138_0), (bc HB.out hw138_1), (bc HB.out hw138_2), (bc HB.out hw138_3)⟩ (fun hHeld => ?_); refine with_tabW parts_Join.tab18 parts_Join.bits18 (fun HT_ HW_ => ?_)
                    generalize w55.drew = w56 at HO_8 HO_132004 BK127 BK131 BK133 HB HR138_3 hx138_0 hx138_1 hx138_2 hx138_3 hHeld ⊢
                    refine pu 0 (some 78) HT_.out ?_
                    refine pu 2 (some 80) HT_.out ?_
                    refine pu 3 (some 81) HT_.out ?_
                    refine pu 4 (some 82) HT_.out ?_
                    refine pu 5 (some 83) HT_.out ?_
                    refine tk 1 (some 79) HT_.out HW_.out hHeld ?_
                    refine tk 6 (some 84) HT_.out HW_.out hHeld ?_
                    refine one_ (i := 7) (N := some 85) #[true, true, true, true, true, true, true, true, false, false] rfl rfl (one_of HT_.out (by kernel_rfl)) (by decide) (fun K hK => ?_)
                    refine Kd.R_append_rows_step k63 (w0 := w) w.heap.size (by rfl) (.tmp 79) (.tmp 84) 24 63 (.agg #[(.string ⟨#[]⟩), (.int .i64 0)]) 24 rfl Tryd.underlying24 info63 rfl (by decide) (by omega) u132004 x132004_3 ((rd_T46 l0 t134).f3) _ _ _ (fun _ => True) (fun _ => False) rfl rfl ?aO ?aR (fun _ _ h => h) (fun _ h => h.elim) ?aF ?aB ?aS ?aL ?_
                    (case aR => exact kC (Kd.C_below HR138_3.out HB.out))
                    (case aB => exact (bws HB.out))
                    (case aF => exact (fun _ _ => trivial))
                    (case aO => exact (kR HO_132004.out))
                    (case aS => exact (below_size (bws HB.out)))
                    (case aL => have := LMc29.out; omega)
                    intro v140 w57 ho hb hg hat
                    rw [← Ny139.out] at ho
                    have n0_ := Aside0.mk (Kd.R_over' (kR HO_8.out) (Kd.R_typed (kR HO_132004.out)) (by decide) hg)
                    have n1_ := Aside0.mk (blk_grown (g := gb127) (o := .cells #[.int .i64 x128000_3, .bool x128001_3, .int .i64 x128002_3, .string x128003_3, .slice none 0 0] 26 (0, 0)) (bk BK127.out) hg (Kd.R_ne HO_132004.out BK127.out (by decide)))
                    have n2_ := Aside0.mk (blk_grown (g := gb131) (o := .cells #[.int .i64 0, .bool false, .int .i64 (wrap64 (x132002_3 + ((rd_T46 l0 t134).f1))), .string (⟨#[]⟩ : ByteArray), u132004] 26 (0, 0)) (bk BK131.out) hg (Kd.R_ne HO_132004.out BK131.out (by decide)))
                    have n3_ := Aside0.mk (blk_grown (g := gb133) (o := .cells #[.int .i64 ((rd_T61 l1 x44_3).f0), .string ((rd_T61 l1 x44_3).f1)] 61 (0, 0)) (bk BK133.out) hg (Kd.R_ne HO_132004.out BK133.out (by decide)))
                    have n4_ := Aside0.mk (hb)
                    have n5_ := Aside0.mk (ho)
                    clear HO_8
                    clear BK127
                    clear BK131
                    clear BK133
                    clear HB
                    clear HO_132004
                    have HO_8 := n0_
                    have BK127 := n1_
                    have BK131 := n2_
                    have BK133 := n3_
                    have HB := n4_
                    have HO141 := n5_
                    clear n0_ n1_ n2_ n3_ n4_ n5_
                    clear ho hb hg hat
                    obtain ⟨Ao58, co58, eo58⟩ := Kd.R_slice HO141.out
                    (first | subst eo58 | (injection eo58 with f1_ f2_ f3_; have f4_ := f1_.symm; have f5_ := f3_.symm; clear f1_ f2_ f3_; subst f4_; subst f5_))
                    refine hK.out _ _ ⟨(blk_cell BK131.out 0).trans rfl, (blk_cell BK131.out 1).trans rfl, (blk_cell BK131.out 2).trans rfl, (blk_cell BK131.out 3).trans rfl, (blk_cell BK131.out 4).trans rfl, (bc HB.out hw138_0), (bc HB.out hw138_1), (bc HB.out hw138_2), (bc HB.out hw138_3)⟩ (fun hHeld => ?_)
                    clear hK K
                    refine norm_ (a' := ?_) ?_ ?_
                    rotate_left
                    ·
                     show Act.put _ (some 85) _ = _
                     simp only [Act.put, List.setIfInBounds_toArray, List.set_cons_zero, List.set_cons_succ, i64_w, i32_w]
                     rfl
                    refine pu 8 (some 86) HT_.out ?_
                    refine last_ (i := 9) (N := none) #[true, true, true, true, true, true, true, true, true, true] rfl rfl (one_of HT_.out (by kernel_rfl)) (by decide) (fun K hK => ?_)
                    have hs59 : w57.cell? ⟨gb131, 4, none⟩ = some (u132004) := (blk_cell BK131.out 4).trans rfl
                    have hfs59 := blk_frozen BK131.out 4
                    have hns59_0 := NB127_131.out
                    have hns59_2 := NB133_131.out
                    have hms59_0 := NB131_127.out
                    have hms59_2 := NB131_133.out
                    refine skip_ (w1 := ?_) (by rfl) rfl ?_ ?_
                    rotate_left
                    ·
                     go_simp
                     rfl
                    refine hK.out _ _ ?_
                    clear hK K
                    refine done_ (done_of HT_.out (by kernel_rfl)) ?_
                    have p142 : 0 ≤ (t134 : Int) := of_decide_eq_true asm
                    have q142 : t134 < (l0.length : Int) := of_decide_eq_true asm
                    obtain ⟨ad142, A142_3, c142_3, e142, hx142_0, hx142_1, hx142_2, hx142_3, hl142_3, hi142_3⟩ := at_T46 HR0.out t134 p142 q142
                    obtain rfl : ad136 = ad142 := (by injection e142)
                    have hn142_0 : ad136.block ≠ gb131 := Nat.ne_of_lt (Nat.lt_of_lt_of_le (by have := World.block_lt_of_cell? _ _ hx142_0; first | rwa [add_block] at this | exact this) GW131.out)
                    replace hx142_0 := bc HB.out hx142_0
                    replace hx142_1 := bc HB.out hx142_1
                    replace hx142_2 := bc HB.out hx142_2
                    replace hx142_3 := bc HB.out hx142_3
                    have HR142_3 := Aside0.mk hi142_3
                    have HC142_3 := Aside0.mk hl142_3
                    clear hi142_3 hl142_3
                    replace hx142_0 := (cell_far (p := ⟨gb131, 4, none⟩) (by first | (rw [add_block]; exact hn142_0) | (show (Addr.add _ _).block ≠ _; rw [add_block]; exact hn142_0) | exact hn142_0) (.slice Ao58 y139.length co58)).trans hx142_0
                    replace hx142_1 := (cell_far (p := ⟨gb131, 4, none⟩) (by first | (rw [add_block]; exact hn142_0) | (show (Addr.add _ _).block ≠ _; rw [add_block]; exact hn142_0) | exact hn142_0) (.slice Ao58 y139.length co58)).trans hx142_1
                    replace hx142_2 := (cell_far (p := ⟨gb131, 4, none⟩) (by first | (rw [add_block]; exact hn142_0) | (show (Addr.add _ _).block ≠ _; rw [add_block]; exact hn142_0) | exact hn142_0) (.slice Ao58 y139.length co58)).trans hx142_2
                    replace hx142_3 := (cell_far (p := ⟨gb131, 4, none⟩) (by first | (rw [add_block]; exact hn142_0) | (show (Addr.add _ _).block ≠ _; rw [add_block]; exact hn142_0) | exact hn142_0) (.slice Ao58 y139.length co58)).trans hx142_3
                    clear hn142_0
                    replace p142 := eq_true p142
                    replace q142 := eq_true q142
                    try go_wp2_with (first | ((with_reducible refine gate_builtin (b := .append) (xs := #[.tmp 87, .tmp 93]) rfl ?_); (try (refine gate_guard (by rfl) ?_; dsimp only)); at_builtin; refine Kd.R_append Kd.string (w0 := w) w.heap.size rfl (.tmp 87) (.tmp 93) 56 9 (.string ⟨#[]⟩) 16 rfl Tryd.underlying56 info9 rfl (by decide) (by omega) u8 x8_3 ((rd_T46 l0 t134).f2) [.string ((rd_T46 l0 t134).f2)] (fun _ => True) (fun _ => False) rfl (by first | (go_simp; done) | (go_simp; rfl)) ?aP (fun _ hk => hk.elim) ?aF ?aO ?aB ?aS ?aL ?_; (case aP => exact rfl); (case aB => exact (bws HB.out)); (case aF => exact (fun _ _ => trivial)); (case aO => exact (by (with_reducible repeat (first | apply Kd.R_alloc | apply Kd.R_drewN | apply Kd.R_drew)); exact Kd.R_mono (Kd.R_far (p := ⟨gb131, 4, none⟩) (Kd.R_types HO_8.out BK131.out (by decide)) (fun _ hk => hk.2) (.slice Ao58 y139.length co58)) (fun _ hk => trivial))); (case aS => exact (below_size (bws HB.out))); (case aL => have := LMc30.out; omega); intro v144 w60 ho hb hg hat; rw [← Ny143.out] at ho; have n0_ := Aside0.mk (blk_grown (g := gb127) (o := .cells #[.int .i64 x128000_3, .bool x128001_3, .int .i64 x128002_3, .string x128003_3, .slice none 0 0] 26 (0, 0)) (bkf BK127.out) hg (Kd.R_ne HO_8.out BK127.out (by decide))); have n1_ := Aside0.mk (blk_grown (g := gb131) (o := .cells #[.int .i64 0, .bool false, .int .i64 (wrap64 (x132002_3 + ((rd_T46 l0 t134).f1))), .string (⟨#[]⟩ : ByteArray), .slice Ao58 y139.length co58] 26 (0, 0)) (bkp BK131.out) hg (Kd.R_ne HO_8.out BK131.out (by decide))); have n2_ := Aside0.mk (blk_grown (g := gb133) (o := .cells #[.int .i64 ((rd_T61 l1 x44_3).f0), .string ((rd_T61 l1 x44_3).f1)] 61 (0, 0)) (bkf BK133.out) hg (Kd.R_ne HO_8.out BK133.out (by decide))); have n3_ := Aside0.mk (Kd.R_over' (by (with_reducible repeat (first | apply Kd.R_alloc | apply Kd.R_drewN | apply Kd.R_drew)); exact (Kd.R_mono (Kd.R_far (p := ⟨gb131, 4, none⟩) (Kd.R_types HO141.out BK131.out (by decide)) (fun _ hk => hk.2) (.slice Ao58 y139.length co58)) (fun _ h_ => h_.1))) (Kd.R_typed (by (with_reducible repeat (first | apply Kd.R_alloc | apply Kd.R_drewN | apply Kd.R_drew)); exact (Kd.R_mono (Kd.R_far (p := ⟨gb131, 4, none⟩) (Kd.R_types HO_8.out BK131.out (by decide)) (fun _ hk => hk.2) (.slice Ao58 y139.length co58)) (fun _ h_ => h_.1)))) (by decide) hg); have n4_ := Aside0.mk (hb); have n5_ := Aside0.mk (ho); clear BK127; clear BK131; clear BK133; clear HO141; clear HB; clear HO_8; have BK127 := n0_; have BK131 := n1_; have BK133 := n2_; have HO141 := n3_; have HB := n4_; have HO145 := n5_; clear n0_ n1_ n2_ n3_ n4_ n5_; clear ho hb hg hat; have p146 : 0 ≤ (t134 : Int) := of_decide_eq_true asm; have q146 : t134 < (l0.length : Int) := of_decide_eq_true asm; obtain ⟨ad146, A146_3, c146_3, e146, hx146_0, hx146_1, hx146_2, hx146_3, hl146_3, hi146_3⟩ := at_T46 HR0.out t134 p146 q146; obtain rfl : ad136 = ad146 := (by injection e146); replace hx146_0 := bc HB.out hx146_0; replace hx146_1 := bc HB.out hx146_1; replace hx146_2 := bc HB.out hx146_2; replace hx146_3 := bc HB.out hx146_3; have HR146_3 := Aside0.mk hi146_3; have HC146_3 := Aside0.mk hl146_3; clear hi146_3 hl146_3; replace p146 := eq_true p146; replace q146 := eq_true q146))
                    go_roundg k3
                    case measure => have := HJ2.out; have := HK2.out; have := HK3.out; omega
                    case rel => exact ⟨(y143), (decide (((rd_T46 l0 t134).f1) < 64)), (wrap64 (x44_3 + 1)), (x128000_3), (x128001_3), (x128002_3), (x128003_3), (wrap64 (x132002_3 + ((rd_T46 l0 t134).f1))), (y139), (.slice Ao58 y139.length co58), (by first | rfl | (simp; done) | (simp [*]; done)), (by first | rfl | (simp; done) | (simp [*]; done)), H', ⟨by have := HJ2.out; have := HK2.out; have := HK3.out; omega⟩, ⟨kR HO145.out⟩, ⟨kR HO141.out⟩, ⟨bk BK127.out⟩, ⟨bk BK131.out⟩, ⟨bws HB.out⟩⟩
                   ·
                    rw [if_neg c46] at H
                    have c46b0 : decide (x44_3 < (wrap64 ((l1.length : Int) - 1))) = false := decide_eq_false c46
                    clear c46
                    have H' := Aside0.mk H
                    clear H
                    have p132 : 0 ≤ (x44_3 : Int) := of_decide_eq_true asm
                    have q132 : x44_3 < (l1.length : Int) := of_decide_eq_true asm
                    obtain ⟨ad132, e132, hx132_0, hx132_1⟩ := at_T61 HR1.out x44_3 p132 q132
                    cases e132
                    replace hx132_0 := bc HB.out hx132_0
                    replace hx132_1 := bc HB.out hx132_1
                    replace p132 := eq_true p132
                    replace q132 := eq_true q132
                    try go_wp2_with (first | ((with_reducible refine gate_dst (N := 11) rfl ?_); (try (refine gate_guard (by rfl) ?_; dsimp only)); refine box_event ?hg (N := 11) ?hd (cs := #[.int .i64 0, .string (⟨#[]⟩ : ByteArray)]) (t := 61) ?hr ?_; (case hd => rfl); (case hg => rfl); (case hr => first | (go_simp; done) | (go_simp; rfl)); intro gb133 hg w61 hbox hb; have n0_ := Aside0.mk (Kd.R_below (kR HO_8.out) hb); have n1_ := Aside0.mk (Kd.R_below (kR HO_132004.out) hb); have n2_ := Aside0.mk (blk_below (g := gb127) (o := .cells #[.int .i64 x128000_3, .bool x128001_3, .int .i64 x128002_3, .string x128003_3, .slice none 0 0] 26 (0, 0)) (bk BK127.out) hb); have n3_ := Aside0.mk (blk_below (g := gb131) (o := .cells #[.int .i64 0, .bool false, .int .i64 x132002_3, .string (⟨#[]⟩ : ByteArray), u132004] 26 (0, 0)) (bk BK131.out) hb); have n4_ := Aside0.mk (below_step (bws HB.out) hb); have n5_ := Aside0.mk (hbox); have n6_ := Aside0.mk ((by rw [hg]; exact (below_size (bws HB.out)) : w.heap.size ≤ gb133)); have n7_ := Aside0.mk ((by rw [hg]; exact (below_size (bws HB.out)) : w.heap.size ≤ gb133)); have n8_ := Aside0.mk ((by rw [hg]; exact Nat.ne_of_lt (blk_lt (g := gb127) (o := .cells #[.int .i64 x128000_3, .bool x128001_3, .int .i64 x128002_3, .string x128003_3, .slice none 0 0] 26 (0, 0)) (bk BK127.out)) : gb127 ≠ gb133)); have n9_ := Aside0.mk ((by rw [hg]; exact Nat.ne_of_gt (blk_lt (g := gb127) (o := .cells #[.int .i64 x128000_3, .bool x128001_3, .int .i64 x128002_3, .string x128003_3, .slice none 0 0] 26 (0, 0)) (bk BK127.out)) : gb133 ≠ gb127)); have n10_ := Aside0.mk ((by rw [hg]; exact Nat.ne_of_lt (blk_lt (g := gb131) (o := .cells #[.int .i64 0, .bool false, .int .i64 x132002_3, .string (⟨#[]⟩ : ByteArray), u132004] 26 (0, 0)) (bk BK131.out)) : gb131 ≠ gb133)); have n11_ := Aside0.mk ((by rw [hg]; exact Nat.ne_of_gt (blk_lt (g := gb131) (o := .cells #[.int .i64 0, .bool false, .int .i64 x132002_3, .string (⟨#[]⟩ : ByteArray), u132004] 26 (0, 0)) (bk BK131.out)) : gb133 ≠ gb131)); clear HO_8; clear HO_132004; clear BK127; clear BK131; clear HB; have HO_8 := n0_; have HO_132004 := n1_; have BK127 := n2_; have BK131 := n3_; have HB := n4_; have BK133 := n5_; have GW133 := n6_; have GE133 := n7_; have NB127_133 := n8_; have NB133_127 := n9_; have NB131_133 := n10_; have NB133_131 := n11_; clear n0_ n1_ n2_ n3_ n4_ n5_ n6_ n7_ n8_ n9_ n10_ n11_; clear hb hbox hg; have hnb62 := NB133_127.out; have hnc62 := NB127_133.out; have hnb63 := NB133_131.out; have hnc63 := NB131_133.out; have hcz64_0 : w61.cell? ⟨gb133, 0, none⟩ = some (.int .i64 0) := (blk_cell BK133.out 0).trans rfl; have hcz64_1 : w61.cell? ⟨gb133, 1, none⟩ = some (.string (⟨#[]⟩ : ByteArray)) := (blk_cell BK133.out 1).trans rfl; have hfz64_0 := blk_frozen BK133.out 0; have hfz64_1 := blk_frozen BK133.out 1) | ((with_reducible refine gate_callee (f := 30) rfl ?_); refine goesL_ (some 53) rfl rfl Tryd.func30 (by kernel_rfl) rfl #[.slice A0 l0.length c0, .int .i64 ((rd_T61 l1 x44_3).f0)] rfl gl ?_; (with_reducible refine (parts_find.calls _ _ l0 ((rd_T61 l1 x44_3).f0) t134 true _ ?side1 ?side2 A24.out).mono ?_); (case side1 => exact Kd.C_below HR0.out (bws HB.out)); (case side2 => exact HC0.out); rintro e w65 ⟨rfl, hb⟩; refine ⟨_, rfl, ?_⟩; replace HO_8 := Aside0.mk (Kd.R_below (by (with_reducible repeat (first | apply Kd.R_alloc | apply Kd.R_drewN | apply Kd.R_drew)); exact (Kd.R_mono (Kd.R_far (p := ⟨gb133, 1, none⟩) (Kd.R_far (p := ⟨gb133, 0, none⟩) (Kd.R_types HO_8.out BK133.out (by decide)) (fun _ hk => hk.2) (.int .i64 ((rd_T61 l1 x44_3).f0))) (fun _ hk => hk.2) (.string ((rd_T61 l1 x44_3).f1))) (fun _ h_ => h_.1))) hb); replace HO_132004 := Aside0.mk (Kd.R_below (by (with_reducible repeat (first | apply Kd.R_alloc | apply Kd.R_drewN | apply Kd.R_drew)); exact (Kd.R_mono (Kd.R_far (p := ⟨gb133, 1, none⟩) (Kd.R_far (p := ⟨gb133, 0, none⟩) (Kd.R_types HO_132004.out BK133.out (by decide)) (fun _ hk => hk.2) (.int .i64 ((rd_T61 l1 x44_3).f0))) (fun _ hk => hk.2) (.string ((rd_T61 l1 x44_3).f1))) (fun _ h_ => h_.1))) hb); replace BK127 := Aside0.mk (blk_below (g := gb127) (o := .cells #[.int .i64 x128000_3, .bool x128001_3, .int .i64 x128002_3, .string x128003_3, .slice none 0 0] 26 (0, 0)) (bkf BK127.out) hb); replace BK131 := Aside0.mk (blk_below (g := gb131) (o := .cells #[.int .i64 0, .bool false, .int .i64 x132002_3, .string (⟨#[]⟩ : ByteArray), u132004] 26 (0, 0)) (bkf BK131.out) hb); replace BK133 := Aside0.mk (blk_below (g := gb133) (o := .cells #[.int .i64 ((rd_T61 l1 x44_3).f0), .string ((rd_T61 l1 x44_3).f1)] 61 (0, 0)) (bkp BK133.out) hb); replace HB := Aside0.mk (below_step (bws HB.out) hb); (try clear hb); (try clear hb2); (try clear hk); (try clear hi)))
                    replace HO_8 := Aside0.mk (Kd.R_drew HO_8.out)
                    replace HO_132004 := Aside0.mk (Kd.R_drew HO_132004.out)
                    replace BK127 := Aside0.mk (blk_drew BK127.out)
                    replace BK131 := Aside0.mk (blk_drew BK131.out)
                    replace BK133 := Aside0.mk (blk_drew BK133.out)
                    replace HB := Aside0.mk (below_drew1 HB.out)
                    have p136 : 0 ≤ (t134 : Int) := of_decide_eq_true asm
                    have q136 : t134 < (l0.length : Int) := of_decide_eq_true asm
                    obtain ⟨ad136, A136_3, c136_3, e136, hx136_0, hx136_1, hx136_2, hx136_3, hl136_3, hi136_3⟩ := at_T46 HR0.out t134 p136 q136
                    have hw136_3 := hx136_3
                    have hw136_2 := hx136_2
                    have hw136_1 := hx136_1
                    have hw136_0 := hx136_0
                    cases e136
                    replace hx136_0 := bc HB.out hx136_0
                    replace hx136_1 := bc HB.out hx136_1
                    replace hx136_2 := bc HB.out hx136_2
                    replace hx136_3 := bc HB.out hx136_3
                    have HR136_3 := Aside0.mk hi136_3
                    have HC136_3 := Aside0.mk hl136_3
                    clear hi136_3 hl136_3
                    replace p136 := eq_true p136
                    replace q136 := eq_true q136
                    refine start_ (n := 12) (S := fun w' => w'.cell? ⟨gb133, 0, none⟩ = some (.int .i64 ((rd_T61 l1 x44_3).f0)) ∧ w'.cell? ⟨gb133, 1, none⟩ = some (.string ((rd_T61 l1 x44_3).f1)) ∧ w'.cell? (ad136.add ((t134).toNat * 4)) = some (.int .i64 ((rd_T46 l0 t134).f0)) ∧ w'.cell? ⟨(ad136.add ((t134).toNat * 4)).block, (ad136.add ((t134).toNat * 4)).off + 1, none⟩ = some (.int .i64 ((rd_T46 l0 t134).f1)) ∧ w'.cell? ⟨(ad136.add ((t134).toNat * 4)).block, (ad136.add ((t134).toNat * 4)).off + 2, none⟩ = some (.string ((rd_T46 l0 t134).f2)) ∧ w'.cell? ⟨(ad136.add ((t134).toNat * 4)).block, (ad136.add ((t134).toNat * 4)).off + 3, none⟩ = some (.slice A136_3 ((rd_T46 l0 t134).f3).length c136_3)) (ds := []) #[false, false, false, false, false, false, false, false, false, false, false, false] (by kernel_rfl) rfl rfl ⟨(blk_cell BK133.out 0).trans rfl, (blk_cell BK133.out 1).trans rfl, (bc HB.out hw136_0), (bc HB.out hw136_1), (bc HB.out hw136_2), (bc HB.out hw136_3)⟩ (fun hHeld => ?_); refine with_tabW parts_Join.tab15 parts_Join.bits15 (fun HT_ HW_ => ?_)
                    generalize w65.drew = w66 at HO_8 HO_132004 BK127 BK131 BK133 HB HR136_3 hx136_0 hx136_1 hx136_2 hx136_3 hHeld ⊢
                    refine pu 0 (some 56) HT_.out ?_
                    refine pu 1 (some 57) HT_.out ?_
                    refine pu 2 (some 58) HT_.out ?_
                    refine pu 3 (some 59) HT_.out ?_
                    refine pu 4 (some 60) HT_.out ?_
                    refine pu 5 (some 61) HT_.out ?_
                    refine pu 6 (some 62) HT_.out ?_
                    refine pu 8 (some 64) HT_.out ?_
                    refine tk 7 (some 63) HT_.out HW_.out hHeld ?_
                    refine tk 9 (some 65) HT_.out HW_.out hHeld ?_
                    refine pu 10 (some 66) HT_.out ?_
                    refine pu 11 (some 67) HT_.out ?_
                    refine done_ (done_of HT_.out (by kernel_rfl)) ?_
                    try go_wp2
                    replace HO_8 := Aside0.mk (Kd.R_drew HO_8.out)
                    replace HO_132004 := Aside0.mk (Kd.R_drew HO_132004.out)
                    replace BK127 := Aside0.mk (blk_drew BK127.out)
                    replace BK131 := Aside0.mk (blk_drew BK131.out)
                    replace BK133 := Aside0.mk (blk_drew BK133.out)
                    replace HB := Aside0.mk (below_drew1 HB.out)
                    have p137 : 0 ≤ (t134 : Int) := of_decide_eq_true asm
                    have q137 : t134 < (l0.length : Int) := of_decide_eq_true asm
                    obtain ⟨ad137, A137_3, c137_3, e137, hx137_0, hx137_1, hx137_2, hx137_3, hl137_3, hi137_3⟩ := at_T46 HR0.out t134 p137 q137
                    have hw137_3 := hx137_3
                    have hw137_2 := hx137_2
                    have hw137_1 := hx137_1
                    have hw137_0 := hx137_0
                    obtain rfl : ad136 = ad137 := (by injection e137)
                    replace hx137_0 := bc HB.out hx137_0
                    replace hx137_1 := bc HB.out hx137_1
                    replace hx137_2 := bc HB.out hx137_2
                    replace hx137_3 := bc HB.out hx137_3
                    have HR137_3 := Aside0.mk hi137_3
                    have HC137_3 := Aside0.mk hl137_3
                    clear hi137_3 hl137_3
                    replace p137 := eq_true p137
                    replace q137 := eq_true q137
                    refine start_ (n := 10) (S := fun w' => w'.cell? ⟨gb131, 0, none⟩ = some (.int .i64 0) ∧ w'.cell? ⟨gb131, 1, none⟩ = some (.bool false) ∧ w'.cell? ⟨gb131, 2, none⟩ = some (.int .i64 x132002_3) ∧ w'.cell? ⟨gb131, 3, none⟩ = some (.string (⟨#[]⟩ : ByteArray)) ∧ w'.cell? ⟨gb131, 4, none⟩ = some (u132004) ∧ w'.cell? (ad136.add ((t134).toNat * 4)) = some (.int .i64 ((rd_T46 l0 t134).f0)) ∧ w'.cell? ⟨(ad136.add ((t134).toNat * 4)).block, (ad136.add ((t134).toNat * 4)).off + 1, none⟩ = some (.int .i64 ((rd_T46 l0 t134).f1)) ∧ w'.cell? ⟨(ad136.add ((t134).toNat * 4)).block, (ad136.add ((t134).toNat * 4)).off + 2, none⟩ = some (.string ((rd_T46 l0 t134).f2)) ∧ w'.cell? ⟨(ad136.add ((t134).toNat * 4)).block, (ad136.add ((t134).toNat * 4)).off + 3, none⟩ = some (.slice A137_3 ((rd_T46 l0 t134).f3).length c137_3)) (ds := [9]) #[false, false, false, false, false, false, false, false, false, false] (by kernel_rfl) rfl rfl ⟨(blk_cell BK131.out 0).trans rfl, (blk_cell BK131.out 1).trans rfl, (blk_cell BK131.out 2).trans rfl, (blk_cell BK131.out 3).trans rfl, (blk_cell BK131.out 4).trans rfl, (bc HB.out hw137_0), (bc HB.out hw137_1), (bc HB.out hw137_2), (bc HB.out hw137_3)⟩ (fun hHeld => ?_); refine with_tabW parts_Join.tab17 parts_Join.bits17 (fun HT_ HW_ => ?_)
                    generalize w66.drew = w67 at HO_8 HO_132004 BK127 BK131 BK133 HB HR137_3 hx137_0 hx137_1 hx137_2 hx137_3 hHeld ⊢
                    refine pu 0 (some 69) HT_.out ?_
                    refine pu 2 (some 71) HT_.out ?_
                    refine pu 3 (some 72) HT_.out ?_
                    refine pu 4 (some 73) HT_.out ?_
                    refine pu 5 (some 74) HT_.out ?_
                    refine tk 1 (some 70) HT_.out HW_.out hHeld ?_
                    refine tk 6 (some 75) HT_.out HW_.out hHeld ?_
                    refine pu 7 (some 76) HT_.out ?_
                    refine pu 8 (some 77) HT_.out ?_
                    refine last_ (i := 9) (N := none) #[true, true, true, true, true, true, true, true, true, true] rfl rfl (one_of HT_.out (by kernel_rfl)) (by decide) (fun K hK => ?_)
                    have hs68 : w67.cell? ⟨gb131, 2, none⟩ = some (.int .i64 x132002_3) := (blk_cell BK131.out 2).trans rfl
                    have hfs68 := blk_frozen BK131.out 2
                    have hns68_0 := NB127_131.out
                    have hns68_2 := NB133_131.out
                    have hms68_0 := NB131_127.out
                    have hms68_2 := NB131_133.out
                    refine skip_ (w1 := ?_) (by rfl) rfl ?_ ?_
                    rotate_left
                    ·
                     go_simp
                     rfl
                    refine hK.out _ _ ?_
                    clear hK K
                    refine done_ (done_of HT_.out (by kernel_rfl)) ?_
                    try go_wp2
                    have n0_ : Aside0 (Kd.R Kd.string 9 (w67.setCell ⟨gb131, 2, none⟩ (.int .i64 (wrap64 (x132002_3 + ((rd_T46 l0 t134).f1))))) w.heap.size (fun _ => True) u8 x8_3) := ⟨by (with_reducible repeat (first | apply Kd.R_alloc | apply Kd.R_drewN | apply Kd.R_drew)); exact Kd.R_mono (Kd.R_far (p := ⟨gb131, 2, none⟩) (Kd.R_types HO_8.out BK131.out (by decide)) (fun _ hk => hk.2) (.int .i64 (wrap64 (x132002_3 + ((rd_T46 l0 t134).f1))))) (fun _ hk => trivial)⟩
                    have n1_ : Aside0 (Kd.R k63 63 (w67.setCell ⟨gb131, 2, none⟩ (.int .i64 (wrap64 (x132002_3 + ((rd_T46 l0 t134).f1))))) w.heap.size (fun _ => True) u132004 x132004_3) := ⟨by (with_reducible repeat (first | apply Kd.R_alloc | apply Kd.R_drewN | apply Kd.R_drew)); exact Kd.R_mono (Kd.R_far (p := ⟨gb131, 2, none⟩) (Kd.R_types HO_132004.out BK131.out (by decide)) (fun _ hk => hk.2) (.int .i64 (wrap64 (x132002_3 + ((rd_T46 l0 t134).f1))))) (fun _ hk => trivial)⟩
                    have n2_ : Aside0 ((w67.setCell ⟨gb131, 2, none⟩ (.int .i64 (wrap64 (x132002_3 + ((rd_T46 l0 t134).f1))))).heap[gb127]? = some (.cells #[.int .i64 x128000_3, .bool x128001_3, .int .i64 x128002_3, .string x128003_3, .slice none 0 0] 26 (0, 0))) := ⟨bkf BK127.out⟩
                    have n3_ : Aside0 ((w67.setCell ⟨gb131, 2, none⟩ (.int .i64 (wrap64 (x132002_3 + ((rd_T46 l0 t134).f1))))).heap[gb131]? = some (.cells #[.int .i64 0, .bool false, .int .i64 (wrap64 (x132002_3 + ((rd_T46 l0 t134).f1))), .string (⟨#[]⟩ : ByteArray), u132004] 26 (0, 0))) := ⟨bkp BK131.out⟩
                    have n4_ : Aside0 ((w67.setCell ⟨gb131, 2, none⟩ (.int .i64 (wrap64 (x132002_3 + ((rd_T46 l0 t134).f1))))).heap[gb133]? = some (.cells #[.int .i64 ((rd_T61 l1 x44_3).f0), .string ((rd_T61 l1 x44_3).f1)] 61 (0, 0))) := ⟨bkf BK133.out⟩
                    have n5_ : Aside0 (Below w.heap.size w (w67.setCell ⟨gb131, 2, none⟩ (.int .i64 (wrap64 (x132002_3 + ((rd_T46 l0 t134).f1)))))) := ⟨bws HB.out⟩
                    (try clear HO_8)
                    (try clear HO_132004)
                    (try clear BK127)
                    (try clear BK131)
                    (try clear BK133)
                    (try clear HB)
                    generalize (w67.setCell ⟨gb131, 2, none⟩ (.int .i64 (wrap64 (x132002_3 + ((rd_T46 l0 t134).f1))))) = w69 at n0_ n1_ n2_ n3_ n4_ n5_ ⊢
                    have HO_8 := n0_
                    have HO_132004 := n1_
                    have BK127 := n2_
                    have BK131 := n3_
                    have BK133 := n4_
                    have HB := n5_
                    clear n0_ n1_ n2_ n3_ n4_ n5_
                    replace HO_8 := Aside0.mk (Kd.R_drew HO_8.out)
                    replace HO_132004 := Aside0.mk (Kd.R_drew HO_132004.out)
                    replace BK127 := Aside0.mk (blk_drew BK127.out)
                    replace BK131 := Aside0.mk (blk_drew BK131.out)
                    replace BK133 := Aside0.mk (blk_drew BK133.out)
                    replace HB := Aside0.mk (below_drew1 HB.out)
                    have p138 : 0 ≤ (t134 : Int) := of_decide_eq_true asm
                    have q138 : t134 < (l0.length : Int) := of_decide_eq_true asm
                    obtain ⟨ad138, A138_3, c138_3, e138, hx138_0, hx138_1, hx138_2, hx138_3, hl138_3, hi138_3⟩ := at_T46 HR0.out t134 p138 q138
                    have hw138_3 := hx138_3
                    have hw138_2 := hx138_2
                    have hw138_1 := hx138_1
                    have hw138_0 := hx138_0
                    obtain rfl : ad136 = ad138 := (by injection e138)
                    replace hx138_0 := bc HB.out hx138_0
                    replace hx138_1 := bc HB.out hx138_1
                    replace hx138_2 := bc HB.out hx138_2
                    replace hx138_3 := bc HB.out hx138_3
                    have HR138_3 := Aside0.mk hi138_3
                    have HC138_3 := Aside0.mk hl138_3
                    clear hi138_3 hl138_3
                    replace p138 := eq_true p138
                    replace q138 := eq_true q138
                    refine start_ (n := 10) (S := fun w' => w'.cell? ⟨gb131, 0, none⟩ = some (.int .i64 0) ∧ w'.cell? ⟨gb131, 1, none⟩ = some (.bool false) ∧ w'.cell? ⟨gb131, 2, none⟩ = some (.int .i64 (wrap64 (x132002_3 + ((rd_T46 l0 t134).f1)))) ∧ w'.cell? ⟨gb131, 3, none⟩ = some (.string (⟨#[]⟩ : ByteArray)) ∧ w'.cell? ⟨gb131, 4, none⟩ = some (u132004) ∧ w'.cell? (ad136.add ((t134).toNat * 4)) = some (.int .i64 ((rd_T46 l0 t134).f0)) ∧ w'.cell? ⟨(ad136.add ((t134).toNat * 4)).block, (ad136.add ((t134).toNat * 4)).off + 1, none⟩ = some (.int .i64 ((rd_T46 l0 t134).f1)) ∧ w'.cell? ⟨(ad136.add ((t134).toNat * 4)).block, (ad136.add ((t134).toNat * 4)).off + 2, none⟩ = some (.string ((rd_T46 l0 t134).f2)) ∧ w'.cell? ⟨(ad136.add ((t134).toNat * 4)).block, (ad136.add ((t134).toNat * 4)).off + 3, none⟩ = some (.slice A138_3 ((rd_T46 l0 t134).f3).length c138_3)) (ds := [9]) #[false, false, false, false, false, false, false, false, false, false] (by kernel_rfl) rfl rfl ⟨(blk_cell BK131.out 0).trans rfl, (blk_cell BK131.out 1).trans rfl, (blk_cell BK131.out 2).trans rfl, (blk_cell BK131.out 3).trans rfl, (blk_cell BK131.out 4).trans rfl, (bc HB.out hw138_0), (bc HB.out hw138_1), (bc HB.out hw138_2), (bc HB.out hw138_3)⟩ (fun hHeld => ?_); refine with_tabW parts_Join.tab18 parts_Join.bits18 (fun HT_ HW_ => ?_)
                    generalize w69.drew = w70 at HO_8 HO_132004 BK127 BK131 BK133 HB HR138_3 hx138_0 hx138_1 hx138_2 hx138_3 hHeld ⊢
                    refine pu 0 (some 78) HT_.out ?_
                    refine pu 2 (some 80) HT_.out ?_
                    refine pu 3 (some 81) HT_.out ?_
                    refine pu 4 (some 82) HT_.out ?_
                    refine pu 5 (some 83) HT_.out ?_
                    refine tk 1 (some 79) HT_.out HW_.out hHeld ?_
                    refine tk 6 (some 84) HT_.out HW_.out hHeld ?_
                    refine one_ (i := 7) (N := some 85) #[true, true, true, true, true, true, true, true, false, false] rfl rfl (one_of HT_.out (by kernel_rfl)) (by decide) (fun K hK => ?_)
                    refine Kd.R_append_rows_step k63 (w0 := w) w.heap.size (by rfl) (.tmp 79) (.tmp 84) 24 63 (.agg #[(.string ⟨#[]⟩), (.int .i64 0)]) 24 rfl Tryd.underlying24 info63 rfl (by decide) (by omega) u132004 x132004_3 ((rd_T46 l0 t134).f3) _ _ _ (fun _ => True) (fun _ => False) rfl rfl ?aO ?aR (fun _ _ h => h) (fun _ h => h.elim) ?aF ?aB ?aS ?aL ?_
                    (case aR => exact kC (Kd.C_below HR138_3.out HB.out))
                    (case aB => exact (bws HB.out))
                    (case aF => exact (fun _ _ => trivial))
                    (case aO => exact (kR HO_132004.out))
                    (case aS => exact (below_size (bws HB.out)))
                    (case aL => have := LMc29.out; omega)
                    intro v140 w71 ho hb hg hat
                    rw [← Ny139.out] at ho
                    have n0_ := Aside0.mk (Kd.R_over' (kR HO_8.out) (Kd.R_typed (kR HO_132004.out)) (by decide) hg)
                    have n1_ := Aside0.mk (blk_grown (g := gb127) (o := .cells #[.int .i64 x128000_3, .bool x128001_3, .int .i64 x128002_3, .string x128003_3, .slice none 0 0] 26 (0, 0)) (bk BK127.out) hg (Kd.R_ne HO_132004.out BK127.out (by decide)))
                    have n2_ := Aside0.mk (blk_grown (g := gb131) (o := .cells #[.int .i64 0, .bool false, .int .i64 (wrap64 (x132002_3 + ((rd_T46 l0 t134).f1))), .string (⟨#[]⟩ : ByteArray), u132004] 26 (0, 0)) (bk BK131.out) hg (Kd.R_ne HO_132004.out BK131.out (by decide)))
                    have n3_ := Aside0.mk (blk_grown (g := gb133) (o := .cells #[.int .i64 ((rd_T61 l1 x44_3).f0), .string ((rd_T61 l1 x44_3).f1)] 61 (0, 0)) (bk BK133.out) hg (Kd.R_ne HO_132004.out BK133.out (by decide)))
                    have n4_ := Aside0.mk (hb)
                    have n5_ := Aside0.mk (ho)
                    clear HO_8
                    clear BK127
                    clear BK131
                    clear BK133
                    clear HB
                    clear HO_132004
                    have HO_8 := n0_
                    have BK127 := n1_
                    have BK131 := n2_
                    have BK133 := n3_
                    have HB := n4_
                    have HO141 := n5_
                    clear n0_ n1_ n2_ n3_ n4_ n5_
                    clear ho hb hg hat
                    obtain ⟨Ao72, co72, eo72⟩ := Kd.R_slice HO141.out
                    (first | subst eo72 | (injection eo72 with f1_ f2_ f3_; have f4_ := f1_.symm; have f5_ := f3_.symm; clear f1_ f2_ f3_; subst f4_; subst f5_))
                    refine hK.out _ _ ⟨(blk_cell BK131.out 0).trans rfl, (blk_cell BK131.out 1).trans rfl, (blk_cell BK131.out 2).trans rfl, (blk_cell BK131.out 3).trans rfl, (blk_cell BK131.out 4).trans rfl, (bc HB.out hw138_0), (bc HB.out hw138_1), (bc HB.out hw138_2), (bc HB.out hw138_3)⟩ (fun hHeld => ?_)
                    clear hK K
                    refine norm_ (a' := ?_) ?_ ?_
                    rotate_left
                    ·
                     show Act.put _ (some 85) _ = _
                     simp only [Act.put, List.setIfInBounds_toArray, List.set_cons_zero, List.set_cons_succ, i64_w, i32_w]
                     rfl
                    refine pu 8 (some 86) HT_.out ?_
                    refine last_ (i := 9) (N := none) #[true, true, true, true, true, true, true, true, true, true] rfl rfl (one_of HT_.out (by kernel_rfl)) (by decide) (fun K hK => ?_)
                    have hs73 : w71.cell? ⟨gb131, 4, none⟩ = some (u132004) := (blk_cell BK131.out 4).trans rfl
                    have hfs73 := blk_frozen BK131.out 4
                    have hns73_0 := NB127_131.out
                    have hns73_2 := NB133_131.out
                    have hms73_0 := NB131_127.out
                    have hms73_2 := NB131_133.out
                    refine skip_ (w1 := ?_) (by rfl) rfl ?_ ?_
                    rotate_left
                    ·
                     go_simp
                     rfl
                    refine hK.out _ _ ?_
                    clear hK K
                    refine done_ (done_of HT_.out (by kernel_rfl)) ?_
                    have p142 : 0 ≤ (t134 : Int) := of_decide_eq_true asm
                    have q142 : t134 < (l0.length : Int) := of_decide_eq_true asm
                    obtain ⟨ad142, A142_3, c142_3, e142, hx142_0, hx142_1, hx142_2, hx142_3, hl142_3, hi142_3⟩ := at_T46 HR0.out t134 p142 q142
                    obtain rfl : ad136 = ad142 := (by injection e142)
                    have hn142_0 : ad136.block ≠ gb131 := Nat.ne_of_lt (Nat.lt_of_lt_of_le (by have := World.block_lt_of_cell? _ _ hx142_0; first | rwa [add_block] at this | exact this) GW131.out)
                    replace hx142_0 := bc HB.out hx142_0
                    replace hx142_1 := bc HB.out hx142_1
                    replace hx142_2 := bc HB.out hx142_2
                    replace hx142_3 := bc HB.out hx142_3
                    have HR142_3 := Aside0.mk hi142_3
                    have HC142_3 := Aside0.mk hl142_3
                    clear hi142_3 hl142_3
                    replace hx142_0 := (cell_far (p := ⟨gb131, 4, none⟩) (by first | (rw [add_block]; exact hn142_0) | (show (Addr.add _ _).block ≠ _; rw [add_block]; exact hn142_0) | exact hn142_0) (.slice Ao72 y139.length co72)).trans hx142_0
                    replace hx142_1 := (cell_far (p := ⟨gb131, 4, none⟩) (by first | (rw [add_block]; exact hn142_0) | (show (Addr.add _ _).block ≠ _; rw [add_block]; exact hn142_0) | exact hn142_0) (.slice Ao72 y139.length co72)).trans hx142_1
                    replace hx142_2 := (cell_far (p := ⟨gb131, 4, none⟩) (by first | (rw [add_block]; exact hn142_0) | (show (Addr.add _ _).block ≠ _; rw [add_block]; exact hn142_0) | exact hn142_0) (.slice Ao72 y139.length co72)).trans hx142_2
                    replace hx142_3 := (cell_far (p := ⟨gb131, 4, none⟩) (by first | (rw [add_block]; exact hn142_0) | (show (Addr.add _ _).block ≠ _; rw [add_block]; exact hn142_0) | exact hn142_0) (.slice Ao72 y139.length co72)).trans hx142_3
                    clear hn142_0
                    replace p142 := eq_true p142
                    replace q142 := eq_true q142
                    try go_wp2_with (first | ((with_reducible refine gate_builtin (b := .append) (xs := #[.tmp 87, .tmp 93]) rfl ?_); (try (refine gate_guard (by rfl) ?_; dsimp only)); at_builtin; refine Kd.R_append Kd.string (w0 := w) w.heap.size rfl (.tmp 87) (.tmp 93) 56 9 (.string ⟨#[]⟩) 16 rfl Tryd.underlying56 info9 rfl (by decide) (by omega) u8 x8_3 ((rd_T46 l0 t134).f2) [.string ((rd_T46 l0 t134).f2)] (fun _ => True) (fun _ => False) rfl (by first | (go_simp; done) | (go_simp; rfl)) ?aP (fun _ hk => hk.elim) ?aF ?aO ?aB ?aS ?aL ?_; (case aP => exact rfl); (case aB => exact (bws HB.out)); (case aF => exact (fun _ _ => trivial)); (case aO => exact (by (with_reducible repeat (first | apply Kd.R_alloc | apply Kd.R_drewN | apply Kd.R_drew)); exact Kd.R_mono (Kd.R_far (p := ⟨gb131, 4, none⟩) (Kd.R_types HO_8.out BK131.out (by decide)) (fun _ hk => hk.2) (.slice Ao72 y139.length co72)) (fun _ hk => trivial))); (case aS => exact (below_size (bws HB.out))); (case aL => have := LMc30.out; omega); intro v144 w74 ho hb hg hat; rw [← Ny143.out] at ho; have n0_ := Aside0.mk (blk_grown (g := gb127) (o := .cells #[.int .i64 x128000_3, .bool x128001_3, .int .i64 x128002_3, .string x128003_3, .slice none 0 0] 26 (0, 0)) (bkf BK127.out) hg (Kd.R_ne HO_8.out BK127.out (by decide))); have n1_ := Aside0.mk (blk_grown (g := gb131) (o := .cells #[.int .i64 0, .bool false, .int .i64 (wrap64 (x132002_3 + ((rd_T46 l0 t134).f1))), .string (⟨#[]⟩ : ByteArray), .slice Ao72 y139.length co72] 26 (0, 0)) (bkp BK131.out) hg (Kd.R_ne HO_8.out BK131.out (by decide))); have n2_ := Aside0.mk (blk_grown (g := gb133) (o := .cells #[.int .i64 ((rd_T61 l1 x44_3).f0), .string ((rd_T61 l1 x44_3).f1)] 61 (0, 0)) (bkf BK133.out) hg (Kd.R_ne HO_8.out BK133.out (by decide))); have n3_ := Aside0.mk (Kd.R_over' (by (with_reducible repeat (first | apply Kd.R_alloc | apply Kd.R_drewN | apply Kd.R_drew)); exact (Kd.R_mono (Kd.R_far (p := ⟨gb131, 4, none⟩) (Kd.R_types HO141.out BK131.out (by decide)) (fun _ hk => hk.2) (.slice Ao72 y139.length co72)) (fun _ h_ => h_.1))) (Kd.R_typed (by (with_reducible repeat (first | apply Kd.R_alloc | apply Kd.R_drewN | apply Kd.R_drew)); exact (Kd.R_mono (Kd.R_far (p := ⟨gb131, 4, none⟩) (Kd.R_types HO_8.out BK131.out (by decide)) (fun _ hk => hk.2) (.slice Ao72 y139.length co72)) (fun _ h_ => h_.1)))) (by decide) hg); have n4_ := Aside0.mk (hb); have n5_ := Aside0.mk (ho); clear BK127; clear BK131; clear BK133; clear HO141; clear HB; clear HO_8; have BK127 := n0_; have BK131 := n1_; have BK133 := n2_; have HO141 := n3_; have HB := n4_; have HO145 := n5_; clear n0_ n1_ n2_ n3_ n4_ n5_; clear ho hb hg hat))
                    go_roundg k3
                    case measure => have := HJ2.out; have := HK2.out; have := HK3.out; omega
                    case rel => exact ⟨(y143), (false), (wrap64 (x44_3 + 1)), (x128000_3), (x128001_3), (x128002_3), (x128003_3), (wrap64 (x132002_3 + ((rd_T46 l0 t134).f1))), (y139), (.slice Ao72 y139.length co72), (by first | rfl | (simp; done) | (simp [*]; done)), (by first | rfl | (simp; done) | (simp [*]; done)), H', ⟨by have := HJ2.out; have := HK2.out; have := HK3.out; omega⟩, ⟨kR HO145.out⟩, ⟨kR HO141.out⟩, ⟨bk BK127.out⟩, ⟨bk BK131.out⟩, ⟨bws HB.out⟩⟩
                 ·
                  rw [if_neg c30] at H
                  exact absurd H (by simp)
                ·
                 rw [if_neg c29] at H
                 exact absurd H (by simp)
               ·
                rw [if_neg c28] at H
                have c28b0 : (((rd_T46 l0 t134).f2).toList == ((rd_T61 l1 x44_3).f1).toList) = false := beq_eq_false_iff_ne.mpr c28
                have c28b1 : (((rd_T46 l0 t134).f2).toList != ((rd_T61 l1 x44_3).f1).toList) = true := bne_iff_ne.mpr c28
                simp only [Option.some.injEq, Prod.mk.injEq] at H
                obtain ⟨rfl, rfl, rfl, rfl, rfl, rfl⟩ := H
                have p132 : 0 ≤ (x44_3 : Int) := of_decide_eq_true asm
                have q132 : x44_3 < (l1.length : Int) := of_decide_eq_true asm
                obtain ⟨ad132, e132, hx132_0, hx132_1⟩ := at_T61 HR1.out x44_3 p132 q132
                cases e132
                replace hx132_0 := bc HB.out hx132_0
                replace hx132_1 := bc HB.out hx132_1
                replace p132 := eq_true p132
                replace q132 := eq_true q132
                try go_wp2_with (first | ((with_reducible refine gate_dst (N := 11) rfl ?_); (try (refine gate_guard (by rfl) ?_; dsimp only)); refine box_event ?hg (N := 11) ?hd (cs := #[.int .i64 0, .string (⟨#[]⟩ : ByteArray)]) (t := 61) ?hr ?_; (case hd => rfl); (case hg => rfl); (case hr => first | (go_simp; done) | (go_simp; rfl)); intro gb133 hg w75 hbox hb; have n0_ := Aside0.mk (Kd.R_below (kR HO_8.out) hb); have n1_ := Aside0.mk (Kd.R_below (kR HO_132004.out) hb); have n2_ := Aside0.mk (blk_below (g := gb127) (o := .cells #[.int .i64 x128000_3, .bool x128001_3, .int .i64 x128002_3, .string x128003_3, .slice none 0 0] 26 (0, 0)) (bk BK127.out) hb); have n3_ := Aside0.mk (blk_below (g := gb131) (o := .cells #[.int .i64 0, .bool false, .int .i64 x132002_3, .string (⟨#[]⟩ : ByteArray), u132004] 26 (0, 0)) (bk BK131.out) hb); have n4_ := Aside0.mk (below_step (bws HB.out) hb); have n5_ := Aside0.mk (hbox); have n6_ := Aside0.mk ((by rw [hg]; exact (below_size (bws HB.out)) : w.heap.size ≤ gb133)); have n7_ := Aside0.mk ((by rw [hg]; exact (below_size (bws HB.out)) : w.heap.size ≤ gb133)); have n8_ := Aside0.mk ((by rw [hg]; exact Nat.ne_of_lt (blk_lt (g := gb127) (o := .cells #[.int .i64 x128000_3, .bool x128001_3, .int .i64 x128002_3, .string x128003_3, .slice none 0 0] 26 (0, 0)) (bk BK127.out)) : gb127 ≠ gb133)); have n9_ := Aside0.mk ((by rw [hg]; exact Nat.ne_of_gt (blk_lt (g := gb127) (o := .cells #[.int .i64 x128000_3, .bool x128001_3, .int .i64 x128002_3, .string x128003_3, .slice none 0 0] 26 (0, 0)) (bk BK127.out)) : gb133 ≠ gb127)); have n10_ := Aside0.mk ((by rw [hg]; exact Nat.ne_of_lt (blk_lt (g := gb131) (o := .cells #[.int .i64 0, .bool false, .int .i64 x132002_3, .string (⟨#[]⟩ : ByteArray), u132004] 26 (0, 0)) (bk BK131.out)) : gb131 ≠ gb133)); have n11_ := Aside0.mk ((by rw [hg]; exact Nat.ne_of_gt (blk_lt (g := gb131) (o := .cells #[.int .i64 0, .bool false, .int .i64 x132002_3, .string (⟨#[]⟩ : ByteArray), u132004] 26 (0, 0)) (bk BK131.out)) : gb133 ≠ gb131)); clear HO_8; clear HO_132004; clear BK127; clear BK131; clear HB; have HO_8 := n0_; have HO_132004 := n1_; have BK127 := n2_; have BK131 := n3_; have HB := n4_; have BK133 := n5_; have GW133 := n6_; have GE133 := n7_; have NB127_133 := n8_; have NB133_127 := n9_; have NB131_133 := n10_; have NB133_131 := n11_; clear n0_ n1_ n2_ n3_ n4_ n5_ n6_ n7_ n8_ n9_ n10_ n11_; clear hb hbox hg; have hnb76 := NB133_127.out; have hnc76 := NB127_133.out; have hnb77 := NB133_131.out; have hnc77 := NB131_133.out; have hcz78_0 : w75.cell? ⟨gb133, 0, none⟩ = some (.int .i64 0) := (blk_cell BK133.out 0).trans rfl; have hcz78_1 : w75.cell? ⟨gb133, 1, none⟩ = some (.string (⟨#[]⟩ : ByteArray)) := (blk_cell BK133.out 1).trans rfl; have hfz78_0 := blk_frozen BK133.out 0; have hfz78_1 := blk_frozen BK133.out 1) | ((with_reducible refine gate_callee (f := 30) rfl ?_); refine goesL_ (some 53) rfl rfl Tryd.func30 (by kernel_rfl) rfl #[.slice A0 l0.length c0, .int .i64 ((rd_T61 l1 x44_3).f0)] rfl gl ?_; (with_reducible refine (parts_find.calls _ _ l0 ((rd_T61 l1 x44_3).f0) t134 true _ ?side1 ?side2 A24.out).mono ?_); (case side1 => exact Kd.C_below HR0.out (bws HB.out)); (case side2 => exact HC0.out); rintro e w79 ⟨rfl, hb⟩; refine ⟨_, rfl, ?_⟩; replace HO_8 := Aside0.mk (Kd.R_below (by (with_reducible repeat (first | apply Kd.R_alloc | apply Kd.R_drewN | apply Kd.R_drew)); exact (Kd.R_mono (Kd.R_far (p := ⟨gb133, 1, none⟩) (Kd.R_far (p := ⟨gb133, 0, none⟩) (Kd.R_types HO_8.out BK133.out (by decide)) (fun _ hk => hk.2) (.int .i64 ((rd_T61 l1 x44_3).f0))) (fun _ hk => hk.2) (.string ((rd_T61 l1 x44_3).f1))) (fun _ h_ => h_.1))) hb); replace HO_132004 := Aside0.mk (Kd.R_below (by (with_reducible repeat (first | apply Kd.R_alloc | apply Kd.R_drewN | apply Kd.R_drew)); exact (Kd.R_mono (Kd.R_far (p := ⟨gb133, 1, none⟩) (Kd.R_far (p := ⟨gb133, 0, none⟩) (Kd.R_types HO_132004.out BK133.out (by decide)) (fun _ hk => hk.2) (.int .i64 ((rd_T61 l1 x44_3).f0))) (fun _ hk => hk.2) (.string ((rd_T61 l1 x44_3).f1))) (fun _ h_ => h_.1))) hb); replace BK127 := Aside0.mk (blk_below (g := gb127) (o := .cells #[.int .i64 x128000_3, .bool x128001_3, .int .i64 x128002_3, .string x128003_3, .slice none 0 0] 26 (0, 0)) (bkf BK127.out) hb); replace BK131 := Aside0.mk (blk_below (g := gb131) (o := .cells #[.int .i64 0, .bool false, .int .i64 x132002_3, .string (⟨#[]⟩ : ByteArray), u132004] 26 (0, 0)) (bkf BK131.out) hb); replace BK133 := Aside0.mk (blk_below (g := gb133) (o := .cells #[.int .i64 ((rd_T61 l1 x44_3).f0), .string ((rd_T61 l1 x44_3).f1)] 61 (0, 0)) (bkp BK133.out) hb); replace HB := Aside0.mk (below_step (bws HB.out) hb); (try clear hb); (try clear hb2); (try clear hk); (try clear hi)))
                replace HO_8 := Aside0.mk (Kd.R_drew HO_8.out)
                replace HO_132004 := Aside0.mk (Kd.R_drew HO_132004.out)
                replace BK127 := Aside0.mk (blk_drew BK127.out)
                replace BK131 := Aside0.mk (blk_drew BK131.out)
                replace BK133 := Aside0.mk (blk_drew BK133.out)
                replace HB := Aside0.mk (below_drew1 HB.out)
                have p136 : 0 ≤ (t134 : Int) := of_decide_eq_true asm
                have q136 : t134 < (l0.length : Int) := of_decide_eq_true asm
                obtain ⟨ad136, A136_3, c136_3, e136, hx136_0, hx136_1, hx136_2, hx136_3, hl136_3, hi136_3⟩ := at_T46 HR0.out t134 p136 q136
                have hw136_3 := hx136_3
                have hw136_2 := hx136_2
                have hw136_1 := hx136_1
                have hw136_0 := hx136_0
                cases e136
                replace hx136_0 := bc HB.out hx136_0
                replace hx136_1 := bc HB.out hx136_1
                replace hx136_2 := bc HB.out hx136_2
                replace hx136_3 := bc HB.out hx136_3
                have HR136_3 := Aside0.mk hi136_3
                have HC136_3 := Aside0.mk hl136_3
                clear hi136_3 hl136_3
                replace p136 := eq_true p136
                replace q136 := eq_true q136
                refine start_ (n := 12) (S := fun w' => w'.cell? ⟨gb133, 0, none⟩ = some (.int .i64 ((rd_T61 l1 x44_3).f0)) ∧ w'.cell? ⟨gb133, 1, none⟩ = some (.string ((rd_T61 l1 x44_3).f1)) ∧ w'.cell? (ad136.add ((t134).toNat * 4)) = some (.int .i64 ((rd_T46 l0 t134).f0)) ∧ w'.cell? ⟨(ad136.add ((t134).toNat * 4)).block, (ad136.add ((t134).toNat * 4)).off + 1, none⟩ = some (.int .i64 ((rd_T46 l0 t134).f1)) ∧ w'.cell? ⟨(ad136.add ((t134).toNat * 4)).block, (ad136.add ((t134).toNat * 4)).off + 2, none⟩ = some (.string ((rd_T46 l0 t134).f2)) ∧ w'.cell? ⟨(ad136.add ((t134).toNat * 4)).block, (ad136.add ((t134).toNat * 4)).off + 3, none⟩ = some (.slice A136_3 ((rd_T46 l0 t134).f3).length c136_3)) (ds := []) #[false, false, false, false, false, false, false, false, false, false, false, false] (by kernel_rfl) rfl rfl ⟨(blk_cell BK133.out 0).trans rfl, (blk_cell BK133.out 1).trans rfl, (bc HB.out hw136_0), (bc HB.out hw136_1), (bc HB.out hw136_2), (bc HB.out hw136_3)⟩ (fun hHeld => ?_); refine with_tabW parts_Join.tab15 parts_Join.bits15 (fun HT_ HW_ => ?_)
                generalize w79.drew = w80 at HO_8 HO_132004 BK127 BK131 BK133 HB HR136_3 hx136_0 hx136_1 hx136_2 hx136_3 hHeld ⊢
                refine pu 0 (some 56) HT_.out ?_
                refine pu 1 (some 57) HT_.out ?_
                refine pu 2 (some 58) HT_.out ?_
                refine pu 3 (some 59) HT_.out ?_
                refine pu 4 (some 60) HT_.out ?_
                refine pu 5 (some 61) HT_.out ?_
                refine pu 6 (some 62) HT_.out ?_
                refine pu 8 (some 64) HT_.out ?_
                refine tk 7 (some 63) HT_.out HW_.out hHeld ?_
                refine tk 9 (some 65) HT_.out HW_.out hHeld ?_
                refine pu 10 (some 66) HT_.out ?_
                refine pu 11 (some 67) HT_.out ?_
                refine done_ (done_of HT_.out (by kernel_rfl)) ?_
                have hnb81 := NB127_131.out
                have hnc81 := NB131_127.out
                have hcz82_0 : w80.cell? ⟨gb127, 0, none⟩ = some (.int .i64 x128000_3) := (blk_cell BK127.out 0).trans rfl
                have hcz82_1 : w80.cell? ⟨gb127, 1, none⟩ = some (.bool x128001_3) := (blk_cell BK127.out 1).trans rfl
                have hcz82_2 : w80.cell? ⟨gb127, 2, none⟩ = some (.int .i64 x128002_3) := (blk_cell BK127.out 2).trans rfl
                have hcz82_3 : w80.cell? ⟨gb127, 3, none⟩ = some (.string x128003_3) := (blk_cell BK127.out 3).trans rfl
                have hcz82_4 : w80.cell? ⟨gb127, 4, none⟩ = some (.slice none 0 0) := (blk_cell BK127.out 4).trans rfl
                have hfz82_0 := blk_frozen BK127.out 0
                have hfz82_1 := blk_frozen BK127.out 1
                have hfz82_2 := blk_frozen BK127.out 2
                have hfz82_3 := blk_frozen BK127.out 3
                have hfz82_4 := blk_frozen BK127.out 4
                try go_wp2
                refine bodyPost_ret (results_ct rfl _ _ gb127 26 #[.int .i64 0, .bool false, .int .i64 0, .string (⟨#[]⟩ : ByteArray), .slice none 0 0] (0, 0) _ rfl (bkp BK127.out) Tryd.underlying26 rfl (by kernel_rfl)) rfl ?_
                exact ⟨_, by first | rfl | (simp [errW_none, errW_some] <;> rfl) | (simp [*, errW_none, errW_some] <;> rfl), by first | exact Kd.R_nil _ _ _ _ _ | exact Kd.N_nil _ _ _ _ _ | exact Kd.V_nil _ _ _ _ _ | exact Kd.Q_nil _ _ _ _ _ | exact Kd.S_nil _ _ _ _ _, by repeat (first | (with_reducible first | exact HB.out | apply below_alloc | apply pw_below_drewN | apply below_drew1 | refine below_set ?_ GE127.out | refine below_set ?_ GE131.out | refine below_set ?_ GE133.out) | exact HB.out)⟩
              ·
               rw [if_neg c27] at H
               exact absurd H (by simp)
             ·
              rw [if_neg c26] at H
              exact absurd H (by simp)
            ·
             replace c25 := Bool.eq_false_iff.mpr c25
             subst c25
             have H1 : (some (0, false, 0, (⟨#[]⟩ : ByteArray), ([] : List (S63)), 140)) = some (r1, r2, r3, r4, r5, r6) := by rw [if_neg (show ¬ (false = true) by decide)] at H; exact H
             clear H
             have H := H1
             clear H1
             simp only [Option.some.injEq, Prod.mk.injEq] at H
             obtain ⟨rfl, rfl, rfl, rfl, rfl, rfl⟩ := H
             have p132 : 0 ≤ (x44_3 : Int) := of_decide_eq_true asm
             have q132 : x44_3 < (l1.length : Int) := of_decide_eq_true asm
             obtain ⟨ad132, e132, hx132_0, hx132_1⟩ := at_T61 HR1.out x44_3 p132 q132
             cases e132
             replace hx132_0 := bc HB.out hx132_0
             replace hx132_1 := bc HB.out hx132_1
             replace p132 := eq_true p132
             replace q132 := eq_true q132
             try go_wp2_with (first | ((with_reducible refine gate_dst (N := 11) rfl ?_); (try (refine gate_guard (by rfl) ?_; dsimp only)); refine box_event ?hg (N := 11) ?hd (cs := #[.int .i64 0, .string (⟨#[]⟩ : ByteArray)]) (t := 61) ?hr ?_; (case hd => rfl); (case hg => rfl); (case hr => first | (go_simp; done) | (go_simp; rfl)); intro gb133 hg w83 hbox hb; have n0_ := Aside0.mk (Kd.R_below (kR HO_8.out) hb); have n1_ := Aside0.mk (Kd.R_below (kR HO_132004.out) hb); have n2_ := Aside0.mk (blk_below (g := gb127) (o := .cells #[.int .i64 x128000_3, .bool x128001_3, .int .i64 x128002_3, .string x128003_3, .slice none 0 0] 26 (0, 0)) (bk BK127.out) hb); have n3_ := Aside0.mk (blk_below (g := gb131) (o := .cells #[.int .i64 0, .bool false, .int .i64 x132002_3, .string (⟨#[]⟩ : ByteArray), u132004] 26 (0, 0)) (bk BK131.out) hb); have n4_ := Aside0.mk (below_step (bws HB.out) hb); have n5_ := Aside0.mk (hbox); have n6_ := Aside0.mk ((by rw [hg]; exact (below_size (bws HB.out)) : w.heap.size ≤ gb133)); have n7_ := Aside0.mk ((by rw [hg]; exact (below_size (bws HB.out)) : w.heap.size ≤ gb133)); have n8_ := Aside0.mk ((by rw [hg]; exact Nat.ne_of_lt (blk_lt (g := gb127) (o := .cells #[.int .i64 x128000_3, .bool x128001_3, .int .i64 x128002_3, .string x128003_3, .slice none 0 0] 26 (0, 0)) (bk BK127.out)) : gb127 ≠ gb133)); have n9_ := Aside0.mk ((by rw [hg]; exact Nat.ne_of_gt (blk_lt (g := gb127) (o := .cells #[.int .i64 x128000_3, .bool x128001_3, .int .i64 x128002_3, .string x128003_3, .slice none 0 0] 26 (0, 0)) (bk BK127.out)) : gb133 ≠ gb127)); have n10_ := Aside0.mk ((by rw [hg]; exact Nat.ne_of_lt (blk_lt (g := gb131) (o := .cells #[.int .i64 0, .bool false, .int .i64 x132002_3, .string (⟨#[]⟩ : ByteArray), u132004] 26 (0, 0)) (bk BK131.out)) : gb131 ≠ gb133)); have n11_ := Aside0.mk ((by rw [hg]; exact Nat.ne_of_gt (blk_lt (g := gb131) (o := .cells #[.int .i64 0, .bool false, .int .i64 x132002_3, .string (⟨#[]⟩ : ByteArray), u132004] 26 (0, 0)) (bk BK131.out)) : gb133 ≠ gb131)); clear HO_8; clear HO_132004; clear BK127; clear BK131; clear HB; have HO_8 := n0_; have HO_132004 := n1_; have BK127 := n2_; have BK131 := n3_; have HB := n4_; have BK133 := n5_; have GW133 := n6_; have GE133 := n7_; have NB127_133 := n8_; have NB133_127 := n9_; have NB131_133 := n10_; have NB133_131 := n11_; clear n0_ n1_ n2_ n3_ n4_ n5_ n6_ n7_ n8_ n9_ n10_ n11_; clear hb hbox hg; have hnb84 := NB133_127.out; have hnc84 := NB127_133.out; have hnb85 := NB133_131.out; have hnc85 := NB131_133.out; have hcz86_0 : w83.cell? ⟨gb133, 0, none⟩ = some (.int .i64 0) := (blk_cell BK133.out 0).trans rfl; have hcz86_1 : w83.cell? ⟨gb133, 1, none⟩ = some (.string (⟨#[]⟩ : ByteArray)) := (blk_cell BK133.out 1).trans rfl; have hfz86_0 := blk_frozen BK133.out 0; have hfz86_1 := blk_frozen BK133.out 1) | ((with_reducible refine gate_callee (f := 30) rfl ?_); refine goesL_ (some 53) rfl rfl Tryd.func30 (by kernel_rfl) rfl #[.slice A0 l0.length c0, .int .i64 ((rd_T61 l1 x44_3).f0)] rfl gl ?_; (with_reducible refine (parts_find.calls _ _ l0 ((rd_T61 l1 x44_3).f0) t134 false _ ?side1 ?side2 A24.out).mono ?_); (case side1 => exact Kd.C_below HR0.out (bws HB.out)); (case side2 => exact HC0.out); rintro e w87 ⟨rfl, hb⟩; refine ⟨_, rfl, ?_⟩; replace HO_8 := Aside0.mk (Kd.R_below (by (with_reducible repeat (first | apply Kd.R_alloc | apply Kd.R_drewN | apply Kd.R_drew)); exact (Kd.R_mono (Kd.R_far (p := ⟨gb133, 1, none⟩) (Kd.R_far (p := ⟨gb133, 0, none⟩) (Kd.R_types HO_8.out BK133.out (by decide)) (fun _ hk => hk.2) (.int .i64 ((rd_T61 l1 x44_3).f0))) (fun _ hk => hk.2) (.string ((rd_T61 l1 x44_3).f1))) (fun _ h_ => h_.1))) hb); replace HO_132004 := Aside0.mk (Kd.R_below (by (with_reducible repeat (first | apply Kd.R_alloc | apply Kd.R_drewN | apply Kd.R_drew)); exact (Kd.R_mono (Kd.R_far (p := ⟨gb133, 1, none⟩) (Kd.R_far (p := ⟨gb133, 0, none⟩) (Kd.R_types HO_132004.out BK133.out (by decide)) (fun _ hk => hk.2) (.int .i64 ((rd_T61 l1 x44_3).f0))) (fun _ hk => hk.2) (.string ((rd_T61 l1 x44_3).f1))) (fun _ h_ => h_.1))) hb); replace BK127 := Aside0.mk (blk_below (g := gb127) (o := .cells #[.int .i64 x128000_3, .bool x128001_3, .int .i64 x128002_3, .string x128003_3, .slice none 0 0] 26 (0, 0)) (bkf BK127.out) hb); replace BK131 := Aside0.mk (blk_below (g := gb131) (o := .cells #[.int .i64 0, .bool false, .int .i64 x132002_3, .string (⟨#[]⟩ : ByteArray), u132004] 26 (0, 0)) (bkf BK131.out) hb); replace BK133 := Aside0.mk (blk_below (g := gb133) (o := .cells #[.int .i64 ((rd_T61 l1 x44_3).f0), .string ((rd_T61 l1 x44_3).f1)] 61 (0, 0)) (bkp BK133.out) hb); replace HB := Aside0.mk (below_step (bws HB.out) hb); (try clear hb); (try clear hb2); (try clear hk); (try clear hi)))
             replace HO_8 := Aside0.mk (Kd.R_drew HO_8.out)
             replace HO_132004 := Aside0.mk (Kd.R_drew HO_132004.out)
             replace BK127 := Aside0.mk (blk_drew BK127.out)
             replace BK131 := Aside0.mk (blk_drew BK131.out)
             replace BK133 := Aside0.mk (blk_drew BK133.out)
             replace HB := Aside0.mk (below_drew1 HB.out)
             refine start_ (n := 12) (S := fun w' => True) (ds := []) #[false, false, false, false, false, false, false, false, false, false, false, false] (by kernel_rfl) rfl rfl trivial (fun hHeld => ?_); refine with_tabW parts_Join.tab15 parts_Join.bits15 (fun HT_ HW_ => ?_)
             generalize w87.drew = w88 at HO_8 HO_132004 BK127 BK131 BK133 HB hHeld ⊢
             refine pu 0 (some 56) HT_.out ?_
             refine pu 1 (some 57) HT_.out ?_
             refine pu 2 (some 58) HT_.out ?_
             refine un 3 (some 59) HT_.out ?_
             refine un 4 (some 60) HT_.out ?_
             refine un 5 (some 61) HT_.out ?_
             refine un 6 (some 62) HT_.out ?_
             refine un 7 (some 63) HT_.out ?_
             refine un 8 (some 64) HT_.out ?_
             refine un 9 (some 65) HT_.out ?_
             refine un 10 (some 66) HT_.out ?_
             refine pu 11 (some 67) HT_.out ?_
             refine done_ (done_of HT_.out (by kernel_rfl)) ?_
             have hnb89 := NB127_131.out
             have hnc89 := NB131_127.out
             have hcz90_0 : w88.cell? ⟨gb127, 0, none⟩ = some (.int .i64 x128000_3) := (blk_cell BK127.out 0).trans rfl
             have hcz90_1 : w88.cell? ⟨gb127, 1, none⟩ = some (.bool x128001_3) := (blk_cell BK127.out 1).trans rfl
             have hcz90_2 : w88.cell? ⟨gb127, 2, none⟩ = some (.int .i64 x128002_3) := (blk_cell BK127.out 2).trans rfl
             have hcz90_3 : w88.cell? ⟨gb127, 3, none⟩ = some (.string x128003_3) := (blk_cell BK127.out 3).trans rfl
             have hcz90_4 : w88.cell? ⟨gb127, 4, none⟩ = some (.slice none 0 0) := (blk_cell BK127.out 4).trans rfl
             have hfz90_0 := blk_frozen BK127.out 0
             have hfz90_1 := blk_frozen BK127.out 1
             have hfz90_2 := blk_frozen BK127.out 2
             have hfz90_3 := blk_frozen BK127.out 3
             have hfz90_4 := blk_frozen BK127.out 4
             try go_wp2
             refine bodyPost_ret (results_ct rfl _ _ gb127 26 #[.int .i64 0, .bool false, .int .i64 0, .string (⟨#[]⟩ : ByteArray), .slice none 0 0] (0, 0) _ rfl (bkp BK127.out) Tryd.underlying26 rfl (by kernel_rfl)) rfl ?_
             exact ⟨_, by first | rfl | (simp [errW_none, errW_some] <;> rfl) | (simp [*, errW_none, errW_some] <;> rfl), by first | exact Kd.R_nil _ _ _ _ _ | exact Kd.N_nil _ _ _ _ _ | exact Kd.V_nil _ _ _ _ _ | exact Kd.Q_nil _ _ _ _ _ | exact Kd.S_nil _ _ _ _ _, by repeat (first | (with_reducible first | exact HB.out | apply below_alloc | apply pw_below_drewN | apply below_drew1 | refine below_set ?_ GE127.out | refine below_set ?_ GE131.out | refine below_set ?_ GE133.out) | exact HB.out)⟩
           ·
            rw [if_neg c23] at H
            exact absurd H (by simp)
          ·
           rw [if_neg c22] at H
           exact absurd H (by simp)
         ·
          rw [if_neg c21] at H
          have c21b0 : decide (x44_3 < (l1.length : Int)) = false := decide_eq_false c21
          clear c21
          by_cases c91 : x9_3 = true
          ·
           subst c91
           have H1 : (some (0, false, 0, (⟨#[]⟩ : ByteArray), ([] : List (S63)), 141)) = some (r1, r2, r3, r4, r5, r6) := by rw [if_pos rfl] at H; exact H
           clear H
           have H := H1
           clear H1
           simp only [Option.some.injEq, Prod.mk.injEq] at H
           obtain ⟨rfl, rfl, rfl, rfl, rfl, rfl⟩ := H
           have hnb92 := NB127_131.out
           have hnc92 := NB131_127.out
           have hcz93_0 : wr.cell? ⟨gb127, 0, none⟩ = some (.int .i64 x128000_3) := (blk_cell BK127.out 0).trans rfl
           have hcz93_1 : wr.cell? ⟨gb127, 1, none⟩ = some (.bool x128001_3) := (blk_cell BK127.out 1).trans rfl
           have hcz93_2 : wr.cell? ⟨gb127, 2, none⟩ = some (.int .i64 x128002_3) := (blk_cell BK127.out 2).trans rfl
           have hcz93_3 : wr.cell? ⟨gb127, 3, none⟩ = some (.string x128003_3) := (blk_cell BK127.out 3).trans rfl
           have hcz93_4 : wr.cell? ⟨gb127, 4, none⟩ = some (.slice none 0 0) := (blk_cell BK127.out 4).trans rfl
           have hfz93_0 := blk_frozen BK127.out 0
           have hfz93_1 := blk_frozen BK127.out 1
           have hfz93_2 := blk_frozen BK127.out 2
           have hfz93_3 := blk_frozen BK127.out 3
           have hfz93_4 := blk_frozen BK127.out 4
           go_wp2
           refine bodyPost_ret (results_ct rfl _ _ gb127 26 #[.int .i64 0, .bool false, .int .i64 0, .string (⟨#[]⟩ : ByteArray), .slice none 0 0] (0, 0) _ rfl (bkp BK127.out) Tryd.underlying26 rfl (by kernel_rfl)) rfl ?_
           exact ⟨_, by first | rfl | (simp [errW_none, errW_some] <;> rfl) | (simp [*, errW_none, errW_some] <;> rfl), by first | exact Kd.R_nil _ _ _ _ _ | exact Kd.N_nil _ _ _ _ _ | exact Kd.V_nil _ _ _ _ _ | exact Kd.Q_nil _ _ _ _ _ | exact Kd.S_nil _ _ _ _ _, by repeat (first | (with_reducible first | exact HB.out | apply below_alloc | apply pw_below_drewN | apply below_drew1 | refine below_set ?_ GE127.out | refine below_set ?_ GE131.out) | exact HB.out)⟩
          ·
           replace c91 := Bool.eq_false_iff.mpr c91
           subst c91
           have H1 : (if x132002_3 > 1048576 then (parts_Join.j3 k3 x8_3 true 0 false x132002_3 (⟨#[]⟩ : ByteArray) x132004_3) else (parts_Join.j3 k3 x8_3 (decide ((x132004_3.length : Int) > 512)) 0 false x132002_3 (⟨#[]⟩ : ByteArray) x132004_3)) = some (r1, r2, r3, r4, r5, r6) := by rw [if_neg (show ¬ (false = true) by decide)] at H; exact H
           clear H
           have H := H1
           clear H1
           have HC94 := Aside0.mk H
           clear H
           go_upto_region 24 with (fail)
           go_cut [122] (fun v122 wc => ∃ (kq : Nat) (x122_93 : Bool), v122 = .bool x122_93 ∧ Aside0 (parts_Join.j3 kq x8_3 x122_93 0 false x132002_3 (⟨#[]⟩ : ByteArray) x132004_3 = some (r1, r2, r3, r4, r5, r6)) ∧ Aside0 (kq ≤ k3) ∧ Aside0 (Kd.R Kd.string 9 wc w.heap.size (fun _ => True) u8 x8_3) ∧ Aside0 (Kd.R k63 63 wc w.heap.size (fun _ => True) u132004 x132004_3) ∧ Aside0 (wc.heap[gb127]? = some (.cells #[.int .i64 x128000_3, .bool x128001_3, .int .i64 x128002_3, .string x128003_3, (.slice none 0 0)] 26 (0, 0))) ∧ Aside0 (wc.heap[gb131]? = some (.cells #[.int .i64 0, .bool false, .int .i64 x132002_3, .string (⟨#[]⟩ : ByteArray), u132004] 26 (0, 0))) ∧ Aside0 (Below w.heap.size w wc))
           case first =>
            have H := HC94.out
            clear HC94
            by_cases c95 : x132002_3 > 1048576
            ·
             rw [if_pos c95] at H
             have c95b0 : decide (1048576 < x132002_3) = true := decide_eq_true c95
             clear c95
             (first | rw [c95b0] | (simp only [i64_w, i32_w]; rw [c95b0]) | skip)
             have H' := Aside0.mk H
             clear H
             have hnb96 := NB131_127.out
             have hnc96 := NB127_131.out
             have hcz97_0 : wr.cell? ⟨gb131, 0, none⟩ = some (.int .i64 0) := (blk_cell BK131.out 0).trans rfl
             have hcz97_1 : wr.cell? ⟨gb131, 1, none⟩ = some (.bool false) := (blk_cell BK131.out 1).trans rfl
             have hcz97_2 : wr.cell? ⟨gb131, 2, none⟩ = some (.int .i64 x132002_3) := (blk_cell BK131.out 2).trans rfl
             have hcz97_3 : wr.cell? ⟨gb131, 3, none⟩ = some (.string (⟨#[]⟩ : ByteArray)) := (blk_cell BK131.out 3).trans rfl
             have hcz97_4 : wr.cell? ⟨gb131, 4, none⟩ = some (u132004) := (blk_cell BK131.out 4).trans rfl
             have hfz97_0 := blk_frozen BK131.out 0
             have hfz97_1 := blk_frozen BK131.out 1
             have hfz97_2 := blk_frozen BK131.out 2
             have hfz97_3 := blk_frozen BK131.out 3
             have hfz97_4 := blk_frozen BK131.out 4
             go_wp2
             go_meet
             case rel => exact ⟨_, (true), (by first | rfl | (simp; done) | (simp [*]; done)), H', ⟨by have := HJ2.out; have := HK2.out; have := HK3.out; first | omega | exact Nat.le_refl _⟩, ⟨kR HO_8.out⟩, ⟨kR HO_132004.out⟩, ⟨bk BK127.out⟩, ⟨bk BK131.out⟩, ⟨bws HB.out⟩⟩
            ·
             rw [if_neg c95] at H
             have c95b0 : decide (1048576 < x132002_3) = false := decide_eq_false c95
             clear c95
             (first | rw [c95b0] | (simp only [i64_w, i32_w]; rw [c95b0]) | skip)
             have H' := Aside0.mk H
             clear H
             have hnb98 := NB131_127.out
             have hnc98 := NB127_131.out
             have hcz99_0 : wr.cell? ⟨gb131, 0, none⟩ = some (.int .i64 0) := (blk_cell BK131.out 0).trans rfl
             have hcz99_1 : wr.cell? ⟨gb131, 1, none⟩ = some (.bool false) := (blk_cell BK131.out 1).trans rfl
             have hcz99_2 : wr.cell? ⟨gb131, 2, none⟩ = some (.int .i64 x132002_3) := (blk_cell BK131.out 2).trans rfl
             have hcz99_3 : wr.cell? ⟨gb131, 3, none⟩ = some (.string (⟨#[]⟩ : ByteArray)) := (blk_cell BK131.out 3).trans rfl
             have hcz99_4 : wr.cell? ⟨gb131, 4, none⟩ = some (u132004) := (blk_cell BK131.out 4).trans rfl
             have hfz99_0 := blk_frozen BK131.out 0
             have hfz99_1 := blk_frozen BK131.out 1
             have hfz99_2 := blk_frozen BK131.out 2
             have hfz99_3 := blk_frozen BK131.out 3
             have hfz99_4 := blk_frozen BK131.out 4
             obtain ⟨Ao100, co100, eo100⟩ := Kd.R_slice HO_132004.out
             subst eo100
             go_wp2
             go_meet
             case rel => exact ⟨_, (decide ((x132004_3.length : Int) > 512)), (by first | rfl | (simp; done) | (simp [*]; done)), H', ⟨by have := HJ2.out; have := HK2.out; have := HK3.out; first | omega | exact Nat.le_refl _⟩, ⟨kR HO_8.out⟩, ⟨kR HO_132004.out⟩, ⟨bk BK127.out⟩, ⟨bk BK131.out⟩, ⟨bws HB.out⟩⟩
           case rest =>
            clear HC94
            try clear c1
            try clear p1
            try clear q1
            try clear hx1
            try clear c2
            try clear p2
            try clear c3
            try clear p6
            try clear c7
            try clear c8
            try clear c9
            try clear c13
            try clear p13
            try clear q13
            try clear hx13
            try clear c14
            try clear p14
            try clear q14
            try clear hx14
            try clear c21
            try clear c21b0
            try clear c22
            try clear c23
            try clear c25
            try clear c26
            try clear c27
            try clear c28
            try clear c28b0
            try clear c28b1
            try clear c29
            try clear c30
            try clear p64
            try clear c76
            try clear c77
            try clear c81
            try clear c84
            try clear c85
            try clear c89
            try clear c91
            try clear c92
            try clear c95
            try clear c95b0
            try clear c96
            try clear c98
            try clear hcz78_0
            try clear hcz78_1
            try clear hcz82_0
            try clear hcz82_1
            try clear hcz82_2
            try clear hcz82_3
            try clear hcz82_4
            try clear hcz86_0
            try clear hcz86_1
            try clear hcz90_0
            try clear hcz90_1
            try clear hcz90_2
            try clear hcz90_3
            try clear hcz90_4
            try clear hcz93_0
            try clear hcz93_1
            try clear hcz93_2
            try clear hcz93_3
            try clear hcz93_4
            try clear hcz97_0
            try clear hcz97_1
            try clear hcz97_2
            try clear hcz97_3
            try clear hcz97_4
            try clear hcz99_0
            try clear hcz99_1
            try clear hcz99_2
            try clear hcz99_3
            try clear hcz99_4
            try clear hfz78_0
            try clear hfz78_1
            try clear hfz82_0
            try clear hfz82_1
            try clear hfz82_2
            try clear hfz82_3
            try clear hfz82_4
            try clear hfz86_0
            try clear hfz86_1
            try clear hfz90_0
            try clear hfz90_1
            try clear hfz90_2
            try clear hfz90_3
            try clear hfz90_4
            try clear hfz93_0
            try clear hfz93_1
            try clear hfz93_2
            try clear hfz93_3
            try clear hfz93_4
            try clear hfz97_0
            try clear hfz97_1
            try clear hfz97_2
            try clear hfz97_3
            try clear hfz97_4
            try clear hfz99_0
            try clear hfz99_1
            try clear hfz99_2
            try clear hfz99_3
            try clear hfz99_4
            try clear hx132_0
            try clear hx132_1
            try clear hx136_0
            try clear hx136_1
            try clear hx136_2
            try clear hx136_3
            try clear hx138_0
            try clear hx138_1
            try clear hx138_2
            try clear hx138_3
            try clear hx142_0
            try clear hx142_1
            try clear hx142_2
            try clear hx142_3
            try clear p132
            try clear p136
            try clear p138
            try clear p142
            try clear q132
            try clear q136
            try clear q138
            try clear q142
            obtain ⟨kq, x122_93, rfl, HA, HJ93, HO_8, HO_132004, BK127, BK131, HB⟩ := hcut
            cases kq with
            | zero => exact absurd HA.out (by simp [parts_Join.j3])
            | succ kj93 =>
             have H := HA.out
             clear HA
             simp only [parts_Join.j3] at H
             by_cases c101 : x122_93 = true
             ·
              subst c101
              have H1 : (some (0, false, 0, (⟨#[]⟩ : ByteArray), ([] : List (S63)), 2)) = some (r1, r2, r3, r4, r5, r6) := by rw [if_pos rfl] at H; exact H
              clear H
              have H := H1
              clear H1
              simp only [Option.some.injEq, Prod.mk.injEq] at H
              obtain ⟨rfl, rfl, rfl, rfl, rfl, rfl⟩ := H
              have hnb102 := NB127_131.out
              have hnc102 := NB131_127.out
              have hcz103_0 : wc.cell? ⟨gb127, 0, none⟩ = some (.int .i64 x128000_3) := (blk_cell BK127.out 0).trans rfl
              have hcz103_1 : wc.cell? ⟨gb127, 1, none⟩ = some (.bool x128001_3) := (blk_cell BK127.out 1).trans rfl
              have hcz103_2 : wc.cell? ⟨gb127, 2, none⟩ = some (.int .i64 x128002_3) := (blk_cell BK127.out 2).trans rfl
              have hcz103_3 : wc.cell? ⟨gb127, 3, none⟩ = some (.string x128003_3) := (blk_cell BK127.out 3).trans rfl
              have hcz103_4 : wc.cell? ⟨gb127, 4, none⟩ = some (.slice none 0 0) := (blk_cell BK127.out 4).trans rfl
              have hfz103_0 := blk_frozen BK127.out 0
              have hfz103_1 := blk_frozen BK127.out 1
              have hfz103_2 := blk_frozen BK127.out 2
              have hfz103_3 := blk_frozen BK127.out 3
              have hfz103_4 := blk_frozen BK127.out 4
              go_wp2
              refine bodyPost_ret (results_ct rfl _ _ gb127 26 #[.int .i64 0, .bool false, .int .i64 0, .string (⟨#[]⟩ : ByteArray), .slice none 0 0] (0, 0) _ rfl (bkp BK127.out) Tryd.underlying26 rfl (by kernel_rfl)) rfl ?_
              exact ⟨_, by first | rfl | (simp [errW_none, errW_some] <;> rfl) | (simp [*, errW_none, errW_some] <;> rfl), by first | exact Kd.R_nil _ _ _ _ _ | exact Kd.N_nil _ _ _ _ _ | exact Kd.V_nil _ _ _ _ _ | exact Kd.Q_nil _ _ _ _ _ | exact Kd.S_nil _ _ _ _ _, by repeat (first | (with_reducible first | exact HB.out | apply below_alloc | apply pw_below_drewN | apply below_drew1 | refine below_set ?_ GE127.out | refine below_set ?_ GE131.out) | exact HB.out)⟩
             ·
              replace c101 := Bool.eq_false_iff.mpr c101
              subst c101
              have H1 : ((digest_Tagged.f 77 x8_3).bind fun t147 => ((digest_Hex.f t147).bind fun t148 => (some (0, false, x132002_3, t148, x132004_3, 0)))) = some (r1, r2, r3, r4, r5, r6) := by rw [if_neg (show ¬ (false = true) by decide)] at H; exact H
              clear H
              have H := H1
              clear H1
              replace H := Option.bind_eq_some_iff.mp H
              obtain ⟨t147, A1040, H⟩ := H
              replace H : ((digest_Hex.f t147).bind fun t148 => (some (0, false, x132002_3, t148, x132004_3, 0))) = some (r1, r2, r3, r4, r5, r6) := H
              have A104 := Aside0.mk A1040
              clear A1040
              replace H := Option.bind_eq_some_iff.mp H
              obtain ⟨t148, A1050, H⟩ := H
              replace H : (some (0, false, x132002_3, t148, x132004_3, 0)) = some (r1, r2, r3, r4, r5, r6) := H
              have A105 := Aside0.mk A1050
              clear A1050
              simp only [Option.some.injEq, Prod.mk.injEq] at H
              obtain ⟨rfl, rfl, rfl, rfl, rfl, rfl⟩ := H
              obtain ⟨Ao106, co106, eo106⟩ := Kd.R_slice HO_8.out
              subst eo106
              go_wp2_with (first | ((with_reducible refine gate_callee (f := 32) rfl ?_); refine goesL_ (some 125) rfl rfl Tryd.func32 (by kernel_rfl) rfl #[.int .u8 77, .slice Ao106 x8_3.length co106] rfl gl ?_; (with_reducible refine (digest_Tagged.calls 77 _ _ x8_3 t147 _ ?side1 ?side2 A104.out ?sideG).mono ?_); (case sideG => first | exact HG.out | exact gg_below HG.out (bws HB.out)); (case side1 => repeat (first | exact (Kd.R_reads' HO_8.out).2.2 | (with_reducible refine Kd.C_alloc ?_ _) | (with_reducible refine Kd.C_drewN ?_ _) | (with_reducible refine Kd.C_drew ?_))); (case side2 => exact (Kd.R_reads' HO_8.out).2.1); rintro e w107 ⟨rfl, hb⟩; refine ⟨_, rfl, ?_⟩; replace HO_8 := Aside0.mk (Kd.R_below (kR HO_8.out) hb); replace HO_132004 := Aside0.mk (Kd.R_below (kR HO_132004.out) hb); replace BK127 := Aside0.mk (blk_below (g := gb127) (o := .cells #[.int .i64 x128000_3, .bool x128001_3, .int .i64 x128002_3, .string x128003_3, .slice none 0 0] 26 (0, 0)) (bk BK127.out) hb); replace BK131 := Aside0.mk (blk_below (g := gb131) (o := .cells #[.int .i64 0, .bool false, .int .i64 x132002_3, .string (⟨#[]⟩ : ByteArray), u132004] 26 (0, 0)) (bk BK131.out) hb); replace HB := Aside0.mk (below_step (bws HB.out) hb); (try clear hb); (try clear hb2); (try clear hk); (try clear hi)) | ((with_reducible refine gate_callee (f := 31) rfl ?_); refine goesL_ (some 126) rfl rfl Tryd.func31 (by kernel_rfl) rfl #[.string t147] rfl gl ?_; (with_reducible refine (digest_Hex.calls t147 t148 _ A105.out).mono ?_); rintro e w108 ⟨rfl, hb⟩; refine ⟨_, rfl, ?_⟩; replace HO_8 := Aside0.mk (Kd.R_below (kR HO_8.out) hb); replace HO_132004 := Aside0.mk (Kd.R_below (kR HO_132004.out) hb); replace BK127 := Aside0.mk (blk_below (g := gb127) (o := .cells #[.int .i64 x128000_3, .bool x128001_3, .int .i64 x128002_3, .string x128003_3, .slice none 0 0] 26 (0, 0)) (bk BK127.out) hb); replace BK131 := Aside0.mk (blk_below (g := gb131) (o := .cells #[.int .i64 0, .bool false, .int .i64 x132002_3, .string (⟨#[]⟩ : ByteArray), u132004] 26 (0, 0)) (bk BK131.out) hb); replace HB := Aside0.mk (below_step (bws HB.out) hb); (try clear hb); (try clear hb2); (try clear hk); (try clear hi); have hnb109 := NB131_127.out; have hnc109 := NB127_131.out; have hcz110_0 : w108.cell? ⟨gb131, 0, none⟩ = some (.int .i64 0) := (blk_cell BK131.out 0).trans rfl; have hcz110_1 : w108.cell? ⟨gb131, 1, none⟩ = some (.bool false) := (blk_cell BK131.out 1).trans rfl; have hcz110_2 : w108.cell? ⟨gb131, 2, none⟩ = some (.int .i64 x132002_3) := (blk_cell BK131.out 2).trans rfl; have hcz110_3 : w108.cell? ⟨gb131, 3, none⟩ = some (.string (⟨#[]⟩ : ByteArray)) := (blk_cell BK131.out 3).trans rfl; have hcz110_4 : w108.cell? ⟨gb131, 4, none⟩ = some (u132004) := (blk_cell BK131.out 4).trans rfl; have hfz110_0 := blk_frozen BK131.out 0; have hfz110_1 := blk_frozen BK131.out 1; have hfz110_2 := blk_frozen BK131.out 2; have hfz110_3 := blk_frozen BK131.out 3; have hfz110_4 := blk_frozen BK131.out 4; have hcz111_0 : w108.cell? ⟨gb127, 0, none⟩ = some (.int .i64 x128000_3) := (blk_cell BK127.out 0).trans rfl; have hcz111_1 : w108.cell? ⟨gb127, 1, none⟩ = some (.bool x128001_3) := (blk_cell BK127.out 1).trans rfl; have hcz111_2 : w108.cell? ⟨gb127, 2, none⟩ = some (.int .i64 x128002_3) := (blk_cell BK127.out 2).trans rfl; have hcz111_3 : w108.cell? ⟨gb127, 3, none⟩ = some (.string x128003_3) := (blk_cell BK127.out 3).trans rfl; have hcz111_4 : w108.cell? ⟨gb127, 4, none⟩ = some (.slice none 0 0) := (blk_cell BK127.out 4).trans rfl; have hfz111_0 := blk_frozen BK127.out 0; have hfz111_1 := blk_frozen BK127.out 1; have hfz111_2 := blk_frozen BK127.out 2; have hfz111_3 := blk_frozen BK127.out 3; have hfz111_4 := blk_frozen BK127.out 4; obtain ⟨Ao112, co112, eo112⟩ := Kd.R_slice HO_132004.out; subst eo112))
              refine bodyPost_ret (results_ct rfl _ _ gb127 26 #[.int .i64 0, .bool false, .int .i64 x132002_3, .string t148, .slice Ao112 x132004_3.length co112] (0, 0) _ rfl (bkf BK127.out) Tryd.underlying26 rfl (by kernel_rfl)) rfl ?_
              exact ⟨_, by first | rfl | (simp [errW_none, errW_some] <;> rfl) | (simp [*, errW_none, errW_some] <;> rfl), by (with_reducible repeat (first | apply Kd.R_alloc | apply Kd.R_drewN | apply Kd.R_drew)); exact Kd.R_mono (Kd.R_far (p := ⟨gb127, 4, none⟩) (Kd.R_far (p := ⟨gb127, 3, none⟩) (Kd.R_far (p := ⟨gb127, 2, none⟩) (Kd.R_far (p := ⟨gb127, 1, none⟩) (Kd.R_far (p := ⟨gb127, 0, none⟩) (Kd.R_far (p := ⟨gb131, 3, none⟩) (Kd.R_types (Kd.R_types HO_132004.out BK131.out (by decide)) BK127.out (by decide)) (fun _ hk => hk.1.2) (.string t148)) (fun _ hk => hk.2) (.int .i64 0)) (fun _ hk => hk.2) (.bool false)) (fun _ hk => hk.2) (.int .i64 x132002_3)) (fun _ hk => hk.2) (.string t148)) (fun _ hk => hk.2) (.slice Ao112 x132004_3.length co112)) (fun _ hk => trivial), by repeat (first | (with_reducible first | exact HB.out | apply below_alloc | apply pw_below_drewN | apply below_drew1 | refine below_set ?_ GE127.out | refine below_set ?_ GE131.out) | exact HB.out)⟩

end Go.Proofs.YtoiockmmlanimaaDoor.Oo
