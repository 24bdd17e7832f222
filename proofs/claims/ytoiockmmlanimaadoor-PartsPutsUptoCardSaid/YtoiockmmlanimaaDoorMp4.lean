/- Merged of several texts of this session's by merge.py. -/
import Derived.Test.YtoiockmmlanimaaDoorMp3
import Derived.Lib.Hide
import Derived.IntWalk
import Derived.Deep.QuietTactic
import Derived.BigQuiet
import Derived.OwnWalk
import Derived.Lib.LazyBuf
import Derived.Lib.SliceRun
import Derived.Lib.Walk
import Derived.Shelf.Spec.SlicesInsertGrow
import Derived.Test.YtoiockmmlanimaaDoorMp2
section
namespace Go.Proofs.YtoiockmmlanimaaDoor.Op
open Go.RowKit Go.Proofs.YtoiockmmlanimaaDoorW.PrintWords Go.Proofs.YtoiockmmlanimaaDoorW.PrintLast Go.Proofs.YtoiockmmlanimaaDoorW.PrintMore
attribute [local go_sem] max2_int min2_int max_two min_two max_three min_three max_four min_four
set_option linter.unusedVariables false
set_option linter.unusedSimpArgs false
mutual
def parts_Join.j0 : Nat → List (S46) → List (S61) → Bool → Option (Int × Bool × Int × ByteArray × (List (S63)) × Int)
 | 0, _, _, _ => none
 | k + 1, x0, x1, x21 => if x21 = true then (some (0, false, 0, (⟨#[]⟩ : ByteArray), ([] : List (S63)), 1)) else (parts_Join.l0 k x0 x1 1)
def parts_Join.l0 : Nat → List (S46) → List (S61) → Int → Option (Int × Bool × Int × ByteArray × (List (S63)) × Int)
 | 0, _, _, _ => none
 | k + 1, x0, x1, x6 => if x6 < (x1.length : Int) then (if 0 ≤ x6 then (if 0 ≤ (wrap64 (x6 - 1)) then (if (wrap64 (x6 - 1)) < (x1.length : Int) then (if ((rd_T61 x1 x6).f0) ≤ ((rd_T61 x1 (wrap64 (x6 - 1))).f0) then (some (0, false, 0, (⟨#[]⟩ : ByteArray), ([] : List (S63)), 1)) else (parts_Join.l0 k x0 x1 (wrap64 (x6 + 1)))) else (none)) else (none)) else (none)) else (parts_Join.l1 k x0 x1 ([] : List ByteArray) false x1 (x1.length : Int) 0 0 false 0 (⟨#[]⟩ : ByteArray) ([] : List (S63)))
def parts_Join.l1 : Nat → List (S46) → List (S61) → List ByteArray → Bool → List (S61) → Int → Int → Int → Bool → Int → ByteArray → List (S63) → Option (Int × Bool × Int × ByteArray × (List (S63)) × Int)
 | 0, _, _, _, _, _, _, _, _, _, _, _, _ => none
 | k + 1, x0, x1, x8, x9, x42, x43, x44, x132000, x132001, x132002, x132003, x132004 => if x44 < x43 then (if 0 ≤ x44 then (if x44 < (x42.length : Int) then ((parts_find.f x0 ((rd_T61 x42 x44).f0)).bind fun bt134 => (if bt134.2 = true then (if 0 ≤ bt134.1 then (if bt134.1 < (x0.length : Int) then (if ((rd_T46 x0 bt134.1).f2).toList = ((rd_T61 x42 x44).f1).toList then (if x132004.length + ((rd_T46 x0 bt134.1).f3).length < 5864062014805 then ((some (x132004 ++ ((rd_T46 x0 bt134.1).f3) : List (S63))).bind fun y139 => (if x8.length < 8796093022208 then ((some (x8 ++ [(rd_T46 x0 bt134.1).f2] : List ByteArray)).bind fun y143 => (if x9 = true then (parts_Join.l1 k x0 x1 y143 true x42 x43 (wrap64 (x44 + 1)) x132000 x132001 (wrap64 (x132002 + ((rd_T46 x0 bt134.1).f1))) x132003 y139) else (if x44 < (wrap64 ((x1.length : Int) - 1)) then (parts_Join.l1 k x0 x1 y143 (decide (((rd_T46 x0 bt134.1).f1) < 64)) x42 x43 (wrap64 (x44 + 1)) x132000 x132001 (wrap64 (x132002 + ((rd_T46 x0 bt134.1).f1))) x132003 y139) else (parts_Join.l1 k x0 x1 y143 false x42 x43 (wrap64 (x44 + 1)) x132000 x132001 (wrap64 (x132002 + ((rd_T46 x0 bt134.1).f1))) x132003 y139)))) else (none))) else (none)) else (some (0, false, 0, (⟨#[]⟩ : ByteArray), ([] : List (S63)), 140))) else (none)) else (none)) else (some (0, false, 0, (⟨#[]⟩ : ByteArray), ([] : List (S63)), 140)))) else (none)) else (none)) else (if x9 = true then (some (0, false, 0, (⟨#[]⟩ : ByteArray), ([] : List (S63)), 141)) else (if x132002 > 1048576 then (parts_Join.j3 k x8 true x132000 x132001 x132002 x132003 x132004) else (parts_Join.j3 k x8 (decide ((x132004.length : Int) > 512)) x132000 x132001 x132002 x132003 x132004)))
def parts_Join.j3 : Nat → List ByteArray → Bool → Int → Bool → Int → ByteArray → List (S63) → Option (Int × Bool × Int × ByteArray × (List (S63)) × Int)
 | 0, _, _, _, _, _, _, _ => none
 | k + 1, x8, x122, x132000, x132001, x132002, x132003, x132004 => if x122 = true then (some (0, false, 0, (⟨#[]⟩ : ByteArray), ([] : List (S63)), 2)) else ((digest_Tagged.f 77 x8).bind fun t147 => ((digest_Hex.f t147).bind fun t148 => (some (x132000, x132001, x132002, t148, x132004, 0))))
end
def parts_Join.f (k : Nat) (l0 : List (S46)) (l1 : List (S61)) : Option (Int × Bool × Int × ByteArray × (List (S63)) × Int) := (parts_right.f k l0).bind fun t128 => (if t128 = true then (parts_Join.j0 k l0 l1 ((l1.length : Int) == 0)) else (parts_Join.j0 k l0 l1 true))
theorem parts_Join.mono_l : ∀ k, (∀ y0 y1 y2, LeO (parts_Join.j0 k y0 y1 y2) (parts_Join.j0 (k + 1) y0 y1 y2)) ∧ (∀ y0 y1 y2, LeO (parts_Join.l0 k y0 y1 y2) (parts_Join.l0 (k + 1) y0 y1 y2)) ∧ (∀ y0 y1 y2 y3 y4 y5 y6 y7 y8 y9 y10 y11, LeO (parts_Join.l1 k y0 y1 y2 y3 y4 y5 y6 y7 y8 y9 y10 y11) (parts_Join.l1 (k + 1) y0 y1 y2 y3 y4 y5 y6 y7 y8 y9 y10 y11)) ∧ (∀ y0 y1 y2 y3 y4 y5 y6, LeO (parts_Join.j3 k y0 y1 y2 y3 y4 y5 y6) (parts_Join.j3 (k + 1) y0 y1 y2 y3 y4 y5 y6))
 | 0 => ⟨fun _ _ _ r h => by simp [parts_Join.j0] at h, fun _ _ _ r h => by simp [parts_Join.l0] at h, fun _ _ _ _ _ _ _ _ _ _ _ _ r h => by simp [parts_Join.l1] at h, fun _ _ _ _ _ _ _ r h => by simp [parts_Join.j3] at h⟩
 | k + 1 => by
  obtain ⟨ih0, ih1, ih2, ih3⟩ := parts_Join.mono_l k
  refine ⟨?_, ?_, ?_, ?_⟩
  all_goals intros
  all_goals first | unfold parts_Join.j0 | unfold parts_Join.l0 | unfold parts_Join.l1 | unfold parts_Join.j3
  all_goals repeat' (with_reducible first | exact ih0 _ _ _ | exact ih1 _ _ _ | exact ih2 _ _ _ _ _ _ _ _ _ _ _ _ | exact ih3 _ _ _ _ _ _ _ | exact parts_right.mono _ _ | exact LeO.refl _ | exact LeO.none _ | refine LeO.ite ?_ ?_ | refine LeO.bind ?_ (fun _ => ?_))
theorem parts_Join.mono : ∀ a0 a1 k, LeO (parts_Join.f k a0 a1) (parts_Join.f (k + 1) a0 a1) := by
 intro a0 a1 k
 obtain ⟨ih0, ih1, ih2, ih3⟩ := parts_Join.mono_l k
 unfold parts_Join.f
 repeat' (with_reducible first | exact ih0 _ _ _ | exact ih1 _ _ _ | exact ih2 _ _ _ _ _ _ _ _ _ _ _ _ | exact ih3 _ _ _ _ _ _ _ | exact parts_right.mono _ _ | exact LeO.refl _ | exact LeO.none _ | refine LeO.ite ?_ ?_ | refine LeO.bind ?_ (fun _ => ?_))
def parts_Join.T6 : Bool × List (List Nat × List Nat) := (true, [([], []), ([], []), ([0, 1], [0, 1]), ([2], [2]), ([3], [3]), ([], []), ([], []), ([6], [6]), ([5, 7], [5, 7]), ([8], [8]), ([9], [9]), ([4, 10], [4, 10])])
def parts_Join.B6 : List Nat := [0, 0, 3, 7, 15, 0, 0, 64, 224, 480, 992, 2047]
theorem parts_Join.tab6 : rtab .any (opsOf Tryd.f9 6) = parts_Join.T6 := by kernel_rfl
theorem parts_Join.bits6 : waitsOk parts_Join.T6.2 parts_Join.B6 = true := by kernel_rfl
def parts_Join.T15 : Bool × List (List Nat × List Nat) := (true, [([], []), ([0], [0]), ([1], [1]), ([2], [2]), ([2], [2]), ([3, 4, 2], [2, 3, 4]), ([5, 2], [2, 5]), ([6, 2], [2, 6]), ([2], [2]), ([8, 2], [2, 8]), ([7, 9, 2], [2, 7, 9]), ([2, 10], [2, 10])])
def parts_Join.B15 : List Nat := [0, 1, 3, 7, 7, 31, 63, 127, 7, 263, 1023, 2047]
theorem parts_Join.tab15 : rtab .any (opsOf Tryd.f9 15) = parts_Join.T15 := by kernel_rfl
theorem parts_Join.bits15 : waitsOk parts_Join.T15.2 parts_Join.B15 = true := by kernel_rfl
def parts_Join.T17 : Bool × List (List Nat × List Nat) := (true, [([], []), ([0], [0]), ([], []), ([], []), ([2, 3], [2, 3]), ([4], [4]), ([5], [5]), ([1, 6], [1, 6]), ([0, 1, 2, 3, 4, 5, 6, 7], []), ([8, 7, 0, 1, 2, 3, 4, 5, 6, 7], [7, 8])])
def parts_Join.B17 : List Nat := [0, 1, 0, 0, 12, 28, 60, 127, 255, 511]
theorem parts_Join.tab17 : rtab .any (opsOf Tryd.f9 17) = parts_Join.T17 := by kernel_rfl
theorem parts_Join.bits17 : waitsOk parts_Join.T17.2 parts_Join.B17 = true := by kernel_rfl
def parts_Join.T18 : Bool × List (List Nat × List Nat) := (true, [([], []), ([0], [0]), ([], []), ([], []), ([2, 3], [2, 3]), ([4], [4]), ([5], [5]), ([1, 6], [1, 6]), ([0, 1, 2, 3, 4, 5, 6, 7], []), ([8, 7, 7, 0, 1, 2, 3, 4, 5, 6, 7], [7, 8])])
def parts_Join.B18 : List Nat := [0, 1, 0, 0, 12, 28, 60, 127, 255, 511]
theorem parts_Join.tab18 : rtab .any (opsOf Tryd.f9 18) = parts_Join.T18 := by kernel_rfl
theorem parts_Join.bits18 : waitsOk parts_Join.T18.2 parts_Join.B18 = true := by kernel_rfl
set_option maxHeartbeats 8000000 in
set_option maxRecDepth 100000 in
theorem parts_Join.calls (k : Nat) (A0 : Option Addr) (c0 : Nat) (l0 : List (S46)) (A1 : Option Addr) (c1 : Nat) (l1 : List (S61)) (r1 : Int) (r2 : Bool) (r3 : Int) (r4 : ByteArray) (r5 : List (S63)) (r6 : Int) (w : World) (hr0 : Kd.C k46 w A0 l0.length l0) (hc0 : l0.length ≤ c0) (hr1 : Kd.C k61 w A1 l1.length l1) (hc1 : l1.length ≤ c1) (h : parts_Join.f k l0 l1 = some (r1, r2, r3, r4, r5, r6)) (hG : GG w) :
  Calls Tryd.prog 9 #[.slice A0 l0.length c0, .slice A1 l1.length c1] w fun e w' => ∃ v4_ : Value, e = .returned (.tuple #[.agg #[.int .i64 r1, .bool r2, .int .i64 r3, .string r4, v4_], .int .i64 r6]) ∧ Kd.R k63 63 w' w.heap.size (fun _ => True) v4_ r5 ∧ Below w.heap.size w w' := by
 have HG := am hG
 clear hG
 have hu26 := Tryd.underlying26
 have hu61 := Tryd.underlying61
 have HR0 := am hr0
 have HC0 := am hc0
 clear hr0 hc0
 have HR1 := am hr1
 have HC1 := am hc1
 clear hr1 hc1
 have HB := am (Below.refl w.heap.size w)
 have H := h
 clear h
 unfold parts_Join.f at H
 have HC3 := am H
 clear H
 go_enter Tryd.func9, Tryd.ntmps9
 go_upto_region 1 with (first | ((with_reducible refine gate_dst (N := 4) rfl ?_); (try (refine gate_guard (by rfl) ?_; dsimp only)); refine bx 4 #[.int .i64 0, .bool false, .int .i64 0, .string (⟨#[]⟩ : ByteArray), .slice none 0 0] 26 ?_; intro gb127 hg w4 hbox hb; have BK127 := am (hbox); have GW127 := gsz hg HB.out; have GE127 := gsz hg HB.out; replace HB := am (below_step (bw HB.out) hb); clear hb hbox hg))
 (try simp only [Act.put, List.setIfInBounds_toArray, List.set_cons_zero, List.set_cons_succ])
 go_cut [21] (fun v21 wc => ∃ (kq : Nat) (x21_2 : Bool), v21 = .bool x21_2 ∧ Aside0 (parts_Join.j0 kq l0 l1 x21_2 = some (r1, r2, r3, r4, r5, r6)) ∧ Aside0 (kq ≤ k) ∧ Aside0 (wc.heap[gb127]? = some (.cells #[.int .i64 0, .bool false, .int .i64 0, .string (⟨#[]⟩ : ByteArray), (.slice none 0 0)] 26 (0, 0))) ∧ Aside0 (Below w.heap.size w wc))
 case first =>
  have H := HC3.out
  clear HC3
  replace H := obE H
  obtain ⟨t128, A5, H⟩ := H
  by_cases c6 : t128 = true
  ·
   subst c6
   rw [if_pos rfl] at H
   have H' := am H
   clear H
   go_wp2_with (first | ((with_reducible refine gate_callee (f := 29) rfl ?_); refine goesL_ (some 15) rfl rfl Tryd.func29 (by kernel_rfl) rfl #[.slice A0 l0.length c0] rfl gl ?_; (with_reducible refine (parts_right.calls k _ _ l0 true _ ?side1 ?side2 A5.out).mono ?_); (case side1 => exact kC (Kd.C_below HR0.out HB.out)); (case side2 => exact HC0.out); rintro e w7 ⟨rfl, hb⟩; refine ⟨_, rfl, ?_⟩; replace BK127 := bb BK127.out hb; replace HB := am (below_step (bws HB.out) hb); (try clear hb)))
   go_meet
   case rel => exact ⟨_, (((l1.length : Int) == 0)), rs, H', ⟨om⟩, ⟨bk BK127.out⟩, ⟨bws HB.out⟩⟩
  ·
   replace c6 := Bool.eq_false_iff.mpr c6
   subst c6
   rw [if_neg (show ¬ (false = true) by decide)] at H
   have H' := am H
   clear H
   go_wp2_with (first | ((with_reducible refine gate_callee (f := 29) rfl ?_); refine goesL_ (some 15) rfl rfl Tryd.func29 (by kernel_rfl) rfl #[.slice A0 l0.length c0] rfl gl ?_; (with_reducible refine (parts_right.calls k _ _ l0 false _ ?side1 ?side2 A5.out).mono ?_); (case side1 => exact kC (Kd.C_below HR0.out HB.out)); (case side2 => exact HC0.out); rintro e w8 ⟨rfl, hb⟩; refine ⟨_, rfl, ?_⟩; replace BK127 := bb BK127.out hb; replace HB := am (below_step (bws HB.out) hb); (try clear hb)))
   go_meet
   case rel => exact ⟨_, (true), rs, H', ⟨om⟩, ⟨bk BK127.out⟩, ⟨bws HB.out⟩⟩
 case rest =>
  clear HC3
  obtain ⟨kq, x21_2, rfl, HA, HJ2, BK127, HB⟩ := hcut
  cases kq with
  | zero => exact absurd HA.out (by simp [parts_Join.j0])
  | succ kj2 =>
   have H := HA.out
   clear HA
   simp only [parts_Join.j0] at H
   by_cases c9 : x21_2 = true
   ·
    subst c9
    rw [if_pos rfl] at H
    simp only [Option.some.injEq, Prod.mk.injEq] at H
    obtain ⟨rfl, rfl, rfl, rfl, rfl, rfl⟩ := H
    obtain ⟨hcz10_0, hcz10_1, hcz10_2, hcz10_3, hcz10_4, hfz10_0, hfz10_1, hfz10_2, hfz10_3, hfz10_4⟩ := cz5 BK127.out
    go_wp2
    refine bodyPost_ret (results_ct rfl _ _ gb127 26 #[.int .i64 0, .bool false, .int .i64 0, .string (⟨#[]⟩ : ByteArray), .slice none 0 0] (0, 0) _ rfl (bkp BK127.out) Tryd.underlying26 rfl (by kernel_rfl)) rfl ?_
    exact ⟨_, rf, niR, bws HB.out⟩
   ·
    replace c9 := Bool.eq_false_iff.mpr c9
    subst c9
    rw [if_neg (show ¬ (false = true) by decide)] at H
    have H' := am H
    clear H
    go_wp2
    go_loopg [6] kj2 (fun kq v6 w' => ∃ (x6_2 : Int) (x128000_2 : Int) (x128001_2 : Bool) (x128002_2 : Int) (x128003_2 : ByteArray), v6 = .int .i64 x6_2 ∧ Aside0 (parts_Join.l0 kq l0 l1 x6_2 = some (r1, r2, r3, r4, r5, r6)) ∧ Aside0 (kq ≤ kj2) ∧ Aside0 (w'.heap[gb127]? = some (.cells #[.int .i64 x128000_2, .bool x128001_2, .int .i64 x128002_2, .string x128003_2, (.slice none 0 0)] 26 (0, 0))) ∧ Aside0 (Below w.heap.size w w'))
    case atStart => exact ⟨(1), (0), (false), (0), ((⟨#[]⟩ : ByteArray)), rs, H', ⟨Nat.le_refl _⟩, ⟨bk BK127.out⟩, ⟨bws HB.out⟩⟩
    case round =>
     clear H'
     try clear c9
     obtain ⟨x6_2, x128000_2, x128001_2, x128002_2, x128003_2, rfl, HA, HK2, BK127, HB⟩ := hrel
     cases gk with
     | zero => exact absurd HA.out (by simp [parts_Join.l0])
     | succ k2 =>
      have H := HA.out
      clear HA
      simp only [parts_Join.l0] at H
      replace H := iteD H
      rcases H with ⟨c11b0, H⟩ | ⟨c11b0, H⟩
      ·
       replace H := iteD H
       rcases H with ⟨c12b0, H⟩ | ⟨_, H⟩
       ·
        obtain ⟨ji13, hji13⟩ : ∃ j_ : Int, (wrap64 (x6_2 - 1)) = j_ := ⟨_, rfl⟩
        replace H : (if 0 ≤ (ji13) then (if (ji13) < (l1.length : Int) then (if ((rd_T61 l1 x6_2).f0) ≤ ((rd_T61 l1 (ji13)).f0) then (some (0, false, 0, (⟨#[]⟩ : ByteArray), ([] : List (S63)), 1)) else (parts_Join.l0 k2 l0 l1 (wrap64 (x6_2 + 1)))) else (none)) else (none)) = some (r1, r2, r3, r4, r5, r6) := by first | (rw [hji13] at H; exact H) | (simp only [hji13] at H ⊢; exact H)
        have hji13w : (IntKind.i64.wrap (x6_2 - 1)) = ji13 := (i64_w _).trans hji13
        replace H := iteD H
        rcases H with ⟨c14b0, H⟩ | ⟨_, H⟩
        ·
         replace H := iteD H
         rcases H with ⟨c15b0, H⟩ | ⟨_, H⟩
         ·
          replace H := iteD H
          rcases H with ⟨c16b0, H⟩ | ⟨c16b0, H⟩
          ·
           simp only [Option.some.injEq, Prod.mk.injEq] at H
           obtain ⟨rfl, rfl, rfl, rfl, rfl, rfl⟩ := H
           try go_wp2
           replace BK127 := am (blk_drew BK127.out)
           replace HB := am (below_drew1 HB.out)
           have p129 := pz x6_2
           have q129 := pl x6_2 (l1.length : Int)
           obtain ⟨ad129, e129, hw129_0, hw129_1⟩ := at_T61 HR1.out x6_2 (of_eq_true p129) (of_eq_true q129)
           cases e129
           have hx129_0 := bc HB.out hw129_0
           have hx129_1 := bc HB.out hw129_1
           have p130 := pz (ji13)
           have q130 := pl (ji13) (l1.length : Int)
           obtain ⟨ad130, e130, hw130_0, hw130_1⟩ := at_T61 HR1.out (ji13) (of_eq_true p130) (of_eq_true q130)
           obtain rfl : ad129 = ad130 := (by injection e130)
           have hx130_0 := bc HB.out hw130_0
           have hx130_1 := bc HB.out hw130_1
           refine start_ (n := 12) (S := fun w' => w'.cell? (ad129.add ((x6_2).toNat * 2)) = some (.int .i64 ((rd_T61 l1 x6_2).f0)) ∧ w'.cell? ⟨(ad129.add ((x6_2).toNat * 2)).block, (ad129.add ((x6_2).toNat * 2)).off + 1, none⟩ = some (.string ((rd_T61 l1 x6_2).f1)) ∧ w'.cell? (ad129.add (((ji13)).toNat * 2)) = some (.int .i64 ((rd_T61 l1 (ji13)).f0)) ∧ w'.cell? ⟨(ad129.add (((ji13)).toNat * 2)).block, (ad129.add (((ji13)).toNat * 2)).off + 1, none⟩ = some (.string ((rd_T61 l1 (ji13)).f1))) (ds := []) #[false, false, false, false, false, false, false, false, false, false, false, false] (by kernel_rfl) rfl rfl ⟨(bc HB.out hw129_0), (bc HB.out hw129_1), (bc HB.out hw130_0), (bc HB.out hw130_1)⟩ (fun hHeld => ?_); refine with_tabW parts_Join.tab6 parts_Join.bits6 (fun HT_ HW_ => ?_)
           generalize wr.drew = w17 at BK127 HB hx129_0 hx129_1 hx130_0 hx130_1 hHeld ⊢
           refine pu 0 (some 29) HT_.out ?_
           refine pu 1 (some 30) HT_.out ?_
           refine pu 2 (some 31) HT_.out ?_
           refine pu 3 (some 32) HT_.out ?_
           refine pu 5 (some 34) HT_.out ?_
           refine pu 6 (some 35) HT_.out ?_
           refine pu 7 (some 36) HT_.out ?_
           refine pu 8 (some 37) HT_.out ?_
           refine pu 9 (some 38) HT_.out ?_
           refine tk 4 (some 33) HT_.out HW_.out hHeld ?_
           refine tk 10 (some 39) HT_.out HW_.out hHeld ?_
           refine pu 11 (some 40) HT_.out ?_
           refine done_ (done_of HT_.out (by kernel_rfl)) ?_
           obtain ⟨hcz18_0, hcz18_1, hcz18_2, hcz18_3, hcz18_4, hfz18_0, hfz18_1, hfz18_2, hfz18_3, hfz18_4⟩ := cz5 BK127.out
           try go_wp2
           refine bodyPost_ret (results_ct rfl _ _ gb127 26 #[.int .i64 0, .bool false, .int .i64 0, .string (⟨#[]⟩ : ByteArray), .slice none 0 0] (0, 0) _ rfl (bkp BK127.out) Tryd.underlying26 rfl (by kernel_rfl)) rfl ?_
           exact ⟨_, by first | rfl | (simp [errW_none, errW_some] <;> rfl) | (simp only [← hji13]; first | rfl | (simp [errW_none, errW_some] <;> rfl)) | (simp [*, errW_none, errW_some] <;> rfl), niR, bws HB.out⟩
          ·
           have H' := am H
           clear H
           try go_wp2
           replace BK127 := am (blk_drew BK127.out)
           replace HB := am (below_drew1 HB.out)
           have p129 := pz x6_2
           have q129 := pl x6_2 (l1.length : Int)
           obtain ⟨ad129, e129, hw129_0, hw129_1⟩ := at_T61 HR1.out x6_2 (of_eq_true p129) (of_eq_true q129)
           cases e129
           have hx129_0 := bc HB.out hw129_0
           have hx129_1 := bc HB.out hw129_1
           have p130 := pz (ji13)
           have q130 := pl (ji13) (l1.length : Int)
           obtain ⟨ad130, e130, hw130_0, hw130_1⟩ := at_T61 HR1.out (ji13) (of_eq_true p130) (of_eq_true q130)
           obtain rfl : ad129 = ad130 := (by injection e130)
           have hx130_0 := bc HB.out hw130_0
           have hx130_1 := bc HB.out hw130_1
           refine start_ (n := 12) (S := fun w' => w'.cell? (ad129.add ((x6_2).toNat * 2)) = some (.int .i64 ((rd_T61 l1 x6_2).f0)) ∧ w'.cell? ⟨(ad129.add ((x6_2).toNat * 2)).block, (ad129.add ((x6_2).toNat * 2)).off + 1, none⟩ = some (.string ((rd_T61 l1 x6_2).f1)) ∧ w'.cell? (ad129.add (((ji13)).toNat * 2)) = some (.int .i64 ((rd_T61 l1 (ji13)).f0)) ∧ w'.cell? ⟨(ad129.add (((ji13)).toNat * 2)).block, (ad129.add (((ji13)).toNat * 2)).off + 1, none⟩ = some (.string ((rd_T61 l1 (ji13)).f1))) (ds := []) #[false, false, false, false, false, false, false, false, false, false, false, false] (by kernel_rfl) rfl rfl ⟨(bc HB.out hw129_0), (bc HB.out hw129_1), (bc HB.out hw130_0), (bc HB.out hw130_1)⟩ (fun hHeld => ?_); refine with_tabW parts_Join.tab6 parts_Join.bits6 (fun HT_ HW_ => ?_)
           generalize wr.drew = w19 at BK127 HB hx129_0 hx129_1 hx130_0 hx130_1 hHeld ⊢
           refine pu 0 (some 29) HT_.out ?_
           refine pu 1 (some 30) HT_.out ?_
           refine pu 2 (some 31) HT_.out ?_
           refine pu 3 (some 32) HT_.out ?_
           refine pu 5 (some 34) HT_.out ?_
           refine pu 6 (some 35) HT_.out ?_
           refine pu 7 (some 36) HT_.out ?_
           refine pu 8 (some 37) HT_.out ?_
           refine pu 9 (some 38) HT_.out ?_
           refine tk 4 (some 33) HT_.out HW_.out hHeld ?_
           refine tk 10 (some 39) HT_.out HW_.out hHeld ?_
           refine pu 11 (some 40) HT_.out ?_
           refine done_ (done_of HT_.out (by kernel_rfl)) ?_
           try go_wp2
           go_roundg k2
           case measure => have := HJ2.out; have := HK2.out; omega
           case rel => exact ⟨(wrap64 (x6_2 + 1)), (x128000_2), (x128001_2), (x128002_2), (x128003_2), rs, H', ⟨by have := HJ2.out; have := HK2.out; omega⟩, ⟨bk BK127.out⟩, ⟨bws HB.out⟩⟩
         ·
          exact absurd H (by simp)
        ·
         exact absurd H (by simp)
       ·
        exact absurd H (by simp)
      ·
       have H' := am H
       clear H
       go_wp2_with (first | ((with_reducible refine gate_dst (N := 7) rfl ?_); (try (refine gate_guard (by rfl) ?_; dsimp only)); refine bx 7 #[.int .i64 0, .bool false, .int .i64 0, .string (⟨#[]⟩ : ByteArray), .slice none 0 0] 26 ?_; intro gb131 hg w20 hbox hb; have BK131 := am (hbox); have GW131 := gsz hg HB.out; have GE131 := gsz hg HB.out; have NB127_131 := nlt (g := gb127) hg BK127.out; have NB131_127 := ngt (g := gb127) hg BK127.out; replace BK127 := bb BK127.out hb; replace HB := am (below_step (bws HB.out) hb); clear hb hbox hg))
       go_loopg [8, 9, 44] k2 (fun kq v8 v9 v44 w' => ∃ (x8_3 : List ByteArray) (x9_3 : Bool) (x44_3 : Int) (x128000_3 : Int) (x128001_3 : Bool) (x128002_3 : Int) (x128003_3 : ByteArray) (x132002_3 : Int) (x132004_3 : List (S63)) (u132004 : Value), v9 = .bool x9_3 ∧ v44 = .int .i64 x44_3 ∧ Aside0 (parts_Join.l1 kq l0 l1 x8_3 x9_3 l1 (l1.length : Int) x44_3 0 false x132002_3 (⟨#[]⟩ : ByteArray) x132004_3 = some (r1, r2, r3, r4, r5, r6)) ∧ Aside0 (kq ≤ k2) ∧ Aside0 (Kd.R Kd.string 9 w' w.heap.size (fun _ => True) v8 x8_3) ∧ Aside0 (Kd.R k63 63 w' w.heap.size (fun _ => True) u132004 x132004_3) ∧ Aside0 (w'.heap[gb127]? = some (.cells #[.int .i64 x128000_3, .bool x128001_3, .int .i64 x128002_3, .string x128003_3, (.slice none 0 0)] 26 (0, 0))) ∧ Aside0 (w'.heap[gb131]? = some (.cells #[.int .i64 0, .bool false, .int .i64 x132002_3, .string (⟨#[]⟩ : ByteArray), u132004] 26 (0, 0))) ∧ Aside0 (Below w.heap.size w w'))
       case atStart => exact ⟨(([] : List ByteArray)), (false), (0), (x128000_2), (x128001_2), (x128002_2), (x128003_2), (0), (([] : List (S63))), (.slice none 0 0), rs, rs, H', ⟨Nat.le_refl _⟩, ⟨niR⟩, ⟨niR⟩, ⟨bk BK127.out⟩, ⟨bk BK131.out⟩, ⟨bws HB.out⟩⟩
       case round =>
        clear H'
        try clear c9
        try clear c11b0
        obtain ⟨x8_3, x9_3, x44_3, x128000_3, x128001_3, x128002_3, x128003_3, x132002_3, x132004_3, u132004, rfl, rfl, HA, HK3, HO_8, HO_132004, BK127, BK131, HB⟩ := hrel
        cases gk with
        | zero => exact absurd HA.out (by simp [parts_Join.l1])
        | succ k3 =>
         have H := HA.out
         clear HA
         simp only [parts_Join.l1] at H
         replace H := iteD H
         rcases H with ⟨c21b0, H⟩ | ⟨c21b0, H⟩
         ·
          replace H := iteD H
          rcases H with ⟨c22b0, H⟩ | ⟨_, H⟩
          ·
           replace H := iteD H
           rcases H with ⟨c23b0, H⟩ | ⟨_, H⟩
           ·
            replace H := obE H
            obtain ⟨⟨t134, t135⟩, A24, H⟩ := H
            try dsimp only at H
            by_cases c25 : t135 = true
            ·
             subst c25
             rw [if_pos rfl] at H
             replace H := iteD H
             rcases H with ⟨c26b0, H⟩ | ⟨_, H⟩
             ·
              replace H := iteD H
              rcases H with ⟨c27b0, H⟩ | ⟨_, H⟩
              ·
               by_cases c28 : ((rd_T46 l0 t134).f2).toList = ((rd_T61 l1 x44_3).f1).toList
               ·
                rw [if_pos c28] at H
                have c28b0 := beq_iff_eq.mpr c28
                have c28b1 := bne_eq_false_iff_eq.mpr c28
                clear c28
                by_cases c29 : x132004_3.length + ((rd_T46 l0 t134).f3).length < 5864062014805
                ·
                 rw [if_pos c29] at H
                 have LMc29 := am c29
                 clear c29
                 obtain ⟨y139, hy139⟩ : ∃ y_ : List (S63), y_ = (x132004_3 ++ ((rd_T46 l0 t134).f3)) := ⟨_, rfl⟩
                 replace H : (if x8_3.length < 8796093022208 then ((some (x8_3 ++ [(rd_T46 l0 t134).f2] : List ByteArray)).bind fun y143 => (if x9_3 = true then (parts_Join.l1 k3 l0 l1 y143 true l1 (l1.length : Int) (wrap64 (x44_3 + 1)) 0 false (wrap64 (x132002_3 + ((rd_T46 l0 t134).f1))) (⟨#[]⟩ : ByteArray) y139) else (if x44_3 < (wrap64 ((l1.length : Int) - 1)) then (parts_Join.l1 k3 l0 l1 y143 (decide (((rd_T46 l0 t134).f1) < 64)) l1 (l1.length : Int) (wrap64 (x44_3 + 1)) 0 false (wrap64 (x132002_3 + ((rd_T46 l0 t134).f1))) (⟨#[]⟩ : ByteArray) y139) else (parts_Join.l1 k3 l0 l1 y143 false l1 (l1.length : Int) (wrap64 (x44_3 + 1)) 0 false (wrap64 (x132002_3 + ((rd_T46 l0 t134).f1))) (⟨#[]⟩ : ByteArray) y139)))) else (none)) = some (r1, r2, r3, r4, r5, r6) := by first | (rw [hy139]; with_reducible exact H) | (have H2_ := (Option.bind_some _ _).symm.trans H; rw [hy139]; with_reducible exact H2_) | (have H2_ := (Option.bind_some _ _).symm.trans H; with_reducible exact H2_) | with_reducible exact H | (rw [hy139]; exact H) | exact H
                 have Ny139 := am hy139
                 clear hy139
                 by_cases c30 : x8_3.length < 8796093022208
                 ·
                  rw [if_pos c30] at H
                  have LMc30 := am c30
                  clear c30
                  obtain ⟨y143, hy143⟩ : ∃ y_ : List ByteArray, y_ = (x8_3 ++ [(rd_T46 l0 t134).f2]) := ⟨_, rfl⟩
                  replace H : (if x9_3 = true then (parts_Join.l1 k3 l0 l1 y143 true l1 (l1.length : Int) (wrap64 (x44_3 + 1)) 0 false (wrap64 (x132002_3 + ((rd_T46 l0 t134).f1))) (⟨#[]⟩ : ByteArray) y139) else (if x44_3 < (wrap64 ((l1.length : Int) - 1)) then (parts_Join.l1 k3 l0 l1 y143 (decide (((rd_T46 l0 t134).f1) < 64)) l1 (l1.length : Int) (wrap64 (x44_3 + 1)) 0 false (wrap64 (x132002_3 + ((rd_T46 l0 t134).f1))) (⟨#[]⟩ : ByteArray) y139) else (parts_Join.l1 k3 l0 l1 y143 false l1 (l1.length : Int) (wrap64 (x44_3 + 1)) 0 false (wrap64 (x132002_3 + ((rd_T46 l0 t134).f1))) (⟨#[]⟩ : ByteArray) y139))) = some (r1, r2, r3, r4, r5, r6) := by first | (rw [hy143]; with_reducible exact H) | (have H2_ := (Option.bind_some _ _).symm.trans H; rw [hy143]; with_reducible exact H2_) | (have H2_ := (Option.bind_some _ _).symm.trans H; with_reducible exact H2_) | with_reducible exact H | (rw [hy143]; exact H) | exact H
                  have Ny143 := am hy143
                  clear hy143
                  by_cases c31 : x9_3 = true
                  ·
                   subst c31
                   rw [if_pos rfl] at H
                   have H' := am H
                   clear H
                   have p132 := pz x44_3
                   have q132 := pl x44_3 (l1.length : Int)
                   obtain ⟨ad132, e132, hx132_0, hx132_1⟩ := at_T61 HR1.out x44_3 (of_eq_true p132) (of_eq_true q132)
                   cases e132
                   replace hx132_0 := bc HB.out hx132_0
                   replace hx132_1 := bc HB.out hx132_1
                   try go_wp2_with (first | ((with_reducible refine gate_dst (N := 11) rfl ?_); (try (refine gate_guard (by rfl) ?_; dsimp only)); refine bx 11 #[.int .i64 0, .string (⟨#[]⟩ : ByteArray)] 61 ?_; intro gb133 hg w32 hbox hb; have BK133 := am (hbox); have GW133 := gsz hg HB.out; have GE133 := gsz hg HB.out; have NB127_133 := nlt (g := gb127) hg BK127.out; have NB133_127 := ngt (g := gb127) hg BK127.out; have NB131_133 := nlt (g := gb131) hg BK131.out; have NB133_131 := ngt (g := gb131) hg BK131.out; replace HO_8 := am (Kd.R_below (kR HO_8.out) hb); replace HO_132004 := am (Kd.R_below (kR HO_132004.out) hb); replace BK127 := bb BK127.out hb; replace BK131 := bb BK131.out hb; replace HB := am (below_step (bws HB.out) hb); clear hb hbox hg; have hnb33 := NB133_127.out; have hnc33 := NB127_133.out; have hnb34 := NB133_131.out; have hnc34 := NB131_133.out; obtain ⟨hcz35_0, hcz35_1, hfz35_0, hfz35_1⟩ := cz2 BK133.out) | ((with_reducible refine gate_callee (f := 30) rfl ?_); refine goesL_ (some 53) rfl rfl Tryd.func30 (by kernel_rfl) rfl #[.slice A0 l0.length c0, .int .i64 ((rd_T61 l1 x44_3).f0)] rfl gl ?_; (with_reducible refine (parts_find.calls _ _ l0 ((rd_T61 l1 x44_3).f0) t134 true _ ?side1 ?side2 A24.out).mono ?_); (case side1 => exact Kd.C_below HR0.out (bws HB.out)); (case side2 => exact HC0.out); rintro e w36 ⟨rfl, hb⟩; refine ⟨_, rfl, ?_⟩; replace HO_8 := am (Kd.R_below (by (with_reducible repeat (first | apply Kd.R_alloc | apply Kd.R_drewN | apply Kd.R_drew)); exact (Kd.R_mono (Kd.R_far (p := ⟨gb133, 1, none⟩) (Kd.R_far (p := ⟨gb133, 0, none⟩) (Kd.R_types HO_8.out BK133.out (by decide)) (fun _ hk => hk.2) (.int .i64 ((rd_T61 l1 x44_3).f0))) (fun _ hk => hk.2) (.string ((rd_T61 l1 x44_3).f1))) (fun _ h_ => h_.1))) hb); replace HO_132004 := am (Kd.R_below (by (with_reducible repeat (first | apply Kd.R_alloc | apply Kd.R_drewN | apply Kd.R_drew)); exact (Kd.R_mono (Kd.R_far (p := ⟨gb133, 1, none⟩) (Kd.R_far (p := ⟨gb133, 0, none⟩) (Kd.R_types HO_132004.out BK133.out (by decide)) (fun _ hk => hk.2) (.int .i64 ((rd_T61 l1 x44_3).f0))) (fun _ hk => hk.2) (.string ((rd_T61 l1 x44_3).f1))) (fun _ h_ => h_.1))) hb); replace BK127 := am (blk_below (g := gb127) (o := .cells #[.int .i64 x128000_3, .bool x128001_3, .int .i64 x128002_3, .string x128003_3, .slice none 0 0] 26 (0, 0)) (bkf BK127.out) hb); replace BK131 := am (blk_below (g := gb131) (o := .cells #[.int .i64 0, .bool false, .int .i64 x132002_3, .string (⟨#[]⟩ : ByteArray), u132004] 26 (0, 0)) (bkf BK131.out) hb); replace BK133 := am (blk_below (g := gb133) (o := .cells #[.int .i64 ((rd_T61 l1 x44_3).f0), .string ((rd_T61 l1 x44_3).f1)] 61 (0, 0)) (bkp BK133.out) hb); replace HB := am (below_step (bws HB.out) hb); (try clear hb)))
                   replace HO_8 := am (Kd.R_drew HO_8.out)
                   replace HO_132004 := am (Kd.R_drew HO_132004.out)
                   replace BK127 := am (blk_drew BK127.out)
                   replace BK131 := am (blk_drew BK131.out)
                   replace BK133 := am (blk_drew BK133.out)
                   replace HB := am (below_drew1 HB.out)
                   have p136 := pz t134
                   have q136 := pl t134 (l0.length : Int)
                   obtain ⟨ad136, A136_3, c136_3, e136, hw136_0, hw136_1, hw136_2, hw136_3, hl136_3, hi136_3⟩ := at_T46 HR0.out t134 (of_eq_true p136) (of_eq_true q136)
                   cases e136
                   have hx136_0 := bc HB.out hw136_0
                   have hx136_1 := bc HB.out hw136_1
                   have hx136_2 := bc HB.out hw136_2
                   have hx136_3 := bc HB.out hw136_3
                   have HR136_3 := am hi136_3
                   have HC136_3 := am hl136_3
                   clear hi136_3 hl136_3
                   refine start_ (n := 12) (S := fun w' => w'.cell? ⟨gb133, 0, none⟩ = some (.int .i64 ((rd_T61 l1 x44_3).f0)) ∧ w'.cell? ⟨gb133, 1, none⟩ = some (.string ((rd_T61 l1 x44_3).f1)) ∧ w'.cell? (ad136.add ((t134).toNat * 4)) = some (.int .i64 ((rd_T46 l0 t134).f0)) ∧ w'.cell? ⟨(ad136.add ((t134).toNat * 4)).block, (ad136.add ((t134).toNat * 4)).off + 1, none⟩ = some (.int .i64 ((rd_T46 l0 t134).f1)) ∧ w'.cell? ⟨(ad136.add ((t134).toNat * 4)).block, (ad136.add ((t134).toNat * 4)).off + 2, none⟩ = some (.string ((rd_T46 l0 t134).f2)) ∧ w'.cell? ⟨(ad136.add ((t134).toNat * 4)).block, (ad136.add ((t134).toNat * 4)).off + 3, none⟩ = some (.slice A136_3 ((rd_T46 l0 t134).f3).length c136_3)) (ds := []) #[false, false, false, false, false, false, false, false, false, false, false, false] (by kernel_rfl) rfl rfl ⟨(blk_cell BK133.out 0).trans rfl, (blk_cell BK133.out 1).trans rfl, (bc HB.out hw136_0), (bc HB.out hw136_1), (bc HB.out hw136_2), (bc HB.out hw136_3)⟩ (fun hHeld => ?_); refine with_tabW parts_Join.tab15 parts_Join.bits15 (fun HT_ HW_ => ?_)
                   generalize w36.drew = w37 at HO_8 HO_132004 BK127 BK131 BK133 HB HR136_3 hx136_0 hx136_1 hx136_2 hx136_3 hHeld ⊢
                   refine pu 0 (some 56) HT_.out ?_
                   refine pu 1 (some 57) HT_.out ?_
                   refine pu 2 (some 58) HT_.out ?_
                   refine pu 3 (some 59) HT_.out ?_
                   refine pu 4 (some 60) HT_.out ?_
                   refine pu 5 (some 61) HT_.out ?_
                   refine pu 6 (some 62) HT_.out ?_
                   refine pu 8 (some 64) HT_.out ?_
                   refine tk 7 (some 63) HT_.out HW_.out hHeld ?_
                   refine tk 9 (some 65) HT_.out HW_.out hHeld ?_
                   refine pu 10 (some 66) HT_.out ?_
                   refine pu 11 (some 67) HT_.out ?_
                   refine done_ (done_of HT_.out (by kernel_rfl)) ?_
                   try go_wp2
                   replace HO_8 := am (Kd.R_drew HO_8.out)
                   replace HO_132004 := am (Kd.R_drew HO_132004.out)
                   replace BK127 := am (blk_drew BK127.out)
                   replace BK131 := am (blk_drew BK131.out)
                   replace BK133 := am (blk_drew BK133.out)
                   replace HB := am (below_drew1 HB.out)
                   have p137 := pz t134
                   have q137 := pl t134 (l0.length : Int)
                   obtain ⟨ad137, A137_3, c137_3, e137, hw137_0, hw137_1, hw137_2, hw137_3, hl137_3, hi137_3⟩ := at_T46 HR0.out t134 (of_eq_true p137) (of_eq_true q137)
                   obtain rfl : ad136 = ad137 := (by injection e137)
                   have hx137_0 := bc HB.out hw137_0
                   have hx137_1 := bc HB.out hw137_1
                   have hx137_2 := bc HB.out hw137_2
                   have hx137_3 := bc HB.out hw137_3
                   have HR137_3 := am hi137_3
                   have HC137_3 := am hl137_3
                   clear hi137_3 hl137_3
                   refine start_ (n := 10) (S := fun w' => w'.cell? ⟨gb131, 0, none⟩ = some (.int .i64 0) ∧ w'.cell? ⟨gb131, 1, none⟩ = some (.bool false) ∧ w'.cell? ⟨gb131, 2, none⟩ = some (.int .i64 x132002_3) ∧ w'.cell? ⟨gb131, 3, none⟩ = some (.string (⟨#[]⟩ : ByteArray)) ∧ w'.cell? ⟨gb131, 4, none⟩ = some (u132004) ∧ w'.cell? (ad136.add ((t134).toNat * 4)) = some (.int .i64 ((rd_T46 l0 t134).f0)) ∧ w'.cell? ⟨(ad136.add ((t134).toNat * 4)).block, (ad136.add ((t134).toNat * 4)).off + 1, none⟩ = some (.int .i64 ((rd_T46 l0 t134).f1)) ∧ w'.cell? ⟨(ad136.add ((t134).toNat * 4)).block, (ad136.add ((t134).toNat * 4)).off + 2, none⟩ = some (.string ((rd_T46 l0 t134).f2)) ∧ w'.cell? ⟨(ad136.add ((t134).toNat * 4)).block, (ad136.add ((t134).toNat * 4)).off + 3, none⟩ = some (.slice A137_3 ((rd_T46 l0 t134).f3).length c137_3)) (ds := [9]) #[false, false, false, false, false, false, false, false, false, false] (by kernel_rfl) rfl rfl ⟨(blk_cell BK131.out 0).trans rfl, (blk_cell BK131.out 1).trans rfl, (blk_cell BK131.out 2).trans rfl, (blk_cell BK131.out 3).trans rfl, (blk_cell BK131.out 4).trans rfl, (bc HB.out hw137_0), (bc HB.out hw137_1), (bc HB.out hw137_2), (bc HB.out hw137_3)⟩ (fun hHeld => ?_); refine with_tabW parts_Join.tab17 parts_Join.bits17 (fun HT_ HW_ => ?_)
                   generalize w37.drew = w38 at HO_8 HO_132004 BK127 BK131 BK133 HB HR137_3 hx137_0 hx137_1 hx137_2 hx137_3 hHeld ⊢
                   refine pu 0 (some 69) HT_.out ?_
                   refine pu 2 (some 71) HT_.out ?_
                   refine pu 3 (some 72) HT_.out ?_
                   refine pu 4 (some 73) HT_.out ?_
                   refine pu 5 (some 74) HT_.out ?_
                   refine tk 1 (some 70) HT_.out HW_.out hHeld ?_
                   refine tk 6 (some 75) HT_.out HW_.out hHeld ?_
                   refine pu 7 (some 76) HT_.out ?_
                   refine pu 8 (some 77) HT_.out ?_
                   refine last_ (i := 9) (N := none) #[true, true, true, true, true, true, true, true, true, true] rfl rfl (one_of HT_.out (by kernel_rfl)) (by decide) (fun K hK => ?_)
                   have hs39 : w38.cell? ⟨gb131, 2, none⟩ = some (.int .i64 x132002_3) := (blk_cell BK131.out 2).trans rfl
                   have hfs39 := blk_frozen BK131.out 2
                   have hns39_0 := NB127_131.out
                   have hns39_2 := NB133_131.out
                   have hms39_0 := NB131_127.out
                   have hms39_2 := NB131_133.out
                   refine skip_ (w1 := ?_) (by rfl) rfl ?_ ?_
                   rotate_left
                   ·
                    go_simp
                    rfl
                   refine hK.out _ _ ?_
                   clear hK K
                   refine done_ (done_of HT_.out (by kernel_rfl)) ?_
                   try go_wp2
                   have n0_ : Aside0 (Kd.R Kd.string 9 (w38.setCell ⟨gb131, 2, none⟩ (.int .i64 (wrap64 (x132002_3 + ((rd_T46 l0 t134).f1))))) w.heap.size (fun _ => True) u8 x8_3) := ⟨by (with_reducible repeat (first | apply Kd.R_alloc | apply Kd.R_drewN | apply Kd.R_drew)); exact Kd.R_mono (Kd.R_far (p := ⟨gb131, 2, none⟩) (Kd.R_types HO_8.out BK131.out (by decide)) (fun _ hk => hk.2) (.int .i64 (wrap64 (x132002_3 + ((rd_T46 l0 t134).f1))))) (fun _ hk => trivial)⟩
                   have n1_ : Aside0 (Kd.R k63 63 (w38.setCell ⟨gb131, 2, none⟩ (.int .i64 (wrap64 (x132002_3 + ((rd_T46 l0 t134).f1))))) w.heap.size (fun _ => True) u132004 x132004_3) := ⟨by (with_reducible repeat (first | apply Kd.R_alloc | apply Kd.R_drewN | apply Kd.R_drew)); exact Kd.R_mono (Kd.R_far (p := ⟨gb131, 2, none⟩) (Kd.R_types HO_132004.out BK131.out (by decide)) (fun _ hk => hk.2) (.int .i64 (wrap64 (x132002_3 + ((rd_T46 l0 t134).f1))))) (fun _ hk => trivial)⟩
                   have n2_ : Aside0 ((w38.setCell ⟨gb131, 2, none⟩ (.int .i64 (wrap64 (x132002_3 + ((rd_T46 l0 t134).f1))))).heap[gb127]? = some (.cells #[.int .i64 x128000_3, .bool x128001_3, .int .i64 x128002_3, .string x128003_3, .slice none 0 0] 26 (0, 0))) := ⟨bkf BK127.out⟩
                   have n3_ : Aside0 ((w38.setCell ⟨gb131, 2, none⟩ (.int .i64 (wrap64 (x132002_3 + ((rd_T46 l0 t134).f1))))).heap[gb131]? = some (.cells #[.int .i64 0, .bool false, .int .i64 (wrap64 (x132002_3 + ((rd_T46 l0 t134).f1))), .string (⟨#[]⟩ : ByteArray), u132004] 26 (0, 0))) := ⟨bkp BK131.out⟩
                   have n4_ : Aside0 ((w38.setCell ⟨gb131, 2, none⟩ (.int .i64 (wrap64 (x132002_3 + ((rd_T46 l0 t134).f1))))).heap[gb133]? = some (.cells #[.int .i64 ((rd_T61 l1 x44_3).f0), .string ((rd_T61 l1 x44_3).f1)] 61 (0, 0))) := ⟨bkf BK133.out⟩
                   have n5_ : Aside0 (Below w.heap.size w (w38.setCell ⟨gb131, 2, none⟩ (.int .i64 (wrap64 (x132002_3 + ((rd_T46 l0 t134).f1)))))) := ⟨bws HB.out⟩
                   (try clear HO_8)
                   (try clear HO_132004)
                   (try clear BK127)
                   (try clear BK131)
                   (try clear BK133)
                   (try clear HB)
                   generalize (w38.setCell ⟨gb131, 2, none⟩ (.int .i64 (wrap64 (x132002_3 + ((rd_T46 l0 t134).f1))))) = w40 at n0_ n1_ n2_ n3_ n4_ n5_ ⊢
                   have HO_8 := n0_
                   have HO_132004 := n1_
                   have BK127 := n2_
                   have BK131 := n3_
                   have BK133 := n4_
                   have HB := n5_
                   clear n0_ n1_ n2_ n3_ n4_ n5_
                   replace HO_8 := am (Kd.R_drew HO_8.out)
                   replace HO_132004 := am (Kd.R_drew HO_132004.out)
                   replace BK127 := am (blk_drew BK127.out)
                   replace BK131 := am (blk_drew BK131.out)
                   replace BK133 := am (blk_drew BK133.out)
                   replace HB := am (below_drew1 HB.out)
                   have p138 := pz t134
                   have q138 := pl t134 (l0.length : Int)
                   obtain ⟨ad138, A138_3, c138_3, e138, hw138_0, hw138_1, hw138_2, hw138_3, hl138_3, hi138_3⟩ := at_T46 HR0.out t134 (of_eq_true p138) (of_eq_true q138)
                   obtain rfl : ad136 = ad138 := (by injection e138)
                   have hx138_0 := bc HB.out hw138_0
                   have hx138_1 := bc HB.out hw138_1
                   have hx138_2 := bc HB.out hw138_2
                   have hx138_3 := bc HB.out hw138_3
                   have HR138_3 := am hi138_3
                   have HC138_3 := am hl138_3
                   clear hi138_3 hl138_3
                   refine start_ (n := 10) (S := fun w' => w'.cell? ⟨gb131, 0, none⟩ = some (.int .i64 0) ∧ w'.cell? ⟨gb131, 1, none⟩ = some (.bool false) ∧ w'.cell? ⟨gb131, 2, none⟩ = some (.int .i64 (wrap64 (x132002_3 + ((rd_T46 l0 t134).f1)))) ∧ w'.cell? ⟨gb131, 3, none⟩ = some (.string (⟨#[]⟩ : ByteArray)) ∧ w'.cell? ⟨gb131, 4, none⟩ = some (u132004) ∧ w'.cell? (ad136.add ((t134).toNat * 4)) = some (.int .i64 ((rd_T46 l0 t134).f0)) ∧ w'.cell? ⟨(ad136.add ((t134).toNat * 4)).block, (ad136.add ((t134).toNat * 4)).off + 1, none⟩ = some (.int .i64 ((rd_T46 l0 t134).f1)) ∧ w'.cell? ⟨(ad136.add ((t134).toNat * 4)).block, (ad136.add ((t134).toNat * 4)).off + 2, none⟩ = some (.string ((rd_T46 l0 t134).f2)) ∧ w'.cell? ⟨(ad136.add ((t134).toNat * 4)).block, (ad136.add ((t134).toNat * 4)).off + 3, none⟩ = some (.slice A138_3 ((rd_T46 l0 t134).f3).length c138_3)) (ds := [9]) #[false, false, false, false, false, false, false, false, false, false] (by kernel_rfl) rfl rfl ⟨(blk_cell BK131.out 0).trans rfl, (blk_cell BK131.out 1).trans rfl, (blk_cell BK131.out 2).trans rfl, (blk_cell BK131.out 3).trans rfl, (blk_cell BK131.out 4).trans rfl, (bc HB.out hw138_0), (bc HB.out hw138_1), (bc HB.out hw138_2), (bc HB.out hw138_3)⟩ (fun hHeld => ?_); refine with_tabW parts_Join.tab18 parts_Join.bits18 (fun HT_ HW_ => ?_)
                   generalize w40.drew = w41 at HO_8 HO_132004 BK127 BK131 BK133 HB HR138_3 hx138_0 hx138_1 hx138_2 hx138_3 hHeld ⊢
                   refine pu 0 (some 78) HT_.out ?_
                   refine pu 2 (some 80) HT_.out ?_
                   refine pu 3 (some 81) HT_.out ?_
                   refine pu 4 (some 82) HT_.out ?_
                   refine pu 5 (some 83) HT_.out ?_
                   refine tk 1 (some 79) HT_.out HW_.out hHeld ?_
                   refine tk 6 (some 84) HT_.out HW_.out hHeld ?_
                   refine one_ (i := 7) (N := some 85) #[true, true, true, true, true, true, true, true, false, false] rfl rfl (one_of HT_.out (by kernel_rfl)) (by decide) (fun K hK => ?_)
                   refine Kd.R_append_rows_step k63 (w0 := w) w.heap.size (by rfl) (.tmp 79) (.tmp 84) 24 63 (.agg #[(.string ⟨#[]⟩), (.int .i64 0)]) 24 rfl Tryd.underlying24 info63 rfl (by decide) (by omega) u132004 x132004_3 ((rd_T46 l0 t134).f3) _ _ _ (fun _ => True) (fun _ => False) rfl rfl ?aO ?aR (fun _ _ h => h) (fun _ h => h.elim) ?aF ?aB ?aS ?aL ?_
                   (case aR => exact kC (Kd.C_below HR138_3.out HB.out))
                   (case aB => exact (bws HB.out))
                   (case aF => exact (fun _ _ => trivial))
                   (case aO => exact (kR HO_132004.out))
                   (case aS => exact (below_size (bws HB.out)))
                   (case aL => have := LMc29.out; omega)
                   intro v140 w42 ho hb hg hat
                   rw [← Ny139.out] at ho
                   have n0_ := am (Kd.R_over' (kR HO_8.out) (Kd.R_typed (kR HO_132004.out)) (by decide) hg)
                   have n1_ := am (blk_grown (g := gb127) (o := .cells #[.int .i64 x128000_3, .bool x128001_3, .int .i64 x128002_3, .string x128003_3, .slice none 0 0] 26 (0, 0)) (bk BK127.out) hg (Kd.R_ne HO_132004.out BK127.out (by decide)))
                   have n2_ := am (blk_grown (g := gb131) (o := .cells #[.int .i64 0, .bool false, .int .i64 (wrap64 (x132002_3 + ((rd_T46 l0 t134).f1))), .string (⟨#[]⟩ : ByteArray), u132004] 26 (0, 0)) (bk BK131.out) hg (Kd.R_ne HO_132004.out BK131.out (by decide)))
                   have n3_ := am (blk_grown (g := gb133) (o := .cells #[.int .i64 ((rd_T61 l1 x44_3).f0), .string ((rd_T61 l1 x44_3).f1)] 61 (0, 0)) (bk BK133.out) hg (Kd.R_ne HO_132004.out BK133.out (by decide)))
                   have n4_ := am (hb)
                   have n5_ := am (ho)
                   clear HO_8
                   clear BK127
                   clear BK131
                   clear BK133
                   clear HB
                   clear HO_132004
                   have HO_8 := n0_
                   have BK127 := n1_
                   have BK131 := n2_
                   have BK133 := n3_
                   have HB := n4_
                   have HO141 := n5_
                   clear n0_ n1_ n2_ n3_ n4_ n5_
                   clear ho hb hg hat
                   obtain ⟨Ao43, co43, eo43⟩ := Kd.R_slice HO141.out
                   (first | subst eo43 | (injection eo43 with f1_ f2_ f3_; have f4_ := f1_.symm; have f5_ := f3_.symm; clear f1_ f2_ f3_; subst f4_; subst f5_))
                   refine hK.out _ _ ⟨(blk_cell BK131.out 0).trans rfl, (blk_cell BK131.out 1).trans rfl, (blk_cell BK131.out 2).trans rfl, (blk_cell BK131.out 3).trans rfl, (blk_cell BK131.out 4).trans rfl, (bc HB.out hw138_0), (bc HB.out hw138_1), (bc HB.out hw138_2), (bc HB.out hw138_3)⟩ (fun hHeld => ?_)
                   clear hK K
                   refine norm_ (a' := ?_) ?_ ?_
                   rotate_left
                   ·
                    show Act.put _ (some 85) _ = _
                    simp only [Act.put, List.setIfInBounds_toArray, List.set_cons_zero, List.set_cons_succ, i64_w, i32_w]
                    rfl
                   refine pu 8 (some 86) HT_.out ?_
                   refine last_ (i := 9) (N := none) #[true, true, true, true, true, true, true, true, true, true] rfl rfl (one_of HT_.out (by kernel_rfl)) (by decide) (fun K hK => ?_)
                   have hs44 : w42.cell? ⟨gb131, 4, none⟩ = some (u132004) := (blk_cell BK131.out 4).trans rfl
                   have hfs44 := blk_frozen BK131.out 4
                   have hns44_0 := NB127_131.out
                   have hns44_2 := NB133_131.out
                   have hms44_0 := NB131_127.out
                   have hms44_2 := NB131_133.out
                   refine skip_ (w1 := ?_) (by rfl) rfl ?_ ?_
                   rotate_left
                   ·
                    go_simp
                    rfl
                   refine hK.out _ _ ?_
                   clear hK K
                   refine done_ (done_of HT_.out (by kernel_rfl)) ?_
                   have p142 := pz t134
                   have q142 := pl t134 (l0.length : Int)
                   obtain ⟨ad142, A142_3, c142_3, e142, hx142_0, hx142_1, hx142_2, hx142_3, hl142_3, hi142_3⟩ := at_T46 HR0.out t134 (of_eq_true p142) (of_eq_true q142)
                   obtain rfl : ad136 = ad142 := (by injection e142)
                   have hn142_0 : ad136.block ≠ gb131 := Nat.ne_of_lt (Nat.lt_of_lt_of_le (by have := World.block_lt_of_cell? _ _ hx142_0; first | rwa [add_block] at this | exact this) GW131.out)
                   replace hx142_0 := bc HB.out hx142_0
                   replace hx142_1 := bc HB.out hx142_1
                   replace hx142_2 := bc HB.out hx142_2
                   replace hx142_3 := bc HB.out hx142_3
                   have HR142_3 := am hi142_3
                   have HC142_3 := am hl142_3
                   clear hi142_3 hl142_3
                   replace hx142_0 := (cell_far (p := ⟨gb131, 4, none⟩) (by first | (rw [add_block]; exact hn142_0) | (show (Addr.add _ _).block ≠ _; rw [add_block]; exact hn142_0) | exact hn142_0) (.slice Ao43 y139.length co43)).trans hx142_0
                   replace hx142_1 := (cell_far (p := ⟨gb131, 4, none⟩) (by first | (rw [add_block]; exact hn142_0) | (show (Addr.add _ _).block ≠ _; rw [add_block]; exact hn142_0) | exact hn142_0) (.slice Ao43 y139.length co43)).trans hx142_1
                   replace hx142_2 := (cell_far (p := ⟨gb131, 4, none⟩) (by first | (rw [add_block]; exact hn142_0) | (show (Addr.add _ _).block ≠ _; rw [add_block]; exact hn142_0) | exact hn142_0) (.slice Ao43 y139.length co43)).trans hx142_2
                   replace hx142_3 := (cell_far (p := ⟨gb131, 4, none⟩) (by first | (rw [add_block]; exact hn142_0) | (show (Addr.add _ _).block ≠ _; rw [add_block]; exact hn142_0) | exact hn142_0) (.slice Ao43 y139.length co43)).trans hx142_3
                   clear hn142_0
                   try go_wp2_with (first | ((with_reducible refine gate_builtin (b := .append) (xs := #[.tmp 87, .tmp 93]) rfl ?_); (try (refine gate_guard (by rfl) ?_; dsimp only)); at_builtin; refine Kd.R_append Kd.string (w0 := w) w.heap.size rfl (.tmp 87) (.tmp 93) 56 9 (.string ⟨#[]⟩) 16 rfl Tryd.underlying56 info9 rfl (by decide) (by omega) u8 x8_3 ((rd_T46 l0 t134).f2) [.string ((rd_T46 l0 t134).f2)] (fun _ => True) (fun _ => False) rfl (by first | (go_simp; done) | (go_simp; rfl)) ?aP (fun _ hk => hk.elim) ?aF ?aO ?aB ?aS ?aL ?_; (case aP => exact rfl); (case aB => exact (bws HB.out)); (case aF => exact (fun _ _ => trivial)); (case aO => exact (by (with_reducible repeat (first | apply Kd.R_alloc | apply Kd.R_drewN | apply Kd.R_drew)); exact Kd.R_mono (Kd.R_far (p := ⟨gb131, 4, none⟩) (Kd.R_types HO_8.out BK131.out (by decide)) (fun _ hk => hk.2) (.slice Ao43 y139.length co43)) (fun _ hk => trivial))); (case aS => exact (below_size (bws HB.out))); (case aL => have := LMc30.out; omega); intro v144 w45 ho hb hg hat; rw [← Ny143.out] at ho; have n0_ := am (blk_grown (g := gb127) (o := .cells #[.int .i64 x128000_3, .bool x128001_3, .int .i64 x128002_3, .string x128003_3, .slice none 0 0] 26 (0, 0)) (bkf BK127.out) hg (Kd.R_ne HO_8.out BK127.out (by decide))); have n1_ := am (blk_grown (g := gb131) (o := .cells #[.int .i64 0, .bool false, .int .i64 (wrap64 (x132002_3 + ((rd_T46 l0 t134).f1))), .string (⟨#[]⟩ : ByteArray), .slice Ao43 y139.length co43] 26 (0, 0)) (bkp BK131.out) hg (Kd.R_ne HO_8.out BK131.out (by decide))); have n2_ := am (blk_grown (g := gb133) (o := .cells #[.int .i64 ((rd_T61 l1 x44_3).f0), .string ((rd_T61 l1 x44_3).f1)] 61 (0, 0)) (bkf BK133.out) hg (Kd.R_ne HO_8.out BK133.out (by decide))); have n3_ := am (Kd.R_over' (by (with_reducible repeat (first | apply Kd.R_alloc | apply Kd.R_drewN | apply Kd.R_drew)); exact (Kd.R_mono (Kd.R_far (p := ⟨gb131, 4, none⟩) (Kd.R_types HO141.out BK131.out (by decide)) (fun _ hk => hk.2) (.slice Ao43 y139.length co43)) (fun _ h_ => h_.1))) (Kd.R_typed (by (with_reducible repeat (first | apply Kd.R_alloc | apply Kd.R_drewN | apply Kd.R_drew)); exact (Kd.R_mono (Kd.R_far (p := ⟨gb131, 4, none⟩) (Kd.R_types HO_8.out BK131.out (by decide)) (fun _ hk => hk.2) (.slice Ao43 y139.length co43)) (fun _ h_ => h_.1)))) (by decide) hg); have n4_ := am (hb); have n5_ := am (ho); clear BK127; clear BK131; clear BK133; clear HO141; clear HB; clear HO_8; have BK127 := n0_; have BK131 := n1_; have BK133 := n2_; have HO141 := n3_; have HB := n4_; have HO145 := n5_; clear n0_ n1_ n2_ n3_ n4_ n5_; clear ho hb hg hat))
                   go_roundg k3
                   case measure => have := HJ2.out; have := HK2.out; have := HK3.out; omega
                   case rel => exact ⟨(y143), (true), (wrap64 (x44_3 + 1)), (x128000_3), (x128001_3), (x128002_3), (x128003_3), (wrap64 (x132002_3 + ((rd_T46 l0 t134).f1))), (y139), (.slice Ao43 y139.length co43), rs, rs, H', ⟨by have := HJ2.out; have := HK2.out; have := HK3.out; omega⟩, ⟨kR HO145.out⟩, ⟨kR HO141.out⟩, ⟨bk BK127.out⟩, ⟨bk BK131.out⟩, ⟨bws HB.out⟩⟩
                  ·
                   replace c31 := Bool.eq_false_iff.mpr c31
                   subst c31
                   rw [if_neg (show ¬ (false = true) by decide)] at H
                   replace H := iteD H
                   rcases H with ⟨c46b0, H⟩ | ⟨c46b0, H⟩
                   ·
                    have H' := am H
                    clear H
                    have p132 := pz x44_3
                    have q132 := pl x44_3 (l1.length : Int)
                    obtain ⟨ad132, e132, hx132_0, hx132_1⟩ := at_T61 HR1.out x44_3 (of_eq_true p132) (of_eq_true q132)
                    cases e132
                    replace hx132_0 := bc HB.out hx132_0
                    replace hx132_1 := bc HB.out hx132_1
                    try go_wp2_with (first | ((with_reducible refine gate_dst (N := 11) rfl ?_); (try (refine gate_guard (by rfl) ?_; dsimp only)); refine bx 11 #[.int .i64 0, .string (⟨#[]⟩ : ByteArray)] 61 ?_; intro gb133 hg w47 hbox hb; have BK133 := am (hbox); have GW133 := gsz hg HB.out; have GE133 := gsz hg HB.out; have NB127_133 := nlt (g := gb127) hg BK127.out; have NB133_127 := ngt (g := gb127) hg BK127.out; have NB131_133 := nlt (g := gb131) hg BK131.out; have NB133_131 := ngt (g := gb131) hg BK131.out; replace HO_8 := am (Kd.R_below (kR HO_8.out) hb); replace HO_132004 := am (Kd.R_below (kR HO_132004.out) hb); replace BK127 := bb BK127.out hb; replace BK131 := bb BK131.out hb; replace HB := am (below_step (bws HB.out) hb); clear hb hbox hg; have hnb48 := NB133_127.out; have hnc48 := NB127_133.out; have hnb49 := NB133_131.out; have hnc49 := NB131_133.out; obtain ⟨hcz50_0, hcz50_1, hfz50_0, hfz50_1⟩ := cz2 BK133.out) | ((with_reducible refine gate_callee (f := 30) rfl ?_); refine goesL_ (some 53) rfl rfl Tryd.func30 (by kernel_rfl) rfl #[.slice A0 l0.length c0, .int .i64 ((rd_T61 l1 x44_3).f0)] rfl gl ?_; (with_reducible refine (parts_find.calls _ _ l0 ((rd_T61 l1 x44_3).f0) t134 true _ ?side1 ?side2 A24.out).mono ?_); (case side1 => exact Kd.C_below HR0.out (bws HB.out)); (case side2 => exact HC0.out); rintro e w51 ⟨rfl, hb⟩; refine ⟨_, rfl, ?_⟩; replace HO_8 := am (Kd.R_below (by (with_reducible repeat (first | apply Kd.R_alloc | apply Kd.R_drewN | apply Kd.R_drew)); exact (Kd.R_mono (Kd.R_far (p := ⟨gb133, 1, none⟩) (Kd.R_far (p := ⟨gb133, 0, none⟩) (Kd.R_types HO_8.out BK133.out (by decide)) (fun _ hk => hk.2) (.int .i64 ((rd_T61 l1 x44_3).f0))) (fun _ hk => hk.2) (.string ((rd_T61 l1 x44_3).f1))) (fun _ h_ => h_.1))) hb); replace HO_132004 := am (Kd.R_below (by (with_reducible repeat (first | apply Kd.R_alloc | apply Kd.R_drewN | apply Kd.R_drew)); exact (Kd.R_mono (Kd.R_far (p := ⟨gb133, 1, none⟩) (Kd.R_far (p := ⟨gb133, 0, none⟩) (Kd.R_types HO_132004.out BK133.out (by decide)) (fun _ hk => hk.2) (.int .i64 ((rd_T61 l1 x44_3).f0))) (fun _ hk => hk.2) (.string ((rd_T61 l1 x44_3).f1))) (fun _ h_ => h_.1))) hb); replace BK127 := am (blk_below (g := gb127) (o := .cells #[.int .i64 x128000_3, .bool x128001_3, .int .i64 x128002_3, .string x128003_3, .slice none 0 0] 26 (0, 0)) (bkf BK127.out) hb); replace BK131 := am (blk_below (g := gb131) (o := .cells #[.int .i64 0, .bool false, .int .i64 x132002_3, .string (⟨#[]⟩ : ByteArray), u132004] 26 (0, 0)) (bkf BK131.out) hb); replace BK133 := am (blk_below (g := gb133) (o := .cells #[.int .i64 ((rd_T61 l1 x44_3).f0), .string ((rd_T61 l1 x44_3).f1)] 61 (0, 0)) (bkp BK133.out) hb); replace HB := am (below_step (bws HB.out) hb); (try clear hb)))
                    replace HO_8 := am (Kd.R_drew HO_8.out)
                    replace HO_132004 := am (Kd.R_drew HO_132004.out)
                    replace BK127 := am (blk_drew BK127.out)
                    replace BK131 := am (blk_drew BK131.out)
                    replace BK133 := am (blk_drew BK133.out)
                    replace HB := am (below_drew1 HB.out)
                    have p136 := pz t134
                    have q136 := pl t134 (l0.length : Int)
                    obtain ⟨ad136, A136_3, c136_3, e136, hw136_0, hw136_1, hw136_2, hw136_3, hl136_3, hi136_3⟩ := at_T46 HR0.out t134 (of_eq_true p136) (of_eq_true q136)
                    cases e136
                    have hx136_0 := bc HB.out hw136_0
                    have hx136_1 := bc HB.out hw136_1
                    have hx136_2 := bc HB.out hw136_2
                    have hx136_3 := bc HB.out hw136_3
                    have HR136_3 := am hi136_3
                    have HC136_3 := am hl136_3
                    clear hi136_3 hl136_3
                    refine start_ (n := 12) (S := fun w' => w'.cell? ⟨gb133, 0, none⟩ = some (.int .i64 ((rd_T61 l1 x44_3).f0)) ∧ w'.cell? ⟨gb133, 1, none⟩ = some (.string ((rd_T61 l1 x44_3).f1)) ∧ w'.cell? (ad136.add ((t134).toNat * 4)) = some (.int .i64 ((rd_T46 l0 t134).f0)) ∧ w'.cell? ⟨(ad136.add ((t134).toNat * 4)).block, (ad136.add ((t134).toNat * 4)).off + 1, none⟩ = some (.int .i64 ((rd_T46 l0 t134).f1)) ∧ w'.cell? ⟨(ad136.add ((t134).toNat * 4)).block, (ad136.add ((t134).toNat * 4)).off + 2, none⟩ = some (.string ((rd_T46 l0 t134).f2)) ∧ w'.cell? ⟨(ad136.add ((t134).toNat * 4)).block, (ad136.add ((t134).toNat * 4)).off + 3, none⟩ = some (.slice A136_3 ((rd_T46 l0 t134).f3).length c136_3)) (ds := []) #[false, false, false, false, false, false, false, false, false, false, false, false] (by kernel_rfl) rfl rfl ⟨(blk_cell BK133.out 0).trans rfl, (blk_cell BK133.out 1).trans rfl, (bc HB.out hw136_0), (bc HB.out hw136_1), (bc HB.out hw136_2), (bc HB.out hw136_3)⟩ (fun hHeld => ?_); refine with_tabW parts_Join.tab15 parts_Join.bits15 (fun HT_ HW_ => ?_)
                    generalize w51.drew = w52 at HO_8 HO_132004 BK127 BK131 BK133 HB HR136_3 hx136_0 hx136_1 hx136_2 hx136_3 hHeld ⊢
                    refine pu 0 (some 56) HT_.out ?_
                    refine pu 1 (some 57) HT_.out ?_
                    refine pu 2 (some 58) HT_.out ?_
                    refine pu 3 (some 59) HT_.out ?_
                    refine pu 4 (some 60) HT_.out ?_
                    refine pu 5 (some 61) HT_.out ?_
                    refine pu 6 (some 62) HT_.out ?_
                    refine pu 8 (some 64) HT_.out ?_
                    refine tk 7 (some 63) HT_.out HW_.out hHeld ?_
                    refine tk 9 (some 65) HT_.out HW_.out hHeld ?_
                    refine pu 10 (some 66) HT_.out ?_
                    refine pu 11 (some 67) HT_.out ?_
                    refine done_ (done_of HT_.out (by kernel_rfl)) ?_
                    try go_wp2
                    replace HO_8 := am (Kd.R_drew HO_8.out)
                    replace HO_132004 := am (Kd.R_drew HO_132004.out)
                    replace BK127 := am (blk_drew BK127.out)
                    replace BK131 := am (blk_drew BK131.out)
                    replace BK133 := am (blk_drew BK133.out)
                    replace HB := am (below_drew1 HB.out)
                    have p137 := pz t134
                    have q137 := pl t134 (l0.length : Int)
                    obtain ⟨ad137, A137_3, c137_3, e137, hw137_0, hw137_1, hw137_2, hw137_3, hl137_3, hi137_3⟩ := at_T46 HR0.out t134 (of_eq_true p137) (of_eq_true q137)
                    obtain rfl : ad136 = ad137 := (by injection e137)
                    have hx137_0 := bc HB.out hw137_0
                    have hx137_1 := bc HB.out hw137_1
                    have hx137_2 := bc HB.out hw137_2
                    have hx137_3 := bc HB.out hw137_3
                    have HR137_3 := am hi137_3
                    have HC137_3 := am hl137_3
                    clear hi137_3 hl137_3
                    refine start_ (n := 10) (S := fun w' => w'.cell? ⟨gb131, 0, none⟩ = some (.int .i64 0) ∧ w'.cell? ⟨gb131, 1, none⟩ = some (.bool false) ∧ w'.cell? ⟨gb131, 2, none⟩ = some (.int .i64 x132002_3) ∧ w'.cell? ⟨gb131, 3, none⟩ = some (.string (⟨#[]⟩ : ByteArray)) ∧ w'.cell? ⟨gb131, 4, none⟩ = some (u132004) ∧ w'.cell? (ad136.add ((t134).toNat * 4)) = some (.int .i64 ((rd_T46 l0 t134).f0)) ∧ w'.cell? ⟨(ad136.add ((t134).toNat * 4)).block, (ad136.add ((t134).toNat * 4)).off + 1, none⟩ = some (.int .i64 ((rd_T46 l0 t134).f1)) ∧ w'.cell? ⟨(ad136.add ((t134).toNat * 4)).block, (ad136.add ((t134).toNat * 4)).off + 2, none⟩ = some (.string ((rd_T46 l0 t134).f2)) ∧ w'.cell? ⟨(ad136.add ((t134).toNat * 4)).block, (ad136.add ((t134).toNat * 4)).off + 3, none⟩ = some (.slice A137_3 ((rd_T46 l0 t134).f3).length c137_3)) (ds := [9]) #[false, false, false, false, false, false, false, false, false, false] (by kernel_rfl) rfl rfl ⟨(blk_cell BK131.out 0).trans rfl, (blk_cell BK131.out 1).trans rfl, (blk_cell BK131.out 2).trans rfl, (blk_cell BK131.out 3).trans rfl, (blk_cell BK131.out 4).trans rfl, (bc HB.out hw137_0), (bc HB.out hw137_1), (bc HB.out hw137_2), (bc HB.out hw137_3)⟩ (fun hHeld => ?_); refine with_tabW parts_Join.tab17 parts_Join.bits17 (fun HT_ HW_ => ?_)
                    generalize w52.drew = w53 at HO_8 HO_132004 BK127 BK131 BK133 HB HR137_3 hx137_0 hx137_1 hx137_2 hx137_3 hHeld ⊢
                    refine pu 0 (some 69) HT_.out ?_
                    refine pu 2 (some 71) HT_.out ?_
                    refine pu 3 (some 72) HT_.out ?_
                    refine pu 4 (some 73) HT_.out ?_
                    refine pu 5 (some 74) HT_.out ?_
                    refine tk 1 (some 70) HT_.out HW_.out hHeld ?_
                    refine tk 6 (some 75) HT_.out HW_.out hHeld ?_
                    refine pu 7 (some 76) HT_.out ?_
                    refine pu 8 (some 77) HT_.out ?_
                    refine last_ (i := 9) (N := none) #[true, true, true, true, true, true, true, true, true, true] rfl rfl (one_of HT_.out (by kernel_rfl)) (by decide) (fun K hK => ?_)
                    have hs54 : w53.cell? ⟨gb131, 2, none⟩ = some (.int .i64 x132002_3) := (blk_cell BK131.out 2).trans rfl
                    have hfs54 := blk_frozen BK131.out 2
                    have hns54_0 := NB127_131.out
                    have hns54_2 := NB133_131.out
                    have hms54_0 := NB131_127.out
                    have hms54_2 := NB131_133.out
                    refine skip_ (w1 := ?_) (by rfl) rfl ?_ ?_
                    rotate_left
                    ·
                     go_simp
                     rfl
                    refine hK.out _ _ ?_
                    clear hK K
                    refine done_ (done_of HT_.out (by kernel_rfl)) ?_
                    try go_wp2
                    have n0_ : Aside0 (Kd.R Kd.string 9 (w53.setCell ⟨gb131, 2, none⟩ (.int .i64 (wrap64 (x132002_3 + ((rd_T46 l0 t134).f1))))) w.heap.size (fun _ => True) u8 x8_3) := ⟨by (with_reducible repeat (first | apply Kd.R_alloc | apply Kd.R_drewN | apply Kd.R_drew)); exact Kd.R_mono (Kd.R_far (p := ⟨gb131, 2, none⟩) (Kd.R_types HO_8.out BK131.out (by decide)) (fun _ hk => hk.2) (.int .i64 (wrap64 (x132002_3 + ((rd_T46 l0 t134).f1))))) (fun _ hk => trivial)⟩
                    have n1_ : Aside0 (Kd.R k63 63 (w53.setCell ⟨gb131, 2, none⟩ (.int .i64 (wrap64 (x132002_3 + ((rd_T46 l0 t134).f1))))) w.heap.size (fun _ => True) u132004 x132004_3) := ⟨by (with_reducible repeat (first | apply Kd.R_alloc | apply Kd.R_drewN | apply Kd.R_drew)); exact Kd.R_mono (Kd.R_far (p := ⟨gb131, 2, none⟩) (Kd.R_types HO_132004.out BK131.out (by decide)) (fun _ hk => hk.2) (.int .i64 (wrap64 (x132002_3 + ((rd_T46 l0 t134).f1))))) (fun _ hk => trivial)⟩
                    have n2_ : Aside0 ((w53.setCell ⟨gb131, 2, none⟩ (.int .i64 (wrap64 (x132002_3 + ((rd_T46 l0 t134).f1))))).heap[gb127]? = some (.cells #[.int .i64 x128000_3, .bool x128001_3, .int .i64 x128002_3, .string x128003_3, .slice none 0 0] 26 (0, 0))) := ⟨bkf BK127.out⟩
                    have n3_ : Aside0 ((w53.setCell ⟨gb131, 2, none⟩ (.int .i64 (wrap64 (x132002_3 + ((rd_T46 l0 t134).f1))))).heap[gb131]? = some (.cells #[.int .i64 0, .bool false, .int .i64 (wrap64 (x132002_3 + ((rd_T46 l0 t134).f1))), .string (⟨#[]⟩ : ByteArray), u132004] 26 (0, 0))) := ⟨bkp BK131.out⟩
                    have n4_ : Aside0 ((w53.setCell ⟨gb131, 2, none⟩ (.int .i64 (wrap64 (x132002_3 + ((rd_T46 l0 t134).f1))))).heap[gb133]? = some (.cells #[.int .i64 ((rd_T61 l1 x44_3).f0), .string ((rd_T61 l1 x44_3).f1)] 61 (0, 0))) := ⟨bkf BK133.out⟩
                    have n5_ : Aside0 (Below w.heap.size w (w53.setCell ⟨gb131, 2, none⟩ (.int .i64 (wrap64 (x132002_3 + ((rd_T46 l0 t134).f1)))))) := ⟨bws HB.out⟩
                    (try clear HO_8)
                    (try clear HO_132004)
                    (try clear BK127)
                    (try clear BK131)
                    (try clear BK133)
                    (try clear HB)
                    generalize (w53.setCell ⟨gb131, 2, none⟩ (.int .i64 (wrap64 (x132002_3 + ((rd_T46 l0 t134).f1))))) = w55 at n0_ n1_ n2_ n3_ n4_ n5_ ⊢
                    have HO_8 := n0_
                    have HO_132004 := n1_
                    have BK127 := n2_
                    have BK131 := n3_
                    have BK133 := n4_
                    have HB := n5_
                    clear n0_ n1_ n2_ n3_ n4_ n5_
                    replace HO_8 := am (Kd.R_drew HO_8.out)
                    replace HO_132004 := am (Kd.R_drew HO_132004.out)
                    replace BK127 := am (blk_drew BK127.out)
                    replace BK131 := am (blk_drew BK131.out)
                    replace BK133 := am (blk_drew BK133.out)
                    replace HB := am (below_drew1 HB.out)
                    have p138 := pz t134
                    have q138 := pl t134 (l0.length : Int)
                    obtain ⟨ad138, A138_3, c138_3, e138, hw138_0, hw138_1, hw138_2, hw138_3, hl138_3, hi138_3⟩ := at_T46 HR0.out t134 (of_eq_true p138) (of_eq_true q138)
                    obtain rfl : ad136 = ad138 := (by injection e138)
                    have hx138_0 := bc HB.out hw138_0
                    have hx138_1 := bc HB.out hw138_1
                    have hx138_2 := bc HB.out hw138_2
                    have hx138_3 := bc HB.out hw138_3
                    have HR138_3 := am hi138_3
                    have HC138_3 := am hl138_3
                    clear hi138_3 hl138_3
                    refine start_ (n := 10) (S := fun w' => w'.cell? ⟨gb131, 0, none⟩ = some (.int .i64 0) ∧ w'.cell? ⟨gb131, 1, none⟩ = some (.bool false) ∧ w'.cell? ⟨gb131, 2, none⟩ = some (.int .i64 (wrap64 (x132002_3 + ((rd_T46 l0 t134).f1)))) ∧ w'.cell? ⟨gb131, 3, none⟩ = some (.string (⟨#[]⟩ : ByteArray)) ∧ w'.cell? ⟨gb131, 4, none⟩ = some (u132004) ∧ w'.cell? (ad136.add ((t134).toNat * 4)) = some (.int .i64 ((rd_T46 l0 t134).f0)) ∧ w'.cell? ⟨(ad136.add ((t134).toNat * 4)).block, (ad136.add ((t134).toNat * 4)).off + 1, none⟩ = some (.int .i64 ((rd_T46 l0 t134).f1)) ∧ w'.cell? ⟨(ad136.add ((t134).toNat * 4)).block, (ad136.add ((t134).toNat * 4)).off + 2, none⟩ = some (.string ((rd_T46 l0 t134).f2)) ∧ w'.cell? ⟨(ad136.add ((t134).toNat * 4)).block, (ad136.add ((t134).toNat * 4)).off + 3, none⟩ = some (.slice A138_3 ((rd_T46 l0 t134).f3).length c138_3)) (ds := [9]) #[false, false, false, false, false, false, false, false, false, false] (by kernel_rfl) rfl rfl ⟨(blk_cell BK131.out 0).trans rfl, (blk_cell BK131.out 1).trans rfl, (blk_cell BK131.out 2).trans rfl, (blk_cell BK131.out 3).trans rfl, (blk_cell BK131.out 4).trans rfl, (bc HB.out hw138_0), (bc HB.out hw138_1), (bc HB.out hw138_2), (bc HB.out hw138_3)⟩ (fun hHeld => ?_); refine with_tabW parts_Join.tab18 parts_Join.bits18 (fun HT_ HW_ => ?_)
                    generalize w55.drew = w56 at HO_8 HO_132004 BK127 BK131 BK133 HB HR138_3 hx138_0 hx138_1 hx138_2 hx138_3 hHeld ⊢
                    refine pu 0 (some 78) HT_.out ?_
                    refine pu 2 (some 80) HT_.out ?_
                    refine pu 3 (some 81) HT_.out ?_
                    refine pu 4 (some 82) HT_.out ?_
                    refine pu 5 (some 83) HT_.out ?_
                    refine tk 1 (some 79) HT_.out HW_.out hHeld ?_
                    refine tk 6 (some 84) HT_.out HW_.out hHeld ?_
                    refine one_ (i := 7) (N := some 85) #[true, true, true, true, true, true, true, true, false, false] rfl rfl (one_of HT_.out (by kernel_rfl)) (by decide) (fun K hK => ?_)
                    refine Kd.R_append_rows_step k63 (w0 := w) w.heap.size (by rfl) (.tmp 79) (.tmp 84) 24 63 (.agg #[(.string ⟨#[]⟩), (.int .i64 0)]) 24 rfl Tryd.underlying24 info63 rfl (by decide) (by omega) u132004 x132004_3 ((rd_T46 l0 t134).f3) _ _ _ (fun _ => True) (fun _ => False) rfl rfl ?aO ?aR (fun _ _ h => h) (fun _ h => h.elim) ?aF ?aB ?aS ?aL ?_
                    (case aR => exact kC (Kd.C_below HR138_3.out HB.out))
                    (case aB => exact (bws HB.out))
                    (case aF => exact (fun _ _ => trivial))
                    (case aO => exact (kR HO_132004.out))
                    (case aS => exact (below_size (bws HB.out)))
                    (case aL => have := LMc29.out; omega)
                    intro v140 w57 ho hb hg hat
                    rw [← Ny139.out] at ho
                    have n0_ := am (Kd.R_over' (kR HO_8.out) (Kd.R_typed (kR HO_132004.out)) (by decide) hg)
                    have n1_ := am (blk_grown (g := gb127) (o := .cells #[.int .i64 x128000_3, .bool x128001_3, .int .i64 x128002_3, .string x128003_3, .slice none 0 0] 26 (0, 0)) (bk BK127.out) hg (Kd.R_ne HO_132004.out BK127.out (by decide)))
                    have n2_ := am (blk_grown (g := gb131) (o := .cells #[.int .i64 0, .bool false, .int .i64 (wrap64 (x132002_3 + ((rd_T46 l0 t134).f1))), .string (⟨#[]⟩ : ByteArray), u132004] 26 (0, 0)) (bk BK131.out) hg (Kd.R_ne HO_132004.out BK131.out (by decide)))
                    have n3_ := am (blk_grown (g := gb133) (o := .cells #[.int .i64 ((rd_T61 l1 x44_3).f0), .string ((rd_T61 l1 x44_3).f1)] 61 (0, 0)) (bk BK133.out) hg (Kd.R_ne HO_132004.out BK133.out (by decide)))
                    have n4_ := am (hb)
                    have n5_ := am (ho)
                    clear HO_8
                    clear BK127
                    clear BK131
                    clear BK133
                    clear HB
                    clear HO_132004
                    have HO_8 := n0_
                    have BK127 := n1_
                    have BK131 := n2_
                    have BK133 := n3_
                    have HB := n4_
                    have HO141 := n5_
                    clear n0_ n1_ n2_ n3_ n4_ n5_
                    clear ho hb hg hat
                    obtain ⟨Ao58, co58, eo58⟩ := Kd.R_slice HO141.out
                    (first | subst eo58 | (injection eo58 with f1_ f2_ f3_; have f4_ := f1_.symm; have f5_ := f3_.symm; clear f1_ f2_ f3_; subst f4_; subst f5_))
                    refine hK.out _ _ ⟨(blk_cell BK131.out 0).trans rfl, (blk_cell BK131.out 1).trans rfl, (blk_cell BK131.out 2).trans rfl, (blk_cell BK131.out 3).trans rfl, (blk_cell BK131.out 4).trans rfl, (bc HB.out hw138_0), (bc HB.out hw138_1), (bc HB.out hw138_2), (bc HB.out hw138_3)⟩ (fun hHeld => ?_)
                    clear hK K
                    refine norm_ (a' := ?_) ?_ ?_
                    rotate_left
                    ·
                     show Act.put _ (some 85) _ = _
                     simp only [Act.put, List.setIfInBounds_toArray, List.set_cons_zero, List.set_cons_succ, i64_w, i32_w]
                     rfl
                    refine pu 8 (some 86) HT_.out ?_
                    refine last_ (i := 9) (N := none) #[true, true, true, true, true, true, true, true, true, true] rfl rfl (one_of HT_.out (by kernel_rfl)) (by decide) (fun K hK => ?_)
                    have hs59 : w57.cell? ⟨gb131, 4, none⟩ = some (u132004) := (blk_cell BK131.out 4).trans rfl
                    have hfs59 := blk_frozen BK131.out 4
                    have hns59_0 := NB127_131.out
                    have hns59_2 := NB133_131.out
                    have hms59_0 := NB131_127.out
                    have hms59_2 := NB131_133.out
                    refine skip_ (w1 := ?_) (by rfl) rfl ?_ ?_
                    rotate_left
                    ·
                     go_simp
                     rfl
                    refine hK.out _ _ ?_
                    clear hK K
                    refine done_ (done_of HT_.out (by kernel_rfl)) ?_
                    have p142 := pz t134
                    have q142 := pl t134 (l0.length : Int)
                    obtain ⟨ad142, A142_3, c142_3, e142, hx142_0, hx142_1, hx142_2, hx142_3, hl142_3, hi142_3⟩ := at_T46 HR0.out t134 (of_eq_true p142) (of_eq_true q142)
                    obtain rfl : ad136 = ad142 := (by injection e142)
                    have hn142_0 : ad136.block ≠ gb131 := Nat.ne_of_lt (Nat.lt_of_lt_of_le (by have := World.block_lt_of_cell? _ _ hx142_0; first | rwa [add_block] at this | exact this) GW131.out)
                    replace hx142_0 := bc HB.out hx142_0
                    replace hx142_1 := bc HB.out hx142_1
                    replace hx142_2 := bc HB.out hx142_2
                    replace hx142_3 := bc HB.out hx142_3
                    have HR142_3 := am hi142_3
                    have HC142_3 := am hl142_3
                    clear hi142_3 hl142_3
                    replace hx142_0 := (cell_far (p := ⟨gb131, 4, none⟩) (by first | (rw [add_block]; exact hn142_0) | (show (Addr.add _ _).block ≠ _; rw [add_block]; exact hn142_0) | exact hn142_0) (.slice Ao58 y139.length co58)).trans hx142_0
                    replace hx142_1 := (cell_far (p := ⟨gb131, 4, none⟩) (by first | (rw [add_block]; exact hn142_0) | (show (Addr.add _ _).block ≠ _; rw [add_block]; exact hn142_0) | exact hn142_0) (.slice Ao58 y139.length co58)).trans hx142_1
                    replace hx142_2 := (cell_far (p := ⟨gb131, 4, none⟩) (by first | (rw [add_block]; exact hn142_0) | (show (Addr.add _ _).block ≠ _; rw [add_block]; exact hn142_0) | exact hn142_0) (.slice Ao58 y139.length co58)).trans hx142_2
                    replace hx142_3 := (cell_far (p := ⟨gb131, 4, none⟩) (by first | (rw [add_block]; exact hn142_0) | (show (Addr.add _ _).block ≠ _; rw [add_block]; exact hn142_0) | exact hn142_0) (.slice Ao58 y139.length co58)).trans hx142_3
                    clear hn142_0
                    try go_wp2_with (first | ((with_reducible refine gate_builtin (b := .append) (xs := #[.tmp 87, .tmp 93]) rfl ?_); (try (refine gate_guard (by rfl) ?_; dsimp only)); at_builtin; refine Kd.R_append Kd.string (w0 := w) w.heap.size rfl (.tmp 87) (.tmp 93) 56 9 (.string ⟨#[]⟩) 16 rfl Tryd.underlying56 info9 rfl (by decide) (by omega) u8 x8_3 ((rd_T46 l0 t134).f2) [.string ((rd_T46 l0 t134).f2)] (fun _ => True) (fun _ => False) rfl (by first | (go_simp; done) | (go_simp; rfl)) ?aP (fun _ hk => hk.elim) ?aF ?aO ?aB ?aS ?aL ?_; (case aP => exact rfl); (case aB => exact (bws HB.out)); (case aF => exact (fun _ _ => trivial)); (case aO => exact (by (with_reducible repeat (first | apply Kd.R_alloc | apply Kd.R_drewN | apply Kd.R_drew)); exact Kd.R_mono (Kd.R_far (p := ⟨gb131, 4, none⟩) (Kd.R_types HO_8.out BK131.out (by decide)) (fun _ hk => hk.2) (.slice Ao58 y139.length co58)) (fun _ hk => trivial))); (case aS => exact (below_size (bws HB.out))); (case aL => have := LMc30.out; omega); intro v144 w60 ho hb hg hat; rw [← Ny143.out] at ho; have n0_ := am (blk_grown (g := gb127) (o := .cells #[.int .i64 x128000_3, .bool x128001_3, .int .i64 x128002_3, .string x128003_3, .slice none 0 0] 26 (0, 0)) (bkf BK127.out) hg (Kd.R_ne HO_8.out BK127.out (by decide))); have n1_ := am (blk_grown (g := gb131) (o := .cells #[.int .i64 0, .bool false, .int .i64 (wrap64 (x132002_3 + ((rd_T46 l0 t134).f1))), .string (⟨#[]⟩ : ByteArray), .slice Ao58 y139.length co58] 26 (0, 0)) (bkp BK131.out) hg (Kd.R_ne HO_8.out BK131.out (by decide))); have n2_ := am (blk_grown (g := gb133) (o := .cells #[.int .i64 ((rd_T61 l1 x44_3).f0), .string ((rd_T61 l1 x44_3).f1)] 61 (0, 0)) (bkf BK133.out) hg (Kd.R_ne HO_8.out BK133.out (by decide))); have n3_ := am (Kd.R_over' (by (with_reducible repeat (first | apply Kd.R_alloc | apply Kd.R_drewN | apply Kd.R_drew)); exact (Kd.R_mono (Kd.R_far (p := ⟨gb131, 4, none⟩) (Kd.R_types HO141.out BK131.out (by decide)) (fun _ hk => hk.2) (.slice Ao58 y139.length co58)) (fun _ h_ => h_.1))) (Kd.R_typed (by (with_reducible repeat (first | apply Kd.R_alloc | apply Kd.R_drewN | apply Kd.R_drew)); exact (Kd.R_mono (Kd.R_far (p := ⟨gb131, 4, none⟩) (Kd.R_types HO_8.out BK131.out (by decide)) (fun _ hk => hk.2) (.slice Ao58 y139.length co58)) (fun _ h_ => h_.1)))) (by decide) hg); have n4_ := am (hb); have n5_ := am (ho); clear BK127; clear BK131; clear BK133; clear HO141; clear HB; clear HO_8; have BK127 := n0_; have BK131 := n1_; have BK133 := n2_; have HO141 := n3_; have HB := n4_; have HO145 := n5_; clear n0_ n1_ n2_ n3_ n4_ n5_; clear ho hb hg hat; have p146 : 0 ≤ (t134 : Int) := of_decide_eq_true asm; have q146 : t134 < (l0.length : Int) := of_decide_eq_true asm; obtain ⟨ad146, A146_3, c146_3, e146, hx146_0, hx146_1, hx146_2, hx146_3, hl146_3, hi146_3⟩ := at_T46 HR0.out t134 p146 q146; obtain rfl : ad136 = ad146 := (by injection e146); replace hx146_0 := bc HB.out hx146_0; replace hx146_1 := bc HB.out hx146_1; replace hx146_2 := bc HB.out hx146_2; replace hx146_3 := bc HB.out hx146_3; have HR146_3 := am hi146_3; have HC146_3 := am hl146_3; clear hi146_3 hl146_3; replace p146 := eq_true p146; replace q146 := eq_true q146))
                    go_roundg k3
                    case measure => have := HJ2.out; have := HK2.out; have := HK3.out; omega
                    case rel => exact ⟨(y143), (decide (((rd_T46 l0 t134).f1) < 64)), (wrap64 (x44_3 + 1)), (x128000_3), (x128001_3), (x128002_3), (x128003_3), (wrap64 (x132002_3 + ((rd_T46 l0 t134).f1))), (y139), (.slice Ao58 y139.length co58), rs, rs, H', ⟨by have := HJ2.out; have := HK2.out; have := HK3.out; omega⟩, ⟨kR HO145.out⟩, ⟨kR HO141.out⟩, ⟨bk BK127.out⟩, ⟨bk BK131.out⟩, ⟨bws HB.out⟩⟩
                   ·
                    have H' := am H
                    clear H
                    have p132 := pz x44_3
                    have q132 := pl x44_3 (l1.length : Int)
                    obtain ⟨ad132, e132, hx132_0, hx132_1⟩ := at_T61 HR1.out x44_3 (of_eq_true p132) (of_eq_true q132)
                    cases e132
                    replace hx132_0 := bc HB.out hx132_0
                    replace hx132_1 := bc HB.out hx132_1
                    try go_wp2_with (first | ((with_reducible refine gate_dst (N := 11) rfl ?_); (try (refine gate_guard (by rfl) ?_; dsimp only)); refine bx 11 #[.int .i64 0, .string (⟨#[]⟩ : ByteArray)] 61 ?_; intro gb133 hg w61 hbox hb; have BK133 := am (hbox); have GW133 := gsz hg HB.out; have GE133 := gsz hg HB.out; have NB127_133 := nlt (g := gb127) hg BK127.out; have NB133_127 := ngt (g := gb127) hg BK127.out; have NB131_133 := nlt (g := gb131) hg BK131.out; have NB133_131 := ngt (g := gb131) hg BK131.out; replace HO_8 := am (Kd.R_below (kR HO_8.out) hb); replace HO_132004 := am (Kd.R_below (kR HO_132004.out) hb); replace BK127 := bb BK127.out hb; replace BK131 := bb BK131.out hb; replace HB := am (below_step (bws HB.out) hb); clear hb hbox hg; have hnb62 := NB133_127.out; have hnc62 := NB127_133.out; have hnb63 := NB133_131.out; have hnc63 := NB131_133.out; obtain ⟨hcz64_0, hcz64_1, hfz64_0, hfz64_1⟩ := cz2 BK133.out) | ((with_reducible refine gate_callee (f := 30) rfl ?_); refine goesL_ (some 53) rfl rfl Tryd.func30 (by kernel_rfl) rfl #[.slice A0 l0.length c0, .int .i64 ((rd_T61 l1 x44_3).f0)] rfl gl ?_; (with_reducible refine (parts_find.calls _ _ l0 ((rd_T61 l1 x44_3).f0) t134 true _ ?side1 ?side2 A24.out).mono ?_); (case side1 => exact Kd.C_below HR0.out (bws HB.out)); (case side2 => exact HC0.out); rintro e w65 ⟨rfl, hb⟩; refine ⟨_, rfl, ?_⟩; replace HO_8 := am (Kd.R_below (by (with_reducible repeat (first | apply Kd.R_alloc | apply Kd.R_drewN | apply Kd.R_drew)); exact (Kd.R_mono (Kd.R_far (p := ⟨gb133, 1, none⟩) (Kd.R_far (p := ⟨gb133, 0, none⟩) (Kd.R_types HO_8.out BK133.out (by decide)) (fun _ hk => hk.2) (.int .i64 ((rd_T61 l1 x44_3).f0))) (fun _ hk => hk.2) (.string ((rd_T61 l1 x44_3).f1))) (fun _ h_ => h_.1))) hb); replace HO_132004 := am (Kd.R_below (by (with_reducible repeat (first | apply Kd.R_alloc | apply Kd.R_drewN | apply Kd.R_drew)); exact (Kd.R_mono (Kd.R_far (p := ⟨gb133, 1, none⟩) (Kd.R_far (p := ⟨gb133, 0, none⟩) (Kd.R_types HO_132004.out BK133.out (by decide)) (fun _ hk => hk.2) (.int .i64 ((rd_T61 l1 x44_3).f0))) (fun _ hk => hk.2) (.string ((rd_T61 l1 x44_3).f1))) (fun _ h_ => h_.1))) hb); replace BK127 := am (blk_below (g := gb127) (o := .cells #[.int .i64 x128000_3, .bool x128001_3, .int .i64 x128002_3, .string x128003_3, .slice none 0 0] 26 (0, 0)) (bkf BK127.out) hb); replace BK131 := am (blk_below (g := gb131) (o := .cells #[.int .i64 0, .bool false, .int .i64 x132002_3, .string (⟨#[]⟩ : ByteArray), u132004] 26 (0, 0)) (bkf BK131.out) hb); replace BK133 := am (blk_below (g := gb133) (o := .cells #[.int .i64 ((rd_T61 l1 x44_3).f0), .string ((rd_T61 l1 x44_3).f1)] 61 (0, 0)) (bkp BK133.out) hb); replace HB := am (below_step (bws HB.out) hb); (try clear hb)))
                    replace HO_8 := am (Kd.R_drew HO_8.out)
                    replace HO_132004 := am (Kd.R_drew HO_132004.out)
                    replace BK127 := am (blk_drew BK127.out)
                    replace BK131 := am (blk_drew BK131.out)
                    replace BK133 := am (blk_drew BK133.out)
                    replace HB := am (below_drew1 HB.out)
                    have p136 := pz t134
                    have q136 := pl t134 (l0.length : Int)
                    obtain ⟨ad136, A136_3, c136_3, e136, hw136_0, hw136_1, hw136_2, hw136_3, hl136_3, hi136_3⟩ := at_T46 HR0.out t134 (of_eq_true p136) (of_eq_true q136)
                    cases e136
                    have hx136_0 := bc HB.out hw136_0
                    have hx136_1 := bc HB.out hw136_1
                    have hx136_2 := bc HB.out hw136_2
                    have hx136_3 := bc HB.out hw136_3
                    have HR136_3 := am hi136_3
                    have HC136_3 := am hl136_3
                    clear hi136_3 hl136_3
                    refine start_ (n := 12) (S := fun w' => w'.cell? ⟨gb133, 0, none⟩ = some (.int .i64 ((rd_T61 l1 x44_3).f0)) ∧ w'.cell? ⟨gb133, 1, none⟩ = some (.string ((rd_T61 l1 x44_3).f1)) ∧ w'.cell? (ad136.add ((t134).toNat * 4)) = some (.int .i64 ((rd_T46 l0 t134).f0)) ∧ w'.cell? ⟨(ad136.add ((t134).toNat * 4)).block, (ad136.add ((t134).toNat * 4)).off + 1, none⟩ = some (.int .i64 ((rd_T46 l0 t134).f1)) ∧ w'.cell? ⟨(ad136.add ((t134).toNat * 4)).block, (ad136.add ((t134).toNat * 4)).off + 2, none⟩ = some (.string ((rd_T46 l0 t134).f2)) ∧ w'.cell? ⟨(ad136.add ((t134).toNat * 4)).block, (ad136.add ((t134).toNat * 4)).off + 3, none⟩ = some (.slice A136_3 ((rd_T46 l0 t134).f3).length c136_3)) (ds := []) #[false, false, false, false, false, false, false, false, false, false, false, false] (by kernel_rfl) rfl rfl ⟨(blk_cell BK133.out 0).trans rfl, (blk_cell BK133.out 1).trans rfl, (bc HB.out hw136_0), (bc HB.out hw136_1), (bc HB.out hw136_2), (bc HB.out hw136_3)⟩ (fun hHeld => ?_); refine with_tabW parts_Join.tab15 parts_Join.bits15 (fun HT_ HW_ => ?_)
                    generalize w65.drew = w66 at HO_8 HO_132004 BK127 BK131 BK133 HB HR136_3 hx136_0 hx136_1 hx136_2 hx136_3 hHeld ⊢
                    refine pu 0 (some 56) HT_.out ?_
                    refine pu 1 (some 57) HT_.out ?_
                    refine pu 2 (some 58) HT_.out ?_
                    refine pu 3 (some 59) HT_.out ?_
                    refine pu 4 (some 60) HT_.out ?_
                    refine pu 5 (some 61) HT_.out ?_
                    refine pu 6 (some 62) HT_.out ?_
                    refine pu 8 (some 64) HT_.out ?_
                    refine tk 7 (some 63) HT_.out HW_.out hHeld ?_
                    refine tk 9 (some 65) HT_.out HW_.out hHeld ?_
                    refine pu 10 (some 66) HT_.out ?_
                    refine pu 11 (some 67) HT_.out ?_
                    refine done_ (done_of HT_.out (by kernel_rfl)) ?_
                    try go_wp2
                    replace HO_8 := am (Kd.R_drew HO_8.out)
                    replace HO_132004 := am (Kd.R_drew HO_132004.out)
                    replace BK127 := am (blk_drew BK127.out)
                    replace BK131 := am (blk_drew BK131.out)
                    replace BK133 := am (blk_drew BK133.out)
                    replace HB := am (below_drew1 HB.out)
                    have p137 := pz t134
                    have q137 := pl t134 (l0.length : Int)
                    obtain ⟨ad137, A137_3, c137_3, e137, hw137_0, hw137_1, hw137_2, hw137_3, hl137_3, hi137_3⟩ := at_T46 HR0.out t134 (of_eq_true p137) (of_eq_true q137)
                    obtain rfl : ad136 = ad137 := (by injection e137)
                    have hx137_0 := bc HB.out hw137_0
                    have hx137_1 := bc HB.out hw137_1
                    have hx137_2 := bc HB.out hw137_2
                    have hx137_3 := bc HB.out hw137_3
                    have HR137_3 := am hi137_3
                    have HC137_3 := am hl137_3
                    clear hi137_3 hl137_3
                    refine start_ (n := 10) (S := fun w' => w'.cell? ⟨gb131, 0, none⟩ = some (.int .i64 0) ∧ w'.cell? ⟨gb131, 1, none⟩ = some (.bool false) ∧ w'.cell? ⟨gb131, 2, none⟩ = some (.int .i64 x132002_3) ∧ w'.cell? ⟨gb131, 3, none⟩ = some (.string (⟨#[]⟩ : ByteArray)) ∧ w'.cell? ⟨gb131, 4, none⟩ = some (u132004) ∧ w'.cell? (ad136.add ((t134).toNat * 4)) = some (.int .i64 ((rd_T46 l0 t134).f0)) ∧ w'.cell? ⟨(ad136.add ((t134).toNat * 4)).block, (ad136.add ((t134).toNat * 4)).off + 1, none⟩ = some (.int .i64 ((rd_T46 l0 t134).f1)) ∧ w'.cell? ⟨(ad136.add ((t134).toNat * 4)).block, (ad136.add ((t134).toNat * 4)).off + 2, none⟩ = some (.string ((rd_T46 l0 t134).f2)) ∧ w'.cell? ⟨(ad136.add ((t134).toNat * 4)).block, (ad136.add ((t134).toNat * 4)).off + 3, none⟩ = some (.slice A137_3 ((rd_T46 l0 t134).f3).length c137_3)) (ds := [9]) #[false, false, false, false, false, false, false, false, false, false] (by kernel_rfl) rfl rfl ⟨(blk_cell BK131.out 0).trans rfl, (blk_cell BK131.out 1).trans rfl, (blk_cell BK131.out 2).trans rfl, (blk_cell BK131.out 3).trans rfl, (blk_cell BK131.out 4).trans rfl, (bc HB.out hw137_0), (bc HB.out hw137_1), (bc HB.out hw137_2), (bc HB.out hw137_3)⟩ (fun hHeld => ?_); refine with_tabW parts_Join.tab17 parts_Join.bits17 (fun HT_ HW_ => ?_)
                    generalize w66.drew = w67 at HO_8 HO_132004 BK127 BK131 BK133 HB HR137_3 hx137_0 hx137_1 hx137_2 hx137_3 hHeld ⊢
                    refine pu 0 (some 69) HT_.out ?_
                    refine pu 2 (some 71) HT_.out ?_
                    refine pu 3 (some 72) HT_.out ?_
                    refine pu 4 (some 73) HT_.out ?_
                    refine pu 5 (some 74) HT_.out ?_
                    refine tk 1 (some 70) HT_.out HW_.out hHeld ?_
                    refine tk 6 (some 75) HT_.out HW_.out hHeld ?_
                    refine pu 7 (some 76) HT_.out ?_
                    refine pu 8 (some 77) HT_.out ?_
                    refine last_ (i := 9) (N := none) #[true, true, true, true, true, true, true, true, true, true] rfl rfl (one_of HT_.out (by kernel_rfl)) (by decide) (fun K hK => ?_)
                    have hs68 : w67.cell? ⟨gb131, 2, none⟩ = some (.int .i64 x132002_3) := (blk_cell BK131.out 2).trans rfl
                    have hfs68 := blk_frozen BK131.out 2
                    have hns68_0 := NB127_131.out
                    have hns68_2 := NB133_131.out
                    have hms68_0 := NB131_127.out
                    have hms68_2 := NB131_133.out
                    refine skip_ (w1 := ?_) (by rfl) rfl ?_ ?_
                    rotate_left
                    ·
                     go_simp
                     rfl
                    refine hK.out _ _ ?_
                    clear hK K
                    refine done_ (done_of HT_.out (by kernel_rfl)) ?_
                    try go_wp2
                    have n0_ : Aside0 (Kd.R Kd.string 9 (w67.setCell ⟨gb131, 2, none⟩ (.int .i64 (wrap64 (x132002_3 + ((rd_T46 l0 t134).f1))))) w.heap.size (fun _ => True) u8 x8_3) := ⟨by (with_reducible repeat (first | apply Kd.R_alloc | apply Kd.R_drewN | apply Kd.R_drew)); exact Kd.R_mono (Kd.R_far (p := ⟨gb131, 2, none⟩) (Kd.R_types HO_8.out BK131.out (by decide)) (fun _ hk => hk.2) (.int .i64 (wrap64 (x132002_3 + ((rd_T46 l0 t134).f1))))) (fun _ hk => trivial)⟩
                    have n1_ : Aside0 (Kd.R k63 63 (w67.setCell ⟨gb131, 2, none⟩ (.int .i64 (wrap64 (x132002_3 + ((rd_T46 l0 t134).f1))))) w.heap.size (fun _ => True) u132004 x132004_3) := ⟨by (with_reducible repeat (first | apply Kd.R_alloc | apply Kd.R_drewN | apply Kd.R_drew)); exact Kd.R_mono (Kd.R_far (p := ⟨gb131, 2, none⟩) (Kd.R_types HO_132004.out BK131.out (by decide)) (fun _ hk => hk.2) (.int .i64 (wrap64 (x132002_3 + ((rd_T46 l0 t134).f1))))) (fun _ hk => trivial)⟩
                    have n2_ : Aside0 ((w67.setCell ⟨gb131, 2, none⟩ (.int .i64 (wrap64 (x132002_3 + ((rd_T46 l0 t134).f1))))).heap[gb127]? = some (.cells #[.int .i64 x128000_3, .bool x128001_3, .int .i64 x128002_3, .string x128003_3, .slice none 0 0] 26 (0, 0))) := ⟨bkf BK127.out⟩
                    have n3_ : Aside0 ((w67.setCell ⟨gb131, 2, none⟩ (.int .i64 (wrap64 (x132002_3 + ((rd_T46 l0 t134).f1))))).heap[gb131]? = some (.cells #[.int .i64 0, .bool false, .int .i64 (wrap64 (x132002_3 + ((rd_T46 l0 t134).f1))), .string (⟨#[]⟩ : ByteArray), u132004] 26 (0, 0))) := ⟨bkp BK131.out⟩
                    have n4_ : Aside0 ((w67.setCell ⟨gb131, 2, none⟩ (.int .i64 (wrap64 (x132002_3 + ((rd_T46 l0 t134).f1))))).heap[gb133]? = some (.cells #[.int .i64 ((rd_T61 l1 x44_3).f0), .string ((rd_T61 l1 x44_3).f1)] 61 (0, 0))) := ⟨bkf BK133.out⟩
                    have n5_ : Aside0 (Below w.heap.size w (w67.setCell ⟨gb131, 2, none⟩ (.int .i64 (wrap64 (x132002_3 + ((rd_T46 l0 t134).f1)))))) := ⟨bws HB.out⟩
                    (try clear HO_8)
                    (try clear HO_132004)
                    (try clear BK127)
                    (try clear BK131)
                    (try clear BK133)
                    (try clear HB)
                    generalize (w67.setCell ⟨gb131, 2, none⟩ (.int .i64 (wrap64 (x132002_3 + ((rd_T46 l0 t134).f1))))) = w69 at n0_ n1_ n2_ n3_ n4_ n5_ ⊢
                    have HO_8 := n0_
                    have HO_132004 := n1_
                    have BK127 := n2_
                    have BK131 := n3_
                    have BK133 := n4_
                    have HB := n5_
                    clear n0_ n1_ n2_ n3_ n4_ n5_
                    replace HO_8 := am (Kd.R_drew HO_8.out)
                    replace HO_132004 := am (Kd.R_drew HO_132004.out)
                    replace BK127 := am (blk_drew BK127.out)
                    replace BK131 := am (blk_drew BK131.out)
                    replace BK133 := am (blk_drew BK133.out)
                    replace HB := am (below_drew1 HB.out)
                    have p138 := pz t134
                    have q138 := pl t134 (l0.length : Int)
                    obtain ⟨ad138, A138_3, c138_3, e138, hw138_0, hw138_1, hw138_2, hw138_3, hl138_3, hi138_3⟩ := at_T46 HR0.out t134 (of_eq_true p138) (of_eq_true q138)
                    obtain rfl : ad136 = ad138 := (by injection e138)
                    have hx138_0 := bc HB.out hw138_0
                    have hx138_1 := bc HB.out hw138_1
                    have hx138_2 := bc HB.out hw138_2
                    have hx138_3 := bc HB.out hw138_3
                    have HR138_3 := am hi138_3
                    have HC138_3 := am hl138_3
                    clear hi138_3 hl138_3
                    refine start_ (n := 10) (S := fun w' => w'.cell? ⟨gb131, 0, none⟩ = some (.int .i64 0) ∧ w'.cell? ⟨gb131, 1, none⟩ = some (.bool false) ∧ w'.cell? ⟨gb131, 2, none⟩ = some (.int .i64 (wrap64 (x132002_3 + ((rd_T46 l0 t134).f1)))) ∧ w'.cell? ⟨gb131, 3, none⟩ = some (.string (⟨#[]⟩ : ByteArray)) ∧ w'.cell? ⟨gb131, 4, none⟩ = some (u132004) ∧ w'.cell? (ad136.add ((t134).toNat * 4)) = some (.int .i64 ((rd_T46 l0 t134).f0)) ∧ w'.cell? ⟨(ad136.add ((t134).toNat * 4)).block, (ad136.add ((t134).toNat * 4)).off + 1, none⟩ = some (.int .i64 ((rd_T46 l0 t134).f1)) ∧ w'.cell? ⟨(ad136.add ((t134).toNat * 4)).block, (ad136.add ((t134).toNat * 4)).off + 2, none⟩ = some (.string ((rd_T46 l0 t134).f2)) ∧ w'.cell? ⟨(ad136.add ((t134).toNat * 4)).block, (ad136.add ((t134).toNat * 4)).off + 3, none⟩ = some (.slice A138_3 ((rd_T46 l0 t134).f3).length c138_3)) (ds := [9]) #[false, false, false, false, false, false, false, false, false, false] (by kernel_rfl) rfl rfl ⟨(blk_cell BK131.out 0).trans rfl, (blk_cell BK131.out 1).trans rfl, (blk_cell BK131.out 2).trans rfl, (blk_cell BK131.out 3).trans rfl, (blk_cell BK131.out 4).trans rfl, (bc HB.out hw138_0), (bc HB.out hw138_1), (bc HB.out hw138_2), (bc HB.out hw138_3)⟩ (fun hHeld => ?_); refine with_tabW parts_Join.tab18 parts_Join.bits18 (fun HT_ HW_ => ?_)
                    generalize w69.drew = w70 at HO_8 HO_132004 BK127 BK131 BK133 HB HR138_3 hx138_0 hx138_1 hx138_2 hx138_3 hHeld ⊢
                    refine pu 0 (some 78) HT_.out ?_
                    refine pu 2 (some 80) HT_.out ?_
                    refine pu 3 (some 81) HT_.out ?_
                    refine pu 4 (some 82) HT_.out ?_
                    refine pu 5 (some 83) HT_.out ?_
                    refine tk 1 (some 79) HT_.out HW_.out hHeld ?_
                    refine tk 6 (some 84) HT_.out HW_.out hHeld ?_
                    refine one_ (i := 7) (N := some 85) #[true, true, true, true, true, true, true, true, false, false] rfl rfl (one_of HT_.out (by kernel_rfl)) (by decide) (fun K hK => ?_)
                    refine Kd.R_append_rows_step k63 (w0 := w) w.heap.size (by rfl) (.tmp 79) (.tmp 84) 24 63 (.agg #[(.string ⟨#[]⟩), (.int .i64 0)]) 24 rfl Tryd.underlying24 info63 rfl (by decide) (by omega) u132004 x132004_3 ((rd_T46 l0 t134).f3) _ _ _ (fun _ => True) (fun _ => False) rfl rfl ?aO ?aR (fun _ _ h => h) (fun _ h => h.elim) ?aF ?aB ?aS ?aL ?_
                    (case aR => exact kC (Kd.C_below HR138_3.out HB.out))
                    (case aB => exact (bws HB.out))
                    (case aF => exact (fun _ _ => trivial))
                    (case aO => exact (kR HO_132004.out))
                    (case aS => exact (below_size (bws HB.out)))
                    (case aL => have := LMc29.out; omega)
                    intro v140 w71 ho hb hg hat
                    rw [← Ny139.out] at ho
                    have n0_ := am (Kd.R_over' (kR HO_8.out) (Kd.R_typed (kR HO_132004.out)) (by decide) hg)
                    have n1_ := am (blk_grown (g := gb127) (o := .cells #[.int .i64 x128000_3, .bool x128001_3, .int .i64 x128002_3, .string x128003_3, .slice none 0 0] 26 (0, 0)) (bk BK127.out) hg (Kd.R_ne HO_132004.out BK127.out (by decide)))
                    have n2_ := am (blk_grown (g := gb131) (o := .cells #[.int .i64 0, .bool false, .int .i64 (wrap64 (x132002_3 + ((rd_T46 l0 t134).f1))), .string (⟨#[]⟩ : ByteArray), u132004] 26 (0, 0)) (bk BK131.out) hg (Kd.R_ne HO_132004.out BK131.out (by decide)))
                    have n3_ := am (blk_grown (g := gb133) (o := .cells #[.int .i64 ((rd_T61 l1 x44_3).f0), .string ((rd_T61 l1 x44_3).f1)] 61 (0, 0)) (bk BK133.out) hg (Kd.R_ne HO_132004.out BK133.out (by decide)))
                    have n4_ := am (hb)
                    have n5_ := am (ho)
                    clear HO_8
                    clear BK127
                    clear BK131
                    clear BK133
                    clear HB
                    clear HO_132004
                    have HO_8 := n0_
                    have BK127 := n1_
                    have BK131 := n2_
                    have BK133 := n3_
                    have HB := n4_
                    have HO141 := n5_
                    clear n0_ n1_ n2_ n3_ n4_ n5_
                    clear ho hb hg hat
                    obtain ⟨Ao72, co72, eo72⟩ := Kd.R_slice HO141.out
                    (first | subst eo72 | (injection eo72 with f1_ f2_ f3_; have f4_ := f1_.symm; have f5_ := f3_.symm; clear f1_ f2_ f3_; subst f4_; subst f5_))
                    refine hK.out _ _ ⟨(blk_cell BK131.out 0).trans rfl, (blk_cell BK131.out 1).trans rfl, (blk_cell BK131.out 2).trans rfl, (blk_cell BK131.out 3).trans rfl, (blk_cell BK131.out 4).trans rfl, (bc HB.out hw138_0), (bc HB.out hw138_1), (bc HB.out hw138_2), (bc HB.out hw138_3)⟩ (fun hHeld => ?_)
                    clear hK K
                    refine norm_ (a' := ?_) ?_ ?_
                    rotate_left
                    ·
                     show Act.put _ (some 85) _ = _
                     simp only [Act.put, List.setIfInBounds_toArray, List.set_cons_zero, List.set_cons_succ, i64_w, i32_w]
                     rfl
                    refine pu 8 (some 86) HT_.out ?_
                    refine last_ (i := 9) (N := none) #[true, true, true, true, true, true, true, true, true, true] rfl rfl (one_of HT_.out (by kernel_rfl)) (by decide) (fun K hK => ?_)
                    have hs73 : w71.cell? ⟨gb131, 4, none⟩ = some (u132004) := (blk_cell BK131.out 4).trans rfl
                    have hfs73 := blk_frozen BK131.out 4
                    have hns73_0 := NB127_131.out
                    have hns73_2 := NB133_131.out
                    have hms73_0 := NB131_127.out
                    have hms73_2 := NB131_133.out
                    refine skip_ (w1 := ?_) (by rfl) rfl ?_ ?_
                    rotate_left
                    ·
                     go_simp
                     rfl
                    refine hK.out _ _ ?_
                    clear hK K
                    refine done_ (done_of HT_.out (by kernel_rfl)) ?_
                    have p142 := pz t134
                    have q142 := pl t134 (l0.length : Int)
                    obtain ⟨ad142, A142_3, c142_3, e142, hx142_0, hx142_1, hx142_2, hx142_3, hl142_3, hi142_3⟩ := at_T46 HR0.out t134 (of_eq_true p142) (of_eq_true q142)
                    obtain rfl : ad136 = ad142 := (by injection e142)
                    have hn142_0 : ad136.block ≠ gb131 := Nat.ne_of_lt (Nat.lt_of_lt_of_le (by have := World.block_lt_of_cell? _ _ hx142_0; first | rwa [add_block] at this | exact this) GW131.out)
                    replace hx142_0 := bc HB.out hx142_0
                    replace hx142_1 := bc HB.out hx142_1
                    replace hx142_2 := bc HB.out hx142_2
                    replace hx142_3 := bc HB.out hx142_3
                    have HR142_3 := am hi142_3
                    have HC142_3 := am hl142_3
                    clear hi142_3 hl142_3
                    replace hx142_0 := (cell_far (p := ⟨gb131, 4, none⟩) (by first | (rw [add_block]; exact hn142_0) | (show (Addr.add _ _).block ≠ _; rw [add_block]; exact hn142_0) | exact hn142_0) (.slice Ao72 y139.length co72)).trans hx142_0
                    replace hx142_1 := (cell_far (p := ⟨gb131, 4, none⟩) (by first | (rw [add_block]; exact hn142_0) | (show (Addr.add _ _).block ≠ _; rw [add_block]; exact hn142_0) | exact hn142_0) (.slice Ao72 y139.length co72)).trans hx142_1
                    replace hx142_2 := (cell_far (p := ⟨gb131, 4, none⟩) (by first | (rw [add_block]; exact hn142_0) | (show (Addr.add _ _).block ≠ _; rw [add_block]; exact hn142_0) | exact hn142_0) (.slice Ao72 y139.length co72)).trans hx142_2
                    replace hx142_3 := (cell_far (p := ⟨gb131, 4, none⟩) (by first | (rw [add_block]; exact hn142_0) | (show (Addr.add _ _).block ≠ _; rw [add_block]; exact hn142_0) | exact hn142_0) (.slice Ao72 y139.length co72)).trans hx142_3
                    clear hn142_0
                    try go_wp2_with (first | ((with_reducible refine gate_builtin (b := .append) (xs := #[.tmp 87, .tmp 93]) rfl ?_); (try (refine gate_guard (by rfl) ?_; dsimp only)); at_builtin; refine Kd.R_append Kd.string (w0 := w) w.heap.size rfl (.tmp 87) (.tmp 93) 56 9 (.string ⟨#[]⟩) 16 rfl Tryd.underlying56 info9 rfl (by decide) (by omega) u8 x8_3 ((rd_T46 l0 t134).f2) [.string ((rd_T46 l0 t134).f2)] (fun _ => True) (fun _ => False) rfl (by first | (go_simp; done) | (go_simp; rfl)) ?aP (fun _ hk => hk.elim) ?aF ?aO ?aB ?aS ?aL ?_; (case aP => exact rfl); (case aB => exact (bws HB.out)); (case aF => exact (fun _ _ => trivial)); (case aO => exact (by (with_reducible repeat (first | apply Kd.R_alloc | apply Kd.R_drewN | apply Kd.R_drew)); exact Kd.R_mono (Kd.R_far (p := ⟨gb131, 4, none⟩) (Kd.R_types HO_8.out BK131.out (by decide)) (fun _ hk => hk.2) (.slice Ao72 y139.length co72)) (fun _ hk => trivial))); (case aS => exact (below_size (bws HB.out))); (case aL => have := LMc30.out; omega); intro v144 w74 ho hb hg hat; rw [← Ny143.out] at ho; have n0_ := am (blk_grown (g := gb127) (o := .cells #[.int .i64 x128000_3, .bool x128001_3, .int .i64 x128002_3, .string x128003_3, .slice none 0 0] 26 (0, 0)) (bkf BK127.out) hg (Kd.R_ne HO_8.out BK127.out (by decide))); have n1_ := am (blk_grown (g := gb131) (o := .cells #[.int .i64 0, .bool false, .int .i64 (wrap64 (x132002_3 + ((rd_T46 l0 t134).f1))), .string (⟨#[]⟩ : ByteArray), .slice Ao72 y139.length co72] 26 (0, 0)) (bkp BK131.out) hg (Kd.R_ne HO_8.out BK131.out (by decide))); have n2_ := am (blk_grown (g := gb133) (o := .cells #[.int .i64 ((rd_T61 l1 x44_3).f0), .string ((rd_T61 l1 x44_3).f1)] 61 (0, 0)) (bkf BK133.out) hg (Kd.R_ne HO_8.out BK133.out (by decide))); have n3_ := am (Kd.R_over' (by (with_reducible repeat (first | apply Kd.R_alloc | apply Kd.R_drewN | apply Kd.R_drew)); exact (Kd.R_mono (Kd.R_far (p := ⟨gb131, 4, none⟩) (Kd.R_types HO141.out BK131.out (by decide)) (fun _ hk => hk.2) (.slice Ao72 y139.length co72)) (fun _ h_ => h_.1))) (Kd.R_typed (by (with_reducible repeat (first | apply Kd.R_alloc | apply Kd.R_drewN | apply Kd.R_drew)); exact (Kd.R_mono (Kd.R_far (p := ⟨gb131, 4, none⟩) (Kd.R_types HO_8.out BK131.out (by decide)) (fun _ hk => hk.2) (.slice Ao72 y139.length co72)) (fun _ h_ => h_.1)))) (by decide) hg); have n4_ := am (hb); have n5_ := am (ho); clear BK127; clear BK131; clear BK133; clear HO141; clear HB; clear HO_8; have BK127 := n0_; have BK131 := n1_; have BK133 := n2_; have HO141 := n3_; have HB := n4_; have HO145 := n5_; clear n0_ n1_ n2_ n3_ n4_ n5_; clear ho hb hg hat))
                    go_roundg k3
                    case measure => have := HJ2.out; have := HK2.out; have := HK3.out; omega
                    case rel => exact ⟨(y143), (false), (wrap64 (x44_3 + 1)), (x128000_3), (x128001_3), (x128002_3), (x128003_3), (wrap64 (x132002_3 + ((rd_T46 l0 t134).f1))), (y139), (.slice Ao72 y139.length co72), rs, rs, H', ⟨by have := HJ2.out; have := HK2.out; have := HK3.out; omega⟩, ⟨kR HO145.out⟩, ⟨kR HO141.out⟩, ⟨bk BK127.out⟩, ⟨bk BK131.out⟩, ⟨bws HB.out⟩⟩
                 ·
                  rw [if_neg c30] at H
                  exact absurd H (by simp)
                ·
                 rw [if_neg c29] at H
                 exact absurd H (by simp)
               ·
                rw [if_neg c28] at H
                have c28b0 := beq_eq_false_iff_ne.mpr c28
                have c28b1 := bne_iff_ne.mpr c28
                simp only [Option.some.injEq, Prod.mk.injEq] at H
                obtain ⟨rfl, rfl, rfl, rfl, rfl, rfl⟩ := H
                have p132 := pz x44_3
                have q132 := pl x44_3 (l1.length : Int)
                obtain ⟨ad132, e132, hx132_0, hx132_1⟩ := at_T61 HR1.out x44_3 (of_eq_true p132) (of_eq_true q132)
                cases e132
                replace hx132_0 := bc HB.out hx132_0
                replace hx132_1 := bc HB.out hx132_1
                try go_wp2_with (first | ((with_reducible refine gate_dst (N := 11) rfl ?_); (try (refine gate_guard (by rfl) ?_; dsimp only)); refine bx 11 #[.int .i64 0, .string (⟨#[]⟩ : ByteArray)] 61 ?_; intro gb133 hg w75 hbox hb; have BK133 := am (hbox); have GW133 := gsz hg HB.out; have GE133 := gsz hg HB.out; have NB127_133 := nlt (g := gb127) hg BK127.out; have NB133_127 := ngt (g := gb127) hg BK127.out; have NB131_133 := nlt (g := gb131) hg BK131.out; have NB133_131 := ngt (g := gb131) hg BK131.out; replace HO_8 := am (Kd.R_below (kR HO_8.out) hb); replace HO_132004 := am (Kd.R_below (kR HO_132004.out) hb); replace BK127 := bb BK127.out hb; replace BK131 := bb BK131.out hb; replace HB := am (below_step (bws HB.out) hb); clear hb hbox hg; have hnb76 := NB133_127.out; have hnc76 := NB127_133.out; have hnb77 := NB133_131.out; have hnc77 := NB131_133.out; obtain ⟨hcz78_0, hcz78_1, hfz78_0, hfz78_1⟩ := cz2 BK133.out) | ((with_reducible refine gate_callee (f := 30) rfl ?_); refine goesL_ (some 53) rfl rfl Tryd.func30 (by kernel_rfl) rfl #[.slice A0 l0.length c0, .int .i64 ((rd_T61 l1 x44_3).f0)] rfl gl ?_; (with_reducible refine (parts_find.calls _ _ l0 ((rd_T61 l1 x44_3).f0) t134 true _ ?side1 ?side2 A24.out).mono ?_); (case side1 => exact Kd.C_below HR0.out (bws HB.out)); (case side2 => exact HC0.out); rintro e w79 ⟨rfl, hb⟩; refine ⟨_, rfl, ?_⟩; replace HO_8 := am (Kd.R_below (by (with_reducible repeat (first | apply Kd.R_alloc | apply Kd.R_drewN | apply Kd.R_drew)); exact (Kd.R_mono (Kd.R_far (p := ⟨gb133, 1, none⟩) (Kd.R_far (p := ⟨gb133, 0, none⟩) (Kd.R_types HO_8.out BK133.out (by decide)) (fun _ hk => hk.2) (.int .i64 ((rd_T61 l1 x44_3).f0))) (fun _ hk => hk.2) (.string ((rd_T61 l1 x44_3).f1))) (fun _ h_ => h_.1))) hb); replace HO_132004 := am (Kd.R_below (by (with_reducible repeat (first | apply Kd.R_alloc | apply Kd.R_drewN | apply Kd.R_drew)); exact (Kd.R_mono (Kd.R_far (p := ⟨gb133, 1, none⟩) (Kd.R_far (p := ⟨gb133, 0, none⟩) (Kd.R_types HO_132004.out BK133.out (by decide)) (fun _ hk => hk.2) (.int .i64 ((rd_T61 l1 x44_3).f0))) (fun _ hk => hk.2) (.string ((rd_T61 l1 x44_3).f1))) (fun _ h_ => h_.1))) hb); replace BK127 := am (blk_below (g := gb127) (o := .cells #[.int .i64 x128000_3, .bool x128001_3, .int .i64 x128002_3, .string x128003_3, .slice none 0 0] 26 (0, 0)) (bkf BK127.out) hb); replace BK131 := am (blk_below (g := gb131) (o := .cells #[.int .i64 0, .bool false, .int .i64 x132002_3, .string (⟨#[]⟩ : ByteArray), u132004] 26 (0, 0)) (bkf BK131.out) hb); replace BK133 := am (blk_below (g := gb133) (o := .cells #[.int .i64 ((rd_T61 l1 x44_3).f0), .string ((rd_T61 l1 x44_3).f1)] 61 (0, 0)) (bkp BK133.out) hb); replace HB := am (below_step (bws HB.out) hb); (try clear hb)))
                replace HO_8 := am (Kd.R_drew HO_8.out)
                replace HO_132004 := am (Kd.R_drew HO_132004.out)
                replace BK127 := am (blk_drew BK127.out)
                replace BK131 := am (blk_drew BK131.out)
                replace BK133 := am (blk_drew BK133.out)
                replace HB := am (below_drew1 HB.out)
                have p136 := pz t134
                have q136 := pl t134 (l0.length : Int)
                obtain ⟨ad136, A136_3, c136_3, e136, hw136_0, hw136_1, hw136_2, hw136_3, hl136_3, hi136_3⟩ := at_T46 HR0.out t134 (of_eq_true p136) (of_eq_true q136)
                cases e136
                have hx136_0 := bc HB.out hw136_0
                have hx136_1 := bc HB.out hw136_1
                have hx136_2 := bc HB.out hw136_2
                have hx136_3 := bc HB.out hw136_3
                have HR136_3 := am hi136_3
                have HC136_3 := am hl136_3
                clear hi136_3 hl136_3
                refine start_ (n := 12) (S := fun w' => w'.cell? ⟨gb133, 0, none⟩ = some (.int .i64 ((rd_T61 l1 x44_3).f0)) ∧ w'.cell? ⟨gb133, 1, none⟩ = some (.string ((rd_T61 l1 x44_3).f1)) ∧ w'.cell? (ad136.add ((t134).toNat * 4)) = some (.int .i64 ((rd_T46 l0 t134).f0)) ∧ w'.cell? ⟨(ad136.add ((t134).toNat * 4)).block, (ad136.add ((t134).toNat * 4)).off + 1, none⟩ = some (.int .i64 ((rd_T46 l0 t134).f1)) ∧ w'.cell? ⟨(ad136.add ((t134).toNat * 4)).block, (ad136.add ((t134).toNat * 4)).off + 2, none⟩ = some (.string ((rd_T46 l0 t134).f2)) ∧ w'.cell? ⟨(ad136.add ((t134).toNat * 4)).block, (ad136.add ((t134).toNat * 4)).off + 3, none⟩ = some (.slice A136_3 ((rd_T46 l0 t134).f3).length c136_3)) (ds := []) #[false, false, false, false, false, false, false, false, false, false, false, false] (by kernel_rfl) rfl rfl ⟨(blk_cell BK133.out 0).trans rfl, (blk_cell BK133.out 1).trans rfl, (bc HB.out hw136_0), (bc HB.out hw136_1), (bc HB.out hw136_2), (bc HB.out hw136_3)⟩ (fun hHeld => ?_); refine with_tabW parts_Join.tab15 parts_Join.bits15 (fun HT_ HW_ => ?_)
                generalize w79.drew = w80 at HO_8 HO_132004 BK127 BK131 BK133 HB HR136_3 hx136_0 hx136_1 hx136_2 hx136_3 hHeld ⊢
                refine pu 0 (some 56) HT_.out ?_
                refine pu 1 (some 57) HT_.out ?_
                refine pu 2 (some 58) HT_.out ?_
                refine pu 3 (some 59) HT_.out ?_
                refine pu 4 (some 60) HT_.out ?_
                refine pu 5 (some 61) HT_.out ?_
                refine pu 6 (some 62) HT_.out ?_
                refine pu 8 (some 64) HT_.out ?_
                refine tk 7 (some 63) HT_.out HW_.out hHeld ?_
                refine tk 9 (some 65) HT_.out HW_.out hHeld ?_
                refine pu 10 (some 66) HT_.out ?_
                refine pu 11 (some 67) HT_.out ?_
                refine done_ (done_of HT_.out (by kernel_rfl)) ?_
                have hnb81 := NB127_131.out
                have hnc81 := NB131_127.out
                obtain ⟨hcz82_0, hcz82_1, hcz82_2, hcz82_3, hcz82_4, hfz82_0, hfz82_1, hfz82_2, hfz82_3, hfz82_4⟩ := cz5 BK127.out
                try go_wp2
                refine bodyPost_ret (results_ct rfl _ _ gb127 26 #[.int .i64 0, .bool false, .int .i64 0, .string (⟨#[]⟩ : ByteArray), .slice none 0 0] (0, 0) _ rfl (bkp BK127.out) Tryd.underlying26 rfl (by kernel_rfl)) rfl ?_
                exact ⟨_, rf, niR, bws HB.out⟩
              ·
               exact absurd H (by simp)
             ·
              exact absurd H (by simp)
            ·
             replace c25 := Bool.eq_false_iff.mpr c25
             subst c25
             rw [if_neg (show ¬ (false = true) by decide)] at H
             simp only [Option.some.injEq, Prod.mk.injEq] at H
             obtain ⟨rfl, rfl, rfl, rfl, rfl, rfl⟩ := H
             have p132 := pz x44_3
             have q132 := pl x44_3 (l1.length : Int)
             obtain ⟨ad132, e132, hx132_0, hx132_1⟩ := at_T61 HR1.out x44_3 (of_eq_true p132) (of_eq_true q132)
             cases e132
             replace hx132_0 := bc HB.out hx132_0
             replace hx132_1 := bc HB.out hx132_1
             try go_wp2_with (first | ((with_reducible refine gate_dst (N := 11) rfl ?_); (try (refine gate_guard (by rfl) ?_; dsimp only)); refine bx 11 #[.int .i64 0, .string (⟨#[]⟩ : ByteArray)] 61 ?_; intro gb133 hg w83 hbox hb; have BK133 := am (hbox); have GW133 := gsz hg HB.out; have GE133 := gsz hg HB.out; have NB127_133 := nlt (g := gb127) hg BK127.out; have NB133_127 := ngt (g := gb127) hg BK127.out; have NB131_133 := nlt (g := gb131) hg BK131.out; have NB133_131 := ngt (g := gb131) hg BK131.out; replace HO_8 := am (Kd.R_below (kR HO_8.out) hb); replace HO_132004 := am (Kd.R_below (kR HO_132004.out) hb); replace BK127 := bb BK127.out hb; replace BK131 := bb BK131.out hb; replace HB := am (below_step (bws HB.out) hb); clear hb hbox hg; have hnb84 := NB133_127.out; have hnc84 := NB127_133.out; have hnb85 := NB133_131.out; have hnc85 := NB131_133.out; obtain ⟨hcz86_0, hcz86_1, hfz86_0, hfz86_1⟩ := cz2 BK133.out) | ((with_reducible refine gate_callee (f := 30) rfl ?_); refine goesL_ (some 53) rfl rfl Tryd.func30 (by kernel_rfl) rfl #[.slice A0 l0.length c0, .int .i64 ((rd_T61 l1 x44_3).f0)] rfl gl ?_; (with_reducible refine (parts_find.calls _ _ l0 ((rd_T61 l1 x44_3).f0) t134 false _ ?side1 ?side2 A24.out).mono ?_); (case side1 => exact Kd.C_below HR0.out (bws HB.out)); (case side2 => exact HC0.out); rintro e w87 ⟨rfl, hb⟩; refine ⟨_, rfl, ?_⟩; replace HO_8 := am (Kd.R_below (by (with_reducible repeat (first | apply Kd.R_alloc | apply Kd.R_drewN | apply Kd.R_drew)); exact (Kd.R_mono (Kd.R_far (p := ⟨gb133, 1, none⟩) (Kd.R_far (p := ⟨gb133, 0, none⟩) (Kd.R_types HO_8.out BK133.out (by decide)) (fun _ hk => hk.2) (.int .i64 ((rd_T61 l1 x44_3).f0))) (fun _ hk => hk.2) (.string ((rd_T61 l1 x44_3).f1))) (fun _ h_ => h_.1))) hb); replace HO_132004 := am (Kd.R_below (by (with_reducible repeat (first | apply Kd.R_alloc | apply Kd.R_drewN | apply Kd.R_drew)); exact (Kd.R_mono (Kd.R_far (p := ⟨gb133, 1, none⟩) (Kd.R_far (p := ⟨gb133, 0, none⟩) (Kd.R_types HO_132004.out BK133.out (by decide)) (fun _ hk => hk.2) (.int .i64 ((rd_T61 l1 x44_3).f0))) (fun _ hk => hk.2) (.string ((rd_T61 l1 x44_3).f1))) (fun _ h_ => h_.1))) hb); replace BK127 := am (blk_below (g := gb127) (o := .cells #[.int .i64 x128000_3, .bool x128001_3, .int .i64 x128002_3, .string x128003_3, .slice none 0 0] 26 (0, 0)) (bkf BK127.out) hb); replace BK131 := am (blk_below (g := gb131) (o := .cells #[.int .i64 0, .bool false, .int .i64 x132002_3, .string (⟨#[]⟩ : ByteArray), u132004] 26 (0, 0)) (bkf BK131.out) hb); replace BK133 := am (blk_below (g := gb133) (o := .cells #[.int .i64 ((rd_T61 l1 x44_3).f0), .string ((rd_T61 l1 x44_3).f1)] 61 (0, 0)) (bkp BK133.out) hb); replace HB := am (below_step (bws HB.out) hb); (try clear hb)))
             replace HO_8 := am (Kd.R_drew HO_8.out)
             replace HO_132004 := am (Kd.R_drew HO_132004.out)
             replace BK127 := am (blk_drew BK127.out)
             replace BK131 := am (blk_drew BK131.out)
             replace BK133 := am (blk_drew BK133.out)
             replace HB := am (below_drew1 HB.out)
             refine start_ (n := 12) (S := fun w' => True) (ds := []) #[false, false, false, false, false, false, false, false, false, false, false, false] (by kernel_rfl) rfl rfl trivial (fun hHeld => ?_); refine with_tabW parts_Join.tab15 parts_Join.bits15 (fun HT_ HW_ => ?_)
             generalize w87.drew = w88 at HO_8 HO_132004 BK127 BK131 BK133 HB hHeld ⊢
             refine pu 0 (some 56) HT_.out ?_
             refine pu 1 (some 57) HT_.out ?_
             refine pu 2 (some 58) HT_.out ?_
             refine un 3 (some 59) HT_.out ?_
             refine un 4 (some 60) HT_.out ?_
             refine un 5 (some 61) HT_.out ?_
             refine un 6 (some 62) HT_.out ?_
             refine un 7 (some 63) HT_.out ?_
             refine un 8 (some 64) HT_.out ?_
             refine un 9 (some 65) HT_.out ?_
             refine un 10 (some 66) HT_.out ?_
             refine pu 11 (some 67) HT_.out ?_
             refine done_ (done_of HT_.out (by kernel_rfl)) ?_
             have hnb89 := NB127_131.out
             have hnc89 := NB131_127.out
             obtain ⟨hcz90_0, hcz90_1, hcz90_2, hcz90_3, hcz90_4, hfz90_0, hfz90_1, hfz90_2, hfz90_3, hfz90_4⟩ := cz5 BK127.out
             try go_wp2
             refine bodyPost_ret (results_ct rfl _ _ gb127 26 #[.int .i64 0, .bool false, .int .i64 0, .string (⟨#[]⟩ : ByteArray), .slice none 0 0] (0, 0) _ rfl (bkp BK127.out) Tryd.underlying26 rfl (by kernel_rfl)) rfl ?_
             exact ⟨_, rf, niR, bws HB.out⟩
           ·
            exact absurd H (by simp)
          ·
           exact absurd H (by simp)
         ·
          by_cases c91 : x9_3 = true
          ·
           subst c91
           rw [if_pos rfl] at H
           simp only [Option.some.injEq, Prod.mk.injEq] at H
           obtain ⟨rfl, rfl, rfl, rfl, rfl, rfl⟩ := H
           have hnb92 := NB127_131.out
           have hnc92 := NB131_127.out
           obtain ⟨hcz93_0, hcz93_1, hcz93_2, hcz93_3, hcz93_4, hfz93_0, hfz93_1, hfz93_2, hfz93_3, hfz93_4⟩ := cz5 BK127.out
           go_wp2
           refine bodyPost_ret (results_ct rfl _ _ gb127 26 #[.int .i64 0, .bool false, .int .i64 0, .string (⟨#[]⟩ : ByteArray), .slice none 0 0] (0, 0) _ rfl (bkp BK127.out) Tryd.underlying26 rfl (by kernel_rfl)) rfl ?_
           exact ⟨_, rf, niR, bws HB.out⟩
          ·
           replace c91 := Bool.eq_false_iff.mpr c91
           subst c91
           rw [if_neg (show ¬ (false = true) by decide)] at H
           have HC94 := am H
           clear H
           go_upto_region 24 with (fail)
           go_cut [122] (fun v122 wc => ∃ (kq : Nat) (x122_93 : Bool), v122 = .bool x122_93 ∧ Aside0 (parts_Join.j3 kq x8_3 x122_93 0 false x132002_3 (⟨#[]⟩ : ByteArray) x132004_3 = some (r1, r2, r3, r4, r5, r6)) ∧ Aside0 (kq ≤ k3) ∧ Aside0 (Kd.R Kd.string 9 wc w.heap.size (fun _ => True) u8 x8_3) ∧ Aside0 (Kd.R k63 63 wc w.heap.size (fun _ => True) u132004 x132004_3) ∧ Aside0 (wc.heap[gb127]? = some (.cells #[.int .i64 x128000_3, .bool x128001_3, .int .i64 x128002_3, .string x128003_3, (.slice none 0 0)] 26 (0, 0))) ∧ Aside0 (wc.heap[gb131]? = some (.cells #[.int .i64 0, .bool false, .int .i64 x132002_3, .string (⟨#[]⟩ : ByteArray), u132004] 26 (0, 0))) ∧ Aside0 (Below w.heap.size w wc))
           case first =>
            have H := HC94.out
            clear HC94
            replace H := iteD H
            rcases H with ⟨c95b0, H⟩ | ⟨c95b0, H⟩
            ·
             (first | rw [c95b0] | (simp only [i64_w, i32_w]; rw [c95b0]) | skip)
             have H' := am H
             clear H
             have hnb96 := NB131_127.out
             have hnc96 := NB127_131.out
             obtain ⟨hcz97_0, hcz97_1, hcz97_2, hcz97_3, hcz97_4, hfz97_0, hfz97_1, hfz97_2, hfz97_3, hfz97_4⟩ := cz5 BK131.out
             go_wp2
             go_meet
             case rel => exact ⟨_, (true), rs, H', ⟨by have := HJ2.out; have := HK2.out; have := HK3.out; first | omega | exact Nat.le_refl _⟩, ⟨kR HO_8.out⟩, ⟨kR HO_132004.out⟩, ⟨bk BK127.out⟩, ⟨bk BK131.out⟩, ⟨bws HB.out⟩⟩
            ·
             (first | rw [c95b0] | (simp only [i64_w, i32_w]; rw [c95b0]) | skip)
             have H' := am H
             clear H
             have hnb98 := NB131_127.out
             have hnc98 := NB127_131.out
             obtain ⟨hcz99_0, hcz99_1, hcz99_2, hcz99_3, hcz99_4, hfz99_0, hfz99_1, hfz99_2, hfz99_3, hfz99_4⟩ := cz5 BK131.out
             obtain ⟨Ao100, co100, eo100⟩ := Kd.R_slice HO_132004.out
             subst eo100
             go_wp2
             go_meet
             case rel => exact ⟨_, (decide ((x132004_3.length : Int) > 512)), rs, H', ⟨by have := HJ2.out; have := HK2.out; have := HK3.out; first | omega | exact Nat.le_refl _⟩, ⟨kR HO_8.out⟩, ⟨kR HO_132004.out⟩, ⟨bk BK127.out⟩, ⟨bk BK131.out⟩, ⟨bws HB.out⟩⟩
           case rest =>
            clear HC94
            try clear c9
            try clear c21b0
            try clear c91
            obtain ⟨kq, x122_93, rfl, HA, HJ93, HO_8, HO_132004, BK127, BK131, HB⟩ := hcut
            cases kq with
            | zero => exact absurd HA.out (by simp [parts_Join.j3])
            | succ kj93 =>
             have H := HA.out
             clear HA
             simp only [parts_Join.j3] at H
             by_cases c101 : x122_93 = true
             ·
              subst c101
              rw [if_pos rfl] at H
              simp only [Option.some.injEq, Prod.mk.injEq] at H
              obtain ⟨rfl, rfl, rfl, rfl, rfl, rfl⟩ := H
              have hnb102 := NB127_131.out
              have hnc102 := NB131_127.out
              obtain ⟨hcz103_0, hcz103_1, hcz103_2, hcz103_3, hcz103_4, hfz103_0, hfz103_1, hfz103_2, hfz103_3, hfz103_4⟩ := cz5 BK127.out
              go_wp2
              refine bodyPost_ret (results_ct rfl _ _ gb127 26 #[.int .i64 0, .bool false, .int .i64 0, .string (⟨#[]⟩ : ByteArray), .slice none 0 0] (0, 0) _ rfl (bkp BK127.out) Tryd.underlying26 rfl (by kernel_rfl)) rfl ?_
              exact ⟨_, rf, niR, bws HB.out⟩
             ·
              replace c101 := Bool.eq_false_iff.mpr c101
              subst c101
              rw [if_neg (show ¬ (false = true) by decide)] at H
              replace H := obE H
              obtain ⟨t147, A104, H⟩ := H
              replace H := obE H
              obtain ⟨t148, A105, H⟩ := H
              simp only [Option.some.injEq, Prod.mk.injEq] at H
              obtain ⟨rfl, rfl, rfl, rfl, rfl, rfl⟩ := H
              obtain ⟨Ao106, co106, eo106⟩ := Kd.R_slice HO_8.out
              subst eo106
              go_wp2_with (first | ((with_reducible refine gate_callee (f := 32) rfl ?_); refine goesL_ (some 125) rfl rfl Tryd.func32 (by kernel_rfl) rfl #[.int .u8 77, .slice Ao106 x8_3.length co106] rfl gl ?_; (with_reducible refine (digest_Tagged.calls 77 _ _ x8_3 t147 _ ?side1 ?side2 A104.out ?sideG).mono ?_); (case sideG => first | exact HG.out | exact gg_below HG.out (bws HB.out)); (case side1 => repeat (first | exact (Kd.R_reads' HO_8.out).2.2 | (with_reducible refine Kd.C_alloc ?_ _) | (with_reducible refine Kd.C_drewN ?_ _) | (with_reducible refine Kd.C_drew ?_))); (case side2 => exact (Kd.R_reads' HO_8.out).2.1); rintro e w107 ⟨rfl, hb⟩; refine ⟨_, rfl, ?_⟩; replace HO_8 := am (Kd.R_below (kR HO_8.out) hb); replace HO_132004 := am (Kd.R_below (kR HO_132004.out) hb); replace BK127 := bb BK127.out hb; replace BK131 := bb BK131.out hb; replace HB := am (below_step (bws HB.out) hb); (try clear hb)) | ((with_reducible refine gate_callee (f := 31) rfl ?_); refine goesL_ (some 126) rfl rfl Tryd.func31 (by kernel_rfl) rfl #[.string t147] rfl gl ?_; (with_reducible refine (digest_Hex.calls t147 t148 _ A105.out).mono ?_); rintro e w108 ⟨rfl, hb⟩; refine ⟨_, rfl, ?_⟩; replace HO_8 := am (Kd.R_below (kR HO_8.out) hb); replace HO_132004 := am (Kd.R_below (kR HO_132004.out) hb); replace BK127 := bb BK127.out hb; replace BK131 := bb BK131.out hb; replace HB := am (below_step (bws HB.out) hb); (try clear hb); have hnb109 := NB131_127.out; have hnc109 := NB127_131.out; obtain ⟨hcz110_0, hcz110_1, hcz110_2, hcz110_3, hcz110_4, hfz110_0, hfz110_1, hfz110_2, hfz110_3, hfz110_4⟩ := cz5 BK131.out; obtain ⟨hcz111_0, hcz111_1, hcz111_2, hcz111_3, hcz111_4, hfz111_0, hfz111_1, hfz111_2, hfz111_3, hfz111_4⟩ := cz5 BK127.out; obtain ⟨Ao112, co112, eo112⟩ := Kd.R_slice HO_132004.out; subst eo112))
              refine bodyPost_ret (results_ct rfl _ _ gb127 26 #[.int .i64 0, .bool false, .int .i64 x132002_3, .string t148, .slice Ao112 x132004_3.length co112] (0, 0) _ rfl (bkf BK127.out) Tryd.underlying26 rfl (by kernel_rfl)) rfl ?_
              exact ⟨_, rf, by (with_reducible repeat (first | apply Kd.R_alloc | apply Kd.R_drewN | apply Kd.R_drew)); exact Kd.R_mono (Kd.R_far (p := ⟨gb127, 4, none⟩) (Kd.R_far (p := ⟨gb127, 3, none⟩) (Kd.R_far (p := ⟨gb127, 2, none⟩) (Kd.R_far (p := ⟨gb127, 1, none⟩) (Kd.R_far (p := ⟨gb127, 0, none⟩) (Kd.R_far (p := ⟨gb131, 3, none⟩) (Kd.R_types (Kd.R_types HO_132004.out BK131.out (by decide)) BK127.out (by decide)) (fun _ hk => hk.1.2) (.string t148)) (fun _ hk => hk.2) (.int .i64 0)) (fun _ hk => hk.2) (.bool false)) (fun _ hk => hk.2) (.int .i64 x132002_3)) (fun _ hk => hk.2) (.string t148)) (fun _ hk => hk.2) (.slice Ao112 x132004_3.length co112)) (fun _ hk => trivial), bws HB.out⟩
end Go.Proofs.YtoiockmmlanimaaDoor.Op
end
section
namespace Go.Proofs.YtoiockmmlanimaaDoor.Op
open Go.RowKit Go.Proofs.YtoiockmmlanimaaDoorW.PrintWords Go.Proofs.YtoiockmmlanimaaDoorW.PrintLast Go.Proofs.YtoiockmmlanimaaDoorW.PrintMore
attribute [local go_sem] max2_int min2_int max_two min_two max_three min_three max_four min_four
set_option linter.unusedVariables false
set_option linter.unusedSimpArgs false
def api_Piece.f (l0 : List (S63)) : Option (List (S63)) := if l0.length ≤ 1000000000 then some l0 else none
def api_Piece_cells (ys : List S63) : List Value := ys.flatMap fun y => [.string y.f0, .int .i64 y.f1]
theorem api_Piece_cells_length (ys : List S63) : (api_Piece_cells ys).length = ys.length * 2 := by
 induction ys with
 | nil => rfl
 | cons y ys ih => simp only [api_Piece_cells, List.flatMap_cons, List.length_append, List.length_cons, List.length_nil] at ih ⊢; rw [ih]; omega
theorem api_Piece_cells_snoc (ys : List S63) (y : S63) : api_Piece_cells (ys ++ [y]) = api_Piece_cells ys ++ [.string y.f0, .int .i64 y.f1] := by simp [api_Piece_cells]
theorem api_Piece_one (ys : List S63) : ∀ u ∈ api_Piece_cells ys, u.oneCell' = true := by
 intro u hu
 obtain ⟨y, _, hy⟩ := List.mem_flatMap.1 hu
 simp only [List.mem_cons, List.not_mem_nil, or_false] at hy
 rcases hy with rfl | rfl <;> rfl
theorem api_Piece_reps (w : World) (base : Nat) (ok : Nat → Prop) : ∀ ys : List S63, Reps (k63.M w base ok) 2 ys (api_Piece_cells ys) := by
 intro ys
 have H : ∀ zs : List S63, ∀ ys : List S63, Reps (k63.M w base ok) 2 ys (api_Piece_cells ys) → Reps (k63.M w base ok) 2 (ys ++ zs) (api_Piece_cells (ys ++ zs)) := by
  intro zs
  induction zs with
  | nil => intro ys h; simpa using h
  | cons z zs ih =>
   intro ys h
   have h1 := ih (ys ++ [z]) (by rw [api_Piece_cells_snoc]; exact h.snoc (k63_mkM _ _ _ z) rfl)
   simpa using h1
 simpa using H ys [] (Reps.none _ _)
theorem api_Piece_row {w : World} {base : Nat} {v : Value} {ys : List S63} (h : w.ownsRow base 63 2 v ys.length (api_Piece_cells ys)) : Kd.R k63 63 w base (fun _ => True) v ys :=
 ⟨fun _ _ => trivial, _, h, api_Piece_reps _ _ _ ys⟩
theorem api_Piece_at (w : World) (ad : Addr) : ∀ (l : List S63) (o : Nat), (∀ (i : Nat) (y : S63), l[i]? = some y → w.cell? (ad.add (o + i * 2)) = some (.string y.f0) ∧ w.cell? (ad.add (o + i * 2 + 1)) = some (.int .i64 y.f1)) → ∀ j u, (api_Piece_cells l)[j]? = some u → w.cell? (ad.add (o + j)) = some u := by
 intro l
 induction l with
 | nil => intro o _ j u hj; simp [api_Piece_cells] at hj
 | cons y l ih =>
  intro o H j u hj
  obtain ⟨g0, g1⟩ := H 0 y rfl
  rw [Nat.zero_mul, Nat.add_zero] at g0 g1
  have hc : api_Piece_cells (y :: l) = .string y.f0 :: .int .i64 y.f1 :: api_Piece_cells l := rfl
  rw [hc] at hj
  match j, hj with
  | 0, hj => simp at hj; subst hj; exact g0
  | 1, hj => simp at hj; subst hj; exact g1
  | j + 2, hj =>
   have := ih (o + 2) (fun i z hz => by
    have := H (i + 1) z hz
    rw [show o + (i + 1) * 2 = o + 2 + i * 2 by omega] at this
    exact this) j u (by simpa using hj)
   rw [show o + (j + 2) = o + 2 + j by omega]
   exact this
set_option maxRecDepth 100000 in
set_option maxHeartbeats 1000000 in
theorem api_Piece_nil (c0 : Nat) (w : World) :
  Calls Tryd.prog 66 #[.slice none 0 c0] w fun e w' => e = .returned (.slice none 0 0) ∧ Below w.heap.size w w' := by
 have q22 : ∀ (w : World) (a : Option Addr) (n c n' c' : Nat), (binOp .eql 24 (.slice a n c) (.slice none n' c')).run Tryd.prog w = .ok (.bool a.isNone) w := fun w a n c n' c' => Lib.run_eql_slice_nil w _ _ a n c n' c' Tryd.underlying24
 go_enter Tryd.func66, Tryd.ntmps66
 go_wp2
 go_ret
 exact ⟨rfl, Below.refl _ _⟩
set_option maxRecDepth 100000 in
set_option maxHeartbeats 1000000 in
theorem api_Piece_some (ad : Addr) (c0 : Nat) (l0 : List (S63)) (w : World) (hr0 : Kd.C k63 w (some ad) l0.length l0) (hc0 : l0.length ≤ c0) (hl : l0.length ≤ 1000000000) :
  Calls Tryd.prog 66 #[.slice (some ad) l0.length c0] w fun e w' => ∃ v0_ : Value, e = .returned v0_ ∧ w'.ownsRow w.heap.size 63 2 v0_ l0.length (api_Piece_cells l0) ∧ Below w.heap.size w w' := by
 have q22 : ∀ (w : World) (a : Option Addr) (n c n' c' : Nat), (binOp .eql 24 (.slice a n c) (.slice none n' c')).run Tryd.prog w = .ok (.bool a.isNone) w := fun w a n c n' c' => Lib.run_eql_slice_nil w _ _ a n c n' c' Tryd.underlying24
 have hcells : Hid (∀ j u, (api_Piece_cells l0)[j]? = some u → w.cell? (ad.add j) = some u) := Lib.hid (by
  have := api_Piece_at w ad l0 0 (fun i y hy => by
   have hi : i < l0.length := by
    rcases Nat.lt_or_ge i l0.length with h | h
    ·
     exact h
    ·
     rw [List.getElem?_eq_none h] at hy; cases hy
   obtain ⟨ad', e, x0, x1⟩ := at_T63 hr0 (i : Int) (by omega) (by omega)
   cases e
   have hrd : rd_T63 l0 (i : Int) = y := by
    unfold rd_T63
    rw [Int.toNat_natCast, List.getD_eq_getElem?_getD, hy]
    rfl
   rw [hrd, Int.toNat_natCast] at x0 x1
   rw [Nat.zero_add]
   have ha : ∀ n j : Nat, 0 < j → ad.add (n + j) = ⟨(ad.add n).block, (ad.add n).off + j, none⟩ := fun n j hj => by
    unfold Addr.add
    rw [if_neg (by omega)]
    by_cases h0 : n = 0
    ·
     subst h0; simp
    ·
     rw [if_neg h0]; simp [Nat.add_assoc]
   exact ⟨x0, by rw [ha _ 1 (by omega)]; exact x1⟩)
  simpa using this)
 clear hr0
 obtain ⟨i0, hi, hz0, hz1, hz2⟩ : ∃ i0, Tryd.prog.info? 63 = some i0 ∧ i0.zero = some (.agg #[(.string ⟨#[]⟩), (.int .i64 0)]) ∧ i0.size = 2 ∧ i0.bytes = 24 := by
  have h : (Tryd.prog.info? 63).map (fun i => (i.zero, i.size, i.bytes)) = some (some (.agg #[(.string ⟨#[]⟩), (.int .i64 0)]), 2, 24) := by kernel_rfl
  cases hq : Tryd.prog.info? 63 with
  | none => rw [hq] at h; cases h
  | some i0 => rw [hq] at h; simp at h; exact ⟨i0, rfl, h.1, h.2.1, h.2.2⟩
 go_enter Tryd.func66, Tryd.ntmps66
 go_wp2_with (at_builtin; refine wpList_append_own _ rfl _ _ 24 rfl w.heap.size 63 i0 _ 2 24 Tryd.underlying24 hi hz0 hz1 hz2 rfl (by decide) _ _ _ rfl (World.ownsRow_made w #[] 0 (Nat.le_refl _) (Nat.zero_le _) (by simp)) ad l0.length c0 (api_Piece_cells l0) rfl ?qc1 ?qc2 ?qc3 ?qc4 ?qc5 ?qc6 ?_)
 case qc1 => exact api_Piece_cells_length l0
 case qc2 => intro j u hj; exact Lib.cell?_alloc_some _ (hcells.out j u hj)
 case qc3 => exact api_Piece_one l0
 case qc4 => unfold maxLen; omega
 case qc5 => omega
 case qc6 => simp
 intro v' w1 hown hgrow hnil
 go_wp2
 go_ret
 exact ⟨_, rfl, by simpa using hown, ((Below.refl _ w).alloc (Nat.le_refl _) _).grown hgrow (by simp) (fun k e => by simp [Value.ownBlock] at e; omega)⟩
theorem api_Piece_own (A0 : Option Addr) (c0 : Nat) (l0 : List (S63)) (w : World) (hr0 : Kd.C k63 w A0 l0.length l0) (hc0 : l0.length ≤ c0) (hl : l0.length ≤ 1000000000) :
  Calls Tryd.prog 66 #[.slice A0 l0.length c0] w fun e w' => ∃ v0_ : Value, e = .returned v0_ ∧ w'.ownsRow w.heap.size 63 2 v0_ l0.length (api_Piece_cells l0) ∧ Below w.heap.size w w' := by
 cases A0 with
 | none =>
  obtain rfl : l0 = [] := by
   rcases l0 with _ | ⟨y, l⟩
   ·
    rfl
   ·
    obtain ⟨ad', e, _⟩ := at_T63 hr0 0 (by omega) (by simp)
    cases e
  exact (api_Piece_nil c0 w).mono fun e w' ⟨h1, h2⟩ => ⟨_, h1, World.ownsRow_nil _ _ _ _, h2⟩
 | some ad => exact api_Piece_some ad c0 l0 w hr0 hc0 hl
theorem api_Piece.calls (A0 : Option Addr) (c0 : Nat) (l0 : List (S63)) (r : List (S63)) (w : World) (hr0 : Kd.C k63 w A0 l0.length l0) (hc0 : l0.length ≤ c0) (h : api_Piece.f l0 = some r) :
  Calls Tryd.prog 66 #[.slice A0 l0.length c0] w fun e w' => ∃ v0_ : Value, e = .returned v0_ ∧ Kd.R k63 63 w' w.heap.size (fun _ => True) v0_ r ∧ Below w.heap.size w w' := by
 unfold api_Piece.f at h
 split at h
 ·
  rename_i hl
  cases h
  exact (api_Piece_own A0 c0 l0 w hr0 hc0 hl).mono fun e w' ⟨v, h1, h2, h3⟩ => ⟨v, h1, api_Piece_row h2, h3⟩
 ·
  cases h
def parts_own.l0 : Nat → List (S46) → List (S46) → Int → Int → Option ((List (S46)))
 | 0, _, _, _, _ => none
 | k + 1, x3, x6, x7, x8 => if x8 < x7 then (if 0 ≤ x8 then (if x8 < (x6.length : Int) then ((api_Piece.f ((rd_T46 x6 x8).f3)).bind fun t151 => (if x3.length < 2513169434916 then (parts_own.l0 k (x3 ++ [(⟨(rd_T46 x6 x8).f0, (rd_T46 x6 x8).f1, (rd_T46 x6 x8).f2, t151⟩ : S46)]) x6 x7 (wrap64 (x8 + 1))) else (none))) else (none)) else (none)) else (some x3)
def parts_own.f (k : Nat) (l0 : List (S46)) : Option ((List (S46))) := parts_own.l0 k ([] : List (S46)) l0 (l0.length : Int) 0
theorem parts_own.mono_l : ∀ k, (∀ y0 y1 y2 y3, LeO (parts_own.l0 k y0 y1 y2 y3) (parts_own.l0 (k + 1) y0 y1 y2 y3))
 | 0 => fun _ _ _ _ r h => by simp [parts_own.l0] at h
 | k + 1 => by
  have ih0 := parts_own.mono_l k
  ·
   intro y0 y1 y2 y3
   unfold parts_own.l0
   repeat' (with_reducible first | exact ih0 _ _ _ _ | exact LeO.refl _ | exact LeO.none _ | refine LeO.ite ?_ ?_ | refine LeO.bind ?_ (fun _ => ?_))
theorem parts_own.mono : ∀ a0 k, LeO (parts_own.f k a0) (parts_own.f (k + 1) a0) := by
 intro a0 k
 have ih0 := parts_own.mono_l k
 unfold parts_own.f
 repeat' (with_reducible first | exact ih0 _ _ _ _ | exact LeO.refl _ | exact LeO.none _ | refine LeO.ite ?_ ?_ | refine LeO.bind ?_ (fun _ => ?_))
set_option maxHeartbeats 8000000 in
set_option maxRecDepth 100000 in
theorem parts_own.calls (k : Nat) (A0 : Option Addr) (c0 : Nat) (l0 : List (S46)) (r : List (S46)) (w : World) (hr0 : Kd.C k46 w A0 l0.length l0) (hc0 : l0.length ≤ c0) (h : parts_own.f k l0 = some r) :
  Calls Tryd.prog 40 #[.slice A0 l0.length c0] w fun e w' => ∃ v0_ : Value, e = .returned (v0_) ∧ Kd.S k46 46 w' w.heap.size (fun _ => True) v0_ r ∧ Below w.heap.size w w' := by
 have hu46 := Tryd.underlying46
 have HR0 := am hr0
 have HC0 := am hc0
 clear hr0 hc0
 have HB := am (Below.refl w.heap.size w)
 have H := h
 clear h
 unfold parts_own.f at H
 have H' := am H
 clear H
 go_enter Tryd.func40, Tryd.ntmps40
 go_wp2
 go_loopg [3, 8] k (fun kq v3 v8 w' => ∃ (x3_1 : List (S46)) (x8_1 : Int), v8 = .int .i64 x8_1 ∧ Aside0 (parts_own.l0 kq x3_1 l0 (l0.length : Int) x8_1 = some r) ∧ Aside0 (kq ≤ k) ∧ Aside0 (Kd.S k46 46 w' w.heap.size (fun _ => True) v3 x3_1) ∧ Aside0 (Below w.heap.size w w'))
 case atStart => exact ⟨(([] : List (S46))), (0), rs, H', ⟨Nat.le_refl _⟩, ⟨niS⟩, ⟨bw HB.out⟩⟩
 case round =>
  clear H'
  obtain ⟨x3_1, x8_1, rfl, HA, HK1, HO_3, HB⟩ := hrel
  cases gk with
  | zero => exact absurd HA.out (by simp [parts_own.l0])
  | succ k1 =>
   have H := HA.out
   clear HA
   simp only [parts_own.l0] at H
   by_cases c2 : x8_1 < (l0.length : Int)
   ·
    rw [if_pos c2] at H
    have c2b0 := decide_eq_true c2
    clear c2
    by_cases c3 : 0 ≤ x8_1
    ·
     rw [if_pos c3] at H
     have c3b0 := decide_eq_true c3
     clear c3
     by_cases c4 : x8_1 < (l0.length : Int)
     ·
      rw [if_pos c4] at H
      have c4b0 := decide_eq_true c4
      clear c4
      replace H := obE H
      obtain ⟨t151, A5, H⟩ := H
      by_cases c6 : x3_1.length < 2513169434916
      ·
       rw [if_pos c6] at H
       have LMc6 := am c6
       clear c6
       obtain ⟨y154, hy154⟩ : ∃ y_ : List (S46), y_ = (x3_1 ++ [(⟨(rd_T46 l0 x8_1).f0, (rd_T46 l0 x8_1).f1, (rd_T46 l0 x8_1).f2, t151⟩ : S46)]) := ⟨_, rfl⟩
       replace H : (parts_own.l0 k1 y154 l0 (l0.length : Int) (wrap64 (x8_1 + 1))) = some r := by first | (rw [hy154]; with_reducible exact H) | (have H2_ := (Option.bind_some _ _).symm.trans H; rw [hy154]; with_reducible exact H2_) | (have H2_ := (Option.bind_some _ _).symm.trans H; with_reducible exact H2_) | with_reducible exact H | (rw [hy154]; exact H) | exact H
       have Ny154 := am hy154
       clear hy154
       have H' := am H
       clear H
       have p149 := pz x8_1
       have q149 := pl x8_1 (l0.length : Int)
       obtain ⟨ad149, A149_3, c149_3, e149, hx149_0, hx149_1, hx149_2, hx149_3, hl149_3, hi149_3⟩ := at_T46 HR0.out x8_1 (of_eq_true p149) (of_eq_true q149)
       cases e149
       replace hx149_0 := bc HB.out hx149_0
       replace hx149_1 := bc HB.out hx149_1
       replace hx149_2 := bc HB.out hx149_2
       replace hx149_3 := bc HB.out hx149_3
       have HR149_3 := am hi149_3
       have HC149_3 := am hl149_3
       clear hi149_3 hl149_3
       go_wp2_with (first | ((with_reducible refine gate_dst (N := 5) rfl ?_); refine bx 5 #[.int .i64 0, .int .i64 0, .string (⟨#[]⟩ : ByteArray), .slice none 0 0] 46 ?_; intro gb150 hg w7 hbox hb; have BK150 := am (hbox); have GW150 := gsz hg HB.out; have GE150 := gsz hg HB.out; replace HO_3 := am (Kd.S_below (Kd.S_elderB (kS HO_3.out) gb150 (Nat.le_of_eq hg.symm)) hb); replace HB := am (below_step (bw HB.out) hb); clear hb hbox hg; obtain ⟨hcz8_0, hcz8_1, hcz8_2, hcz8_3, hfz8_0, hfz8_1, hfz8_2, hfz8_3⟩ := cz4 BK150.out) | ((with_reducible refine gate_callee (f := 66) rfl ?_); refine goesL_ (some 14) rfl rfl Tryd.func66 (by kernel_rfl) rfl #[.slice A149_3 ((rd_T46 l0 x8_1).f3).length c149_3] rfl gl ?_; (with_reducible refine (api_Piece.calls _ _ ((rd_T46 l0 x8_1).f3) t151 _ ?side1 ?side2 A5.out).mono ?_); (case side1 => exact Kd.C_below HR149_3.out (bws HB.out)); (case side2 => exact HC149_3.out); rintro e w9 ⟨v152, rfl, ho0, hb⟩; refine ⟨_, rfl, ?_⟩; replace HO_3 := am (Kd.S_elder' (by (with_reducible repeat (first | apply Kd.S_alloc | apply Kd.S_drewN | apply Kd.S_drew)); exact (Kd.S_mono (Kd.S_far (p := ⟨gb150, 3, none⟩) (Kd.S_far (p := ⟨gb150, 2, none⟩) (Kd.S_far (p := ⟨gb150, 1, none⟩) (Kd.S_far (p := ⟨gb150, 0, none⟩) (Kd.S_mono HO_3.out (fun k_ hk => (⟨hk, hk.2⟩ : _ ∧ k_ ≠ gb150))) (fun _ hk => hk.2) (.int .i64 ((rd_T46 l0 x8_1).f0))) (fun _ hk => hk.2) (.int .i64 ((rd_T46 l0 x8_1).f1))) (fun _ hk => hk.2) (.string ((rd_T46 l0 x8_1).f2))) (fun _ hk => hk.2) (.slice A149_3 ((rd_T46 l0 x8_1).f3).length c149_3)) (fun _ h_ => h_.1))) (Kd.R_base ho0) hb); have HO153 := am (Kd.R_lower ho0 (below_size (bws HB.out))); replace BK150 := am (blk_below (g := gb150) (o := .cells #[.int .i64 ((rd_T46 l0 x8_1).f0), .int .i64 ((rd_T46 l0 x8_1).f1), .string ((rd_T46 l0 x8_1).f2), .slice A149_3 ((rd_T46 l0 x8_1).f3).length c149_3] 46 (0, 0)) (bkp BK150.out) hb); replace HB := am (below_step (bws HB.out) hb); (try clear hb); (try clear ho0); obtain ⟨Ao10, co10, eo10⟩ := Kd.R_slice HO153.out; subst eo10; obtain ⟨hcz11_0, hcz11_1, hcz11_2, hcz11_3, hfz11_0, hfz11_1, hfz11_2, hfz11_3⟩ := cz4 BK150.out) | ((with_reducible refine gate_store (t := 24) (p := 15) rfl ?_); refine store_event (t := 24) (p := 15) (v := ?vo_w12) (w1 := (w9.setCell ⟨gb150, 3, none⟩ (.slice Ao10 t151.length co10))) ?hg ?ho ?hn ?hr ?_; (case ho => rfl); (case hg => rfl); (case hn => rfl); (case hr => first | (go_simp; done) | (go_simp; rfl)); intro w12 hw; have n0_ : Aside0 (Kd.S k46 46 w12 w.heap.size (fun k_ => some k_ ≠ (.slice Ao10 t151.length co10 : Value).ownBlock ∧ k_ ≠ gb150) u3 x3_1) := ⟨(by rw [hw]; exact (by (with_reducible repeat (first | apply Kd.S_alloc | apply Kd.S_drewN | apply Kd.S_drew)); exact Kd.S_mono (Kd.S_far (p := ⟨gb150, 3, none⟩) (Kd.S_mono HO_3.out (fun k_ hk => (⟨hk, hk.1.2⟩ : _ ∧ k_ ≠ gb150))) (fun _ hk => hk.2) (.slice Ao10 t151.length co10)) (fun _ hk => ⟨hk.1.2, hk.1.1.2⟩)))⟩; have n1_ : Aside0 (Kd.R k63 63 w12 w.heap.size (fun _ => True) (.slice Ao10 t151.length co10) t151) := ⟨(by rw [hw]; exact (by (with_reducible repeat (first | apply Kd.R_alloc | apply Kd.R_drewN | apply Kd.R_drew)); exact Kd.R_mono (Kd.R_far (p := ⟨gb150, 3, none⟩) (Kd.R_types HO153.out BK150.out (by decide)) (fun _ hk => hk.2) (.slice Ao10 t151.length co10)) (fun _ hk => trivial)))⟩; have n2_ : Aside0 (w12.heap[gb150]? = some (.cells #[.int .i64 ((rd_T46 l0 x8_1).f0), .int .i64 ((rd_T46 l0 x8_1).f1), .string ((rd_T46 l0 x8_1).f2), .slice Ao10 t151.length co10] 46 (0, 0))) := ⟨(by rw [hw]; exact (bkp BK150.out))⟩; have n3_ : Aside0 (Below w.heap.size w w12) := ⟨(by rw [hw]; exact (bws HB.out))⟩; clear hw; clear HO_3; clear HO153; clear BK150; clear HB; have HO_3 := n0_; have HO153 := n1_; have BK150 := n2_; have HB := n3_; clear n0_ n1_ n2_ n3_; obtain ⟨hcz13_0, hcz13_1, hcz13_2, hcz13_3, hfz13_0, hfz13_1, hfz13_2, hfz13_3⟩ := cz4 BK150.out) | ((with_reducible refine gate_builtin (b := .append) (xs := #[.tmp 16, .tmp 18]) rfl ?_); at_builtin; refine Kd.S_append k46 (w0 := w) w.heap.size rfl (.tmp 16) (.tmp 18) 22 46 (.agg #[(.int .i64 0), (.int .i64 0), (.string ⟨#[]⟩), (.slice none 0 0)]) 56 rfl Tryd.underlying22 info46 rfl (by decide) (by omega) u3 x3_1 (⟨(rd_T46 l0 x8_1).f0, (rd_T46 l0 x8_1).f1, (rd_T46 l0 x8_1).f2, t151⟩ : S46) [.int .i64 ((rd_T46 l0 x8_1).f0), .int .i64 ((rd_T46 l0 x8_1).f1), .string ((rd_T46 l0 x8_1).f2), .slice Ao10 t151.length co10] (fun k_ => k_ ≠ gb150) (fun k_ => some k_ = (.slice Ao10 t151.length co10 : Value).ownBlock) rfl rfl ?aP (fun k_ hk_ => ((Kd.R_mono (ok' := fun k_ => ((fun k_ => k_ ≠ gb150)) k_ ∧ some k_ ≠ (u3 : Value).ownBlock) (Kd.R_types (Kd.R_apart' (HO153.out) (Kd.S_typed HO_3.out) (by decide)) BK150.out (by decide)) (fun k_ hk => ⟨hk.2, hk.1.2⟩))).1 k_ hk_.symm) ?aF ?aO ?aB ?aS ?aL ?_; (case aP => exact k46_mkM _ _ _ (⟨(rd_T46 l0 x8_1).f0, (rd_T46 l0 x8_1).f1, (rd_T46 l0 x8_1).f2, t151⟩ : S46) (Kd.R_mono (Kd.R_tight rfl (Kd.R_mono (ok' := fun k_ => ((fun k_ => k_ ≠ gb150)) k_ ∧ some k_ ≠ (u3 : Value).ownBlock) (Kd.R_types (Kd.R_apart' (HO153.out) (Kd.S_typed HO_3.out) (by decide)) BK150.out (by decide)) (fun k_ hk => ⟨hk.2, hk.1.2⟩))) (fun _ h_ => h_))); (case aB => exact (bws HB.out)); (case aF => exact (fun k_ hk => Kd.freshB (g := gb150) (o := .cells #[.int .i64 ((rd_T46 l0 x8_1).f0), .int .i64 ((rd_T46 l0 x8_1).f1), .string ((rd_T46 l0 x8_1).f2), .slice Ao10 t151.length co10] 46 (0, 0)) (bk BK150.out) k_ hk)); (case aO => exact (by (with_reducible repeat (first | apply Kd.S_alloc | apply Kd.S_drewN | apply Kd.S_drew)); exact Kd.S_mono HO_3.out (fun k_ hk => ⟨hk.2, fun e_ => hk.1 e_⟩))); (case aS => exact (below_size (bws HB.out))); (case aL => have := LMc6.out; omega); intro v155 w14 ho hb hg hat; rw [← Ny154.out] at ho; have n0_ := am (blk_grown (g := gb150) (o := .cells #[.int .i64 ((rd_T46 l0 x8_1).f0), .int .i64 ((rd_T46 l0 x8_1).f1), .string ((rd_T46 l0 x8_1).f2), .slice Ao10 t151.length co10] 46 (0, 0)) (bk BK150.out) hg (Kd.S_away HO_3.out (fun _ hk => hk.2))); have n1_ := am (hb); have n2_ := am (ho); clear BK150; clear HB; clear HO_3; clear HO153; have BK150 := n0_; have HB := n1_; have HO156 := n2_; clear n0_ n1_ n2_; clear ho hb hg hat))
       go_roundg k1
       case measure => have := HK1.out; omega
       case rel => exact ⟨(y154), (wrap64 (x8_1 + 1)), rs, H', ⟨by have := HK1.out; omega⟩, ⟨by (with_reducible repeat (first | apply Kd.S_alloc | apply Kd.S_drewN | apply Kd.S_drew)); exact Kd.S_mono HO156.out (fun _ hk => trivial)⟩, ⟨bws HB.out⟩⟩
      ·
       rw [if_neg c6] at H
       exact absurd H (by simp)
     ·
      rw [if_neg c4] at H
      exact absurd H (by simp)
    ·
     rw [if_neg c3] at H
     exact absurd H (by simp)
   ·
    rw [if_neg c2] at H
    have c2b0 := decide_eq_false c2
    clear c2
    obtain rfl := Option.some.inj H
    go_wp2
    go_ret
    exact ⟨_, rf, kS HO_3.out, bw HB.out⟩
def api_Part.f (l0 : List (S46)) (a1 : Int) (l2 : List (S46)) : Option (List (S46)) := none
theorem api_Part_info : ∃ i0, Tryd.prog.info? 46 = some i0 ∧ i0.zero = some (.agg #[(.int .i64 0), (.int .i64 0), (.string ⟨#[]⟩), (.slice none 0 0)]) ∧ i0.size = 4 ∧ i0.bytes = 56 := by
 have h : (Tryd.prog.info? 46).map (fun i => (i.zero, i.size, i.bytes)) = some (some (.agg #[(.int .i64 0), (.int .i64 0), (.string ⟨#[]⟩), (.slice none 0 0)]), 4, 56) := by kernel_rfl
 cases hq : Tryd.prog.info? 46 with
 | none => rw [hq] at h; cases h
 | some i0 => rw [hq] at h; simp at h; exact ⟨i0, rfl, h.1, h.2.1, h.2.2⟩
set_option maxRecDepth 100000 in
set_option maxHeartbeats 1000000 in
theorem api_Part_end (B : Nat) (s : Value) (xs vs : List Value) (n vb : Nat) (w : World) (hs : w.ownsRow B 46 4 s n xs) (hn : n ≤ 1000000) (h1v : ∀ u ∈ vs, u.oneCell' = true) (hvl : vs.length = 4) (hv : ∀ j u, vs[j]? = some u → w.cell? ⟨vb, j, none⟩ = some u) (hB : B ≤ w.heap.size) :
  Calls Tryd.prog 41 #[s, .int .i64 n, .slice (some ⟨vb, 0, none⟩) 1 1] w fun e w' => ∃ v', e = .returned v' ∧ w'.ownsRow B 46 4 v' (n + 1) (xs ++ vs) ∧ w.grownBy w' s.ownBlock := by
 obtain ⟨i0, hi, hz0, hz1, hz2⟩ := api_Part_info
 have HV := Lib.hid hv
 have HS := Lib.hid hs
 rcases hs.2 with ⟨rfl, rfl⟩ | ⟨g, cap, cur, rfl, hbg, hg, hnc, hcm, hcs, htk⟩
 ·
  clear hs hv
  go_enter Tryd.func41, Tryd.ntmps41
  go_wp2_with (at_builtin; refine wpList_append_own _ rfl _ _ 22 rfl B 46 i0 _ 4 56 Tryd.underlying22 hi hz0 hz1 hz2 rfl (by decide) _ _ _ rfl HS.out ⟨vb, 0, none⟩ 1 1 vs rfl ?qc1 ?qc2 ?qc3 ?qc4 ?qc5 ?qc6 ?_)
  case qc1 => exact hvl
  case qc2 => intro j u hj; rw [Addr.add_lit, Nat.zero_add]; exact HV.out j u hj
  case qc3 => exact h1v
  case qc4 => unfold maxLen; omega
  case qc5 => omega
  case qc6 => exact hB
  intro v' w1 hown hgrow hnil
  go_wp2
  go_ret
  exact ⟨_, rfl, hown, hgrow⟩
 ·
  clear hs hv
  unfold maxLen at hcm
  have hcn : ¬ ((n : Int) < 0) := by omega
  clear htk hg hcs
  go_enter Tryd.func41, Tryd.ntmps41
  go_wp2_with (at_builtin; refine wpList_append_own _ rfl _ _ 22 rfl B 46 i0 _ 4 56 Tryd.underlying22 hi hz0 hz1 hz2 rfl (by decide) _ _ _ rfl HS.out ⟨vb, 0, none⟩ 1 1 vs rfl ?qd1 ?qd2 ?qd3 ?qd4 ?qd5 ?qd6 ?_)
  case qd2 => intro j u hj; have := HV.out j u hj; first | exact this | (rw [Addr.add_lit, Nat.zero_add]; exact this)
  case qd3 => exact h1v
  case qd4 => unfold maxLen; omega
  case qd5 => omega
  all_goals
   intro v' w1 hown hgrow hnil
   go_wp2
   go_ret
   exact ⟨_, rfl, hown, hgrow⟩
set_option maxRecDepth 100000 in
set_option maxHeartbeats 4000000 in
theorem api_Part_grow (B g n cap i vb : Nat) (cur : Array Value) (tv : TypeId) (xs vs : List Value) (w : World) (hi : i < n) (hn : n ≤ 1000000) (hnc : n ≤ cap) (hroom : cap < n + 1) (hcm : cap ≤ maxLen) (hB : B ≤ w.heap.size)
  (hg : w.heap[g]? = some (.cells cur 46 (0, 0))) (hcs : cur.size = cap * 4) (htk : cur.toList.take (n * 4) = xs) (h1x : ∀ u ∈ xs, u.oneCell' = true) (h1v : ∀ u ∈ vs, u.oneCell' = true) (hvl : vs.length = 4)
  (hv : w.heap[vb]? = some (.cells vs.toArray tv (0, 0))) (hvb : vb ≠ g) :
  Calls Tryd.prog 41 #[.slice (some ⟨g, 0, none⟩) n cap, .int .i64 i, .slice (some ⟨vb, 0, none⟩) 1 1] w fun e w' => ∃ v', e = .returned v' ∧ w'.ownsRow B 46 4 v' (n + 1) (xs.take (i * 4) ++ vs ++ xs.drop (i * 4)) ∧ w.grownBy w' (some g) := by
 obtain ⟨i0, hi0, hz0, hz1, hz2⟩ := api_Part_info
 have hu : Tryd.prog.underlying 22 = some (.slice 46) := Tryd.underlying22
 have hu3 : Tryd.prog.underlying 3 = some (.int .i64) := Tryd.underlying3
 have hsz : (Tryd.prog.info? 46).map (·.size) = some 4 := by rw [hi0]; simp [hz1]
 have hgl : g < w.heap.size := (Array.getElem?_eq_some_iff.1 hg).1
 have hvll : vb < w.heap.size := (Array.getElem?_eq_some_iff.1 hv).1
 have hxl : xs.length = n * 4 := by rw [← htk, List.length_take, Array.length_toList, hcs]; omega
 have hxc : ∀ j v, xs[j]? = some v → w.cell? ⟨g, j, none⟩ = some v := fun j v hj => by
  rw [cell_of_row w g j cur _ _ hg]
  rw [← htk, List.getElem?_take] at hj
  split at hj
  ·
   simpa using hj
  ·
   cases hj
 have hvc : ∀ j v, vs[j]? = some v → w.cell? ⟨vb, j, none⟩ = some v := fun j v hj => by
  rw [cell_of_row w vb j vs.toArray _ _ hv]; simpa using hj
 have hold : (Builtin.firstCells i0.size i (.slice (some ⟨g, 0, none⟩) i cap)).run Tryd.prog w.drew = .ok (xs.take (i * 4)).toArray w.drew := by
  rw [hz1]
  exact run_firstCells_some w.drew 4 i ⟨g, 0, none⟩ i cap (xs.take (i * 4)) (by rw [List.length_take, hxl]; omega) (fun j v hj => by
   rw [Addr.add_lit, Nat.zero_add]
   rw [List.getElem?_take] at hj
   split at hj
   ·
    exact hxc j v hj
   ·
    cases hj)
 obtain ⟨G, hG⟩ : ∃ G, G = grownCap w (n + 1) cap 46 := ⟨_, rfl⟩
 have hGn : n + 1 ≤ G := by rw [hG]; exact grownCap_ge w _ _ _
 have hGm : G ≤ maxLen := by rw [hG]; exact grownCap_le_maxLen w (n + 1) cap _ (by unfold maxLen; omega)
 obtain ⟨Z, hZ⟩ : ∃ Z : Array Value, Z = Builtin.zeroCells (Value.agg #[(.int .i64 0), (.int .i64 0), (.string ⟨#[]⟩), (.slice none 0 0)]).cells (n + 1 - i) ++ Builtin.zeroCells (Value.agg #[(.int .i64 0), (.int .i64 0), (.string ⟨#[]⟩), (.slice none 0 0)]).cells (G - (n + 1)) := ⟨_, rfl⟩
 have hZl : Z.toList.length = (G - i) * 4 := by
  rw [hZ, Array.length_toList, Array.size_append, size_zeroCells, size_zeroCells]
  show (n + 1 - i) * 4 + (G - (n + 1)) * 4 = _
  omega
 obtain ⟨ROW, hROW⟩ : ∃ ROW : Array Value, ROW = (xs.take (i * 4)).toArray ++ Z := ⟨_, rfl⟩
 have hrz : ∀ ty, (Builtin.append_ #[22, 3] ty #[.slice (some ⟨g, 0, none⟩) i cap, .int .i64 ((n : Int) + 1 - (i : Int))]).run Tryd.prog w =
   .ok (.slice (some ⟨w.heap.size, 0, none⟩) (n + 1) G) (w.drew.alloc (.cells ROW 46)) := fun ty => by
  have hik : i + (n + 1 - i) = n + 1 := by omega
  have h := Lib.run_append_grow_zeros w 22 3 ty 46 i0 _ .i64 .i64 hu hu3 hi0 hz0 (some ⟨g, 0, none⟩) i cap (xs.take (i * 4)) hold (n + 1 - i) (by omega) (by rw [hz1]; omega) (by omega) (by omega) (by rw [hz2]; omega) (by rw [hz2, hik]; exact growslice_fits hroom (by omega))
  rw [hik, ← hG] at h
  rw [show (n : Int) + 1 - (i : Int) = ((n + 1 - i : Nat) : Int) by omega, h, hROW, hZ, Array.append_assoc]
 obtain ⟨W1, hW1⟩ : ∃ W1, W1 = w.drew.alloc (.cells ROW 46) := ⟨_, rfl⟩
 have hN1 : W1.heap[w.heap.size]? = some (.cells ROW 46 (0, 0)) := by rw [hW1]; exact heap_alloc_new w.drew _
 have hk1 : ∀ k, k < w.heap.size → W1.heap[k]? = w.heap[k]? := fun k hk => by rw [hW1]; exact Below.heap_alloc w.drew _ k hk
 obtain ⟨R1, hR1⟩ : ∃ R1 : Array Value, R1 = (ROW.toList.take (i * 4) ++ vs ++ ROW.toList.drop (i * 4 + vs.length)).toArray := ⟨_, rfl⟩
 obtain ⟨R2, hR2⟩ : ∃ R2 : Array Value, R2 = (R1.toList.take ((i + 1) * 4) ++ xs.drop (i * 4) ++ R1.toList.drop ((i + 1) * 4 + (xs.drop (i * 4)).length)).toArray := ⟨_, rfl⟩
 have hfin := RowK.grow_list xs vs Z.toList ROW.toList R1.toList R2.toList (i * 4) (n * 4) 4 hxl (by omega) hvl (by rw [hROW]; simp) (by rw [hZl]; omega) (by rw [hR1]) (by rw [hR2, show (i + 1) * 4 = i * 4 + 4 by omega])
 obtain ⟨hf1, hf2, hf3⟩ := hfin
 have hRl : ROW.toList.length = G * 4 := by rw [hROW]; simp only [Array.toList_append, List.length_append, hZl, List.length_take, hxl]; omega
 have hdl : (xs.drop (i * 4)).length = (n - i) * 4 := by rw [List.length_drop, hxl]; omega
 have hcpA : ∀ (W : World), W.heap = W1.heap → ∀ ty dc, (Builtin.copy_ #[22, 22] ty #[.slice (some ⟨w.heap.size, i * 4, none⟩) (n + 1 - i) dc, .slice (some ⟨vb, 0, none⟩) 1 1]).run Tryd.prog W = .ok (.int .i64 1) (W.setRow w.heap.size R1) := fun W hW ty dc => by
  rw [hR1]
  exact RowK.run_copy_rowK W _ _ ty 46 4 w.heap.size (i * 4) (n + 1 - i) dc ⟨vb, 0, none⟩ 1 1 1 ROW 46 vs hu hsz (by rw [hW]; exact hN1) (by simp only [Nat.min_def]; split <;> omega) (by rw [hvl])
   (fun j v hj => by rw [Addr.add_lit, Nat.zero_add, World.cell?_of_block (w := w) (by rw [hW]; exact hk1 _ hvll)]; exact hvc j v hj)
   (by rw [hvl, ← Array.length_toList, hRl]; omega) h1v
 have hcpB : ∀ (W : World), W.heap = (W1.setRow w.heap.size R1).heap → ∀ ty dc sc, (Builtin.copy_ #[22, 22] ty #[.slice (some ⟨w.heap.size, (i + 1) * 4, none⟩) (n + 1 - (i + 1)) dc, .slice (some ⟨g, i * 4, none⟩) (n - i) sc]).run Tryd.prog W = .ok (.int .i64 ((n - i : Nat) : Int)) (W.setRow w.heap.size R2) := fun W hW ty dc sc => by
  rw [hR2]
  exact RowK.run_copy_rowK W _ _ ty 46 4 w.heap.size ((i + 1) * 4) (n + 1 - (i + 1)) dc ⟨g, i * 4, none⟩ (n - i) sc (n - i) R1 46 (xs.drop (i * 4)) hu hsz (by rw [hW]; exact setRow_heap W1 _ _ _ _ _ hN1) (by simp only [Nat.min_def]; split <;> omega) hdl
   (fun j v hj => by
    rw [Addr.add_lit, World.cell?_of_block (w := w) (by rw [hW]; show (W1.setRow w.heap.size R1).heap[g]? = _; rw [RowK.setRow_other W1 _ _ g (by omega)]; exact hk1 _ hgl)]
    exact hxc (i * 4 + j) v (by rwa [List.getElem?_drop] at hj))
   (by rw [hdl, ← Array.length_toList, hf3, hRl]; omega) (fun v hv => h1x v (List.mem_of_mem_drop hv))
 have hres : ∀ (W : World), W.os = w.os → W.tape = w.tape → W.output = w.output → W.heap = ((W1.setRow w.heap.size R1).setRow w.heap.size R2).heap → W.ownsRow B 46 4 (.slice (some ⟨w.heap.size, 0, none⟩) (n + 1) G) (n + 1) (xs.take (i * 4) ++ vs ++ xs.drop (i * 4)) ∧ w.grownBy W (some g) := fun W ho ht hp hW => by
  have hlast : W.heap[w.heap.size]? = some (.cells R2 46 (0, 0)) := by rw [hW]; exact setRow_heap _ _ _ _ _ _ (setRow_heap W1 _ _ _ _ _ hN1)
  refine ⟨⟨by simp only [List.length_append, hdl, hvl, List.length_take, hxl]; omega, .inr ⟨w.heap.size, G, R2, rfl, hB, hlast, hGn, hGm, by rw [← Array.length_toList, hf2, hRl], by rw [show (n + 1) * 4 = n * 4 + 4 by omega]; exact hf1⟩⟩, ho, ht, hp, ?_, fun k hk _ => ?_⟩
  ·
   have := (Array.getElem?_eq_some_iff.1 hlast).1; omega
  ·
   rw [hW, RowK.setRow_other _ _ _ k (by omega), RowK.setRow_other _ _ _ k (by omega)]; exact hk1 k hk
 subst hW1
 have HRES := Lib.hid hres
 have HCA := Lib.hid hcpA
 have HCB := Lib.hid hcpB
 have hz1 : ¬ ((1 : Int) = 0) := by omega
 have hz2 : ¬ ((i : Int) = (n : Int)) := by omega
 have hz3 : (cap : Int) < (n : Int) + 1 := by omega
 unfold maxLen at hcm hGm
 have hGi : ¬ (G = i) := by omega
 have hGim : ¬ (G = i + 1) := by omega
 have hci : ¬ (cap = i) := by omega
 have hw1 : IntKind.i64.wrap ((i : Int) + 1) = (i : Int) + 1 := by rw [IntKind.wrap_i64]; omega
 have hw2 : IntKind.i64.wrap ((n : Int) + 1) = (n : Int) + 1 := by rw [IntKind.wrap_i64]; omega
 have hw3 : IntKind.i64.wrap ((n : Int) + 1 - (i : Int)) = (n : Int) + 1 - (i : Int) := by rw [IntKind.wrap_i64]; omega
 have hb1 : (0 : Int) ≤ (i : Int) + 1 := by omega
 have hin : i ≤ n := by omega
 have htn : ((i : Int) + 1).toNat = i + 1 := by omega
 have hb3 : (i : Int) ≤ (n : Int) := by omega
 clear hres hcpA hcpB hf1 hf2 hf3 hRl hdl hR1 hR2 hN1 hk1 hROW hZl hZ hG hold hvc hxc hxl htk hcs hg hv hsz hi0
 have mixed : Tryd.prog.follows Departure.mixedOrders = true := by kernel_rfl
 go_enter Tryd.func41, Tryd.ntmps41
 go_wp2_with (first
  | (at_builtin; refine Lib.wpList_append_run _ rfl _ _ _ _ rfl _ _ rfl rfl _ _ (hrz _) ?_)
  | (refine wpList_copy_runI _ rfl _ _ 22 22 rfl _ _ rfl rfl (HCA.out _ (by rfl) _ _) ?_)
  | (refine wpList_copy_runI _ rfl _ _ 22 22 rfl _ _ rfl rfl (HCB.out _ (by rfl) _ _ _) ?_))
 go_region_law_o (refine step_copy_runI rfl _ _ 22 22 rfl (.slice (some ⟨w.heap.size, (i + 1) * 4, none⟩) (n + 1 - (i + 1)) (G - (i + 1))) (.slice (some ⟨g, i * 4, none⟩) (n - i) (cap - i)) (by simp [Act.eval, Act.put]) (by simp [Act.eval, Act.put]) (HCB.out _ (by rfl) 3 (G - (i + 1)) (cap - i)) ?_)
 go_wp2
 go_ret
 exact ⟨_, rfl, HRES.out _ rfl rfl rfl rfl⟩
set_option maxRecDepth 100000 in
set_option maxHeartbeats 4000000 in
theorem api_Part_shift (B g n cap i vb : Nat) (cur : Array Value) (tv : TypeId) (xs vs : List Value) (w : World) (hi : i < n) (hn : n ≤ 1000000) (hroom : n + 1 ≤ cap) (hcm : cap ≤ maxLen) (hB : B ≤ g)
  (hg : w.heap[g]? = some (.cells cur 46 (0, 0))) (hcs : cur.size = cap * 4) (htk : cur.toList.take (n * 4) = xs) (h1x : ∀ u ∈ xs, u.oneCell' = true) (h1v : ∀ u ∈ vs, u.oneCell' = true) (hvl : vs.length = 4)
  (hv : w.heap[vb]? = some (.cells vs.toArray tv (0, 0))) (hvb : vb ≠ g) :
  Calls Tryd.prog 41 #[.slice (some ⟨g, 0, none⟩) n cap, .int .i64 i, .slice (some ⟨vb, 0, none⟩) 1 1] w fun e w' => ∃ v', e = .returned v' ∧ w'.ownsRow B 46 4 v' (n + 1) (xs.take (i * 4) ++ vs ++ xs.drop (i * 4)) ∧ w.grownBy w' (some g) := by
 obtain ⟨i0, hi0, hz0, hz1, hz2⟩ := api_Part_info
 have hu : Tryd.prog.underlying 22 = some (.slice 46) := Tryd.underlying22
 have hsz : (Tryd.prog.info? 46).map (·.size) = some 4 := by rw [hi0]; simp [hz1]
 have hgl : g < w.heap.size := (Array.getElem?_eq_some_iff.1 hg).1
 have hvll : vb < w.heap.size := (Array.getElem?_eq_some_iff.1 hv).1
 have hxl : xs.length = n * 4 := by rw [← htk, List.length_take, Array.length_toList, hcs]; omega
 have hxc : ∀ j v, xs[j]? = some v → w.cell? ⟨g, j, none⟩ = some v := fun j v hj => by
  rw [cell_of_row w g j cur _ _ hg]
  rw [← htk, List.getElem?_take] at hj
  split at hj
  ·
   simpa using hj
  ·
   cases hj
 have hvc : ∀ j v, vs[j]? = some v → w.cell? ⟨vb, j, none⟩ = some v := fun j v hj => by
  rw [cell_of_row w vb j vs.toArray _ _ hv]; simpa using hj
 have hsz4 : ∀ w, (Go.sizeOf 46).run Tryd.prog w = .ok 4 w := fun w => by simp [Go.sizeOf, typeInfo, hi0, hz1]
 have hov : ∀ (W : World), W.heap = w.heap → ∀ lb cb, (callFunc 67 #[.slice (some ⟨vb, 0, none⟩) 1 1, .slice (some ⟨g, (i + 1) * 4, none⟩) lb cb]).run Tryd.prog W = .ok (.value (.bool false)) W := fun W hW lb cb => by
  have hWv : W.heap[vb]? = some (.cells vs.toArray tv (0, 0)) := by rw [hW]; exact hv
  have hWg : W.heap[g]? = some (.cells cur 46 (0, 0)) := by rw [hW]; exact hg
  rw [run_callFunc_extern Tryd.func67 (by kernel_rfl) (by kernel_rfl) (by kernel_rfl) (e := Extern.SlicesOverlaps.overlaps #[22, 22] #[4]) (by kernel_rfl),
   Lib.run_overlaps_apart W 22 4 46 hu 4 hsz4 ⟨vb, 0, none⟩ ⟨g, (i + 1) * 4, none⟩ 1 1 lb cb hvb tv 46 4 cur.size (by simp [World.shape?, hWv, hvl]) (by simp [World.shape?, hWg]) (by omega) (by simp [World.frozen?, hWv]) (by simp [World.frozen?, hWv])]
  rfl
 obtain ⟨R1, hR1⟩ : ∃ R1 : Array Value, R1 = (cur.toList.take ((i + 1) * 4) ++ xs.drop (i * 4) ++ cur.toList.drop ((i + 1) * 4 + (xs.drop (i * 4)).length)).toArray := ⟨_, rfl⟩
 obtain ⟨R2, hR2⟩ : ∃ R2 : Array Value, R2 = (R1.toList.take (i * 4) ++ vs ++ R1.toList.drop (i * 4 + vs.length)).toArray := ⟨_, rfl⟩
 obtain ⟨hf1, hf2, hf3⟩ := RowK.shift_list cur.toList xs vs (i * 4) (n * 4) 4 htk (by omega) (by rw [Array.length_toList, hcs]; omega) hvl (by omega) R1.toList (by rw [hR1, show (i + 1) * 4 = i * 4 + 4 by omega]) R2.toList (by rw [hR2])
 have hcl : cur.toList.length = cap * 4 := by rw [Array.length_toList, hcs]
 have hdl : (xs.drop (i * 4)).length = (n - i) * 4 := by rw [List.length_drop, hxl]; omega
 have hcpA : ∀ (W : World), W.heap = w.heap → ∀ ty dc sc, (Builtin.copy_ #[22, 22] ty #[.slice (some ⟨g, (i + 1) * 4, none⟩) (n + 1 - (i + 1)) dc, .slice (some ⟨g, i * 4, none⟩) (n + 1 - i) sc]).run Tryd.prog W = .ok (.int .i64 ((n - i : Nat) : Int)) (W.setRow g R1) := fun W hW ty dc sc => by
  rw [hR1]
  exact RowK.run_copy_rowK W _ _ ty 46 4 g ((i + 1) * 4) (n + 1 - (i + 1)) dc ⟨g, i * 4, none⟩ (n + 1 - i) sc (n - i) cur 46 (xs.drop (i * 4)) hu hsz (by rw [hW]; exact hg) (by simp only [Nat.min_def]; split <;> omega) hdl
   (fun j v hj => by rw [Addr.add_lit, World.cell?_of_block (w := w) (by rw [hW])]; exact hxc (i * 4 + j) v (by rwa [List.getElem?_drop] at hj))
   (by rw [hdl, hcs]; omega) (fun v hv => h1x v (List.mem_of_mem_drop hv))
 have hcpB : ∀ (W : World), W.heap = (w.setRow g R1).heap → ∀ ty dc, (Builtin.copy_ #[22, 22] ty #[.slice (some ⟨g, i * 4, none⟩) (n + 1 - i) dc, .slice (some ⟨vb, 0, none⟩) 1 1]).run Tryd.prog W = .ok (.int .i64 1) (W.setRow g R2) := fun W hW ty dc => by
  rw [hR2]
  exact RowK.run_copy_rowK W _ _ ty 46 4 g (i * 4) (n + 1 - i) dc ⟨vb, 0, none⟩ 1 1 1 R1 46 vs hu hsz (by rw [hW]; exact setRow_heap w _ _ _ _ _ hg) (by simp only [Nat.min_def]; split <;> omega) (by rw [hvl])
   (fun j v hj => by rw [Addr.add_lit, Nat.zero_add, World.cell?_of_block (w := w) (by rw [hW]; exact RowK.setRow_other w _ _ vb hvb)]; exact hvc j v hj)
   (by rw [hvl, ← Array.length_toList, hf3, hcl]; omega) h1v
 have hres : ∀ (W : World), W.os = w.os → W.tape = w.tape → W.output = w.output → W.heap = ((w.setRow g R1).setRow g R2).heap → W.ownsRow B 46 4 (.slice (some ⟨g, 0, none⟩) (n + 1) cap) (n + 1) (xs.take (i * 4) ++ vs ++ xs.drop (i * 4)) ∧ w.grownBy W (some g) := fun W ho ht hp hW => by
  have hlast : W.heap[g]? = some (.cells R2 46 (0, 0)) := by rw [hW]; exact setRow_heap _ _ _ _ _ _ (setRow_heap w _ _ _ _ _ hg)
  refine ⟨⟨by simp only [List.length_append, hdl, hvl, List.length_take, hxl]; omega, .inr ⟨g, cap, R2, rfl, hB, hlast, hroom, hcm, by rw [← Array.length_toList, hf2, hcl], by rw [show (n + 1) * 4 = n * 4 + 4 by omega]; exact hf1⟩⟩, ho, ht, hp, ?_, fun k hk hne => ?_⟩
  ·
   rw [hW]; simp [World.setRow]
  ·
   have hkg : k ≠ g := fun e => hne (by rw [e])
   rw [hW, RowK.setRow_other _ _ _ k hkg, RowK.setRow_other _ _ _ k hkg]
 have HRES := Lib.hid hres
 have HCA := Lib.hid hcpA
 have HCB := Lib.hid hcpB
 have HOV := Lib.hid hov
 have hz1 : ¬ ((1 : Int) = 0) := by omega
 have hz2 : ¬ ((i : Int) = (n : Int)) := by omega
 have hz3 : ¬ ((cap : Int) < (n : Int) + 1) := by omega
 unfold maxLen at hcm
 have hci : ¬ (cap = i) := by omega
 have hci1 : ¬ (cap = i + 1) := by omega
 have hw1 : IntKind.i64.wrap ((i : Int) + 1) = (i : Int) + 1 := by rw [IntKind.wrap_i64]; omega
 have hw2 : IntKind.i64.wrap ((n : Int) + 1) = (n : Int) + 1 := by rw [IntKind.wrap_i64]; omega
 have hb1 : (0 : Int) ≤ (i : Int) + 1 := by omega
 have hb2 : (0 : Int) ≤ (n : Int) + 1 := by omega
 have hin : i ≤ n := by omega
 have htn : ((i : Int) + 1).toNat = i + 1 := by omega
 have htn2 : ((n : Int) + 1).toNat = n + 1 := by omega
 have hb3 : (i : Int) ≤ (n : Int) := by omega
 have hb4 : (n : Int) + 1 ≤ (cap : Int) := by omega
 have hb5 : (i : Int) ≤ (n : Int) + 1 := by omega
 clear hres hcpA hcpB hov hf1 hf2 hf3 hcl hdl hR1 hR2 hvc hxc hxl htk hcs hg hv hsz hi0 hsz4
 have mixed : Tryd.prog.follows Departure.mixedOrders = true := by kernel_rfl
 go_enter Tryd.func41, Tryd.ntmps41
 go_wp2_with (first
  | (rw [HOV.out _ (by rfl)])
  | (refine wpList_copy_runI _ rfl _ _ 22 22 rfl _ _ rfl rfl (HCB.out _ (by rfl) _ _) ?_))
 go_region_law_o (refine step_copy_runI rfl _ _ 22 22 rfl (.slice (some ⟨g, (i + 1) * 4, none⟩) (n + 1 - (i + 1)) (cap - (i + 1))) (.slice (some ⟨g, i * 4, none⟩) (n + 1 - i) (cap - i)) (by simp [Act.eval, Act.put]) (by simp [Act.eval, Act.put]) (HCA.out _ (by rfl) 3 (cap - (i + 1)) (cap - i)) ?_)
 go_wp2_with (refine wpList_copy_runI _ rfl _ _ 22 22 rfl _ _ rfl rfl (HCB.out _ (by rfl) _ _) ?_)
 go_ret
 exact ⟨_, rfl, HRES.out _ rfl rfl rfl rfl⟩
theorem api_Part_own (B : Nat) (s : Value) (n i vb : Nat) (tv : TypeId) (xs vs : List Value) (w : World) (hs : w.ownsRow B 46 4 s n xs) (hi : i ≤ n) (hn : n ≤ 1000000) (hB : B ≤ w.heap.size)
  (h1x : ∀ u ∈ xs, u.oneCell' = true) (h1v : ∀ u ∈ vs, u.oneCell' = true) (hvl : vs.length = 4)
  (hv : w.heap[vb]? = some (.cells vs.toArray tv (0, 0))) (hvb : s.ownBlock ≠ some vb) :
  Calls Tryd.prog 41 #[s, .int .i64 i, .slice (some ⟨vb, 0, none⟩) 1 1] w fun e w' => ∃ v', e = .returned v' ∧ w'.ownsRow B 46 4 v' (n + 1) (xs.take (i * 4) ++ vs ++ xs.drop (i * 4)) ∧ w.grownBy w' s.ownBlock := by
 by_cases hin : i = n
 ·
  subst hin
  have hx := hs.1
  rw [List.take_of_length_le (by omega), List.drop_of_length_le (by omega), List.append_nil]
  exact api_Part_end B s xs vs i vb w hs hn h1v hvl (fun j u hj => by rw [cell_of_row w vb j vs.toArray _ _ hv]; simpa using hj) hB
 ·
  rcases hs.2 with ⟨rfl, rfl⟩ | ⟨g, cap, cur, rfl, hbg, hg, hnc, hcm, hcs, htk⟩
  ·
   omega
  ·
   have hne : vb ≠ g := fun e => hvb (by simp [Value.ownBlock, e])
   by_cases hroom : n + 1 ≤ cap
   ·
    exact api_Part_shift B g n cap i vb cur tv xs vs w (by omega) hn hroom hcm hbg hg hcs htk h1x h1v hvl hv hne
   ·
    exact api_Part_grow B g n cap i vb cur tv xs vs w (by omega) hn hnc (by omega) hcm hB hg hcs htk h1x h1v hvl hv hne
theorem parts_Put_uses : api_Part.f = api_Part.f := rfl
def parts_Put_put (l0 : List (S46)) (h : S46) (i : Int) (is : Bool) : Option (List (S46) × Int) :=
 if is = true then (if 0 ≤ i ∧ i < (l0.length : Int) then some (l0.set i.toNat h, 0) else none) else if 0 ≤ i ∧ i ≤ (l0.length : Int) ∧ l0.length ≤ 100000 then some (l0.take i.toNat ++ h :: l0.drop i.toNat, 0) else none
def parts_Put.f (k : Nat) (l0 : List (S46)) (a1_0 : Int) (a1_1 : Int) (a1_2 : ByteArray) (l1_3 : List (S63)) : Option (List (S46) × Int) :=
 (parts_right.f k l0).bind fun t => if t = true then ((parts_Check.f k a1_0 a1_1 a1_2 l1_3).bind fun e => if e = 0 then ((parts_own.f k l0).bind fun out => (parts_own.f k [⟨a1_0, a1_1, a1_2, l1_3⟩]).bind fun fr => if 0 < fr.length then (parts_find.f out a1_0).bind fun b => parts_Put_put out (rd_T46 fr 0) b.1 b.2 else none) else some ([], 1)) else some ([], 1)
theorem parts_Put.mono : ∀ a0 a1 a2 a3 a4 k, LeO (parts_Put.f k a0 a1 a2 a3 a4) (parts_Put.f (k + 1) a0 a1 a2 a3 a4) := by
 intro a0 a1 a2 a3 a4 k
 unfold parts_Put.f
 repeat' (with_reducible first | exact parts_right.mono _ _ | exact parts_Check.mono _ _ _ _ _ | exact parts_own.mono _ _ | exact LeO.refl _ | refine LeO.ite ?_ ?_ | refine LeO.bind ?_ (fun _ => ?_))
theorem parts_Put_flat (n : Nat) : ∀ (ps : List (List Value)) (cs : List Value), cs.length = ps.length * n → (∀ j p, ps[j]? = some p → (cs.drop (j * n)).take n = p) → cs = ps.flatten
 | [], cs, h, _ => by
  simp at h
  simp [h]
 | p :: ps, cs, h, hp => by
  have h0 := hp 0 p rfl
  rw [Nat.zero_mul, List.drop_zero] at h0
  have h1 := parts_Put_flat n ps (cs.drop n) (by rw [List.length_drop, h, List.length_cons, Nat.add_mul, Nat.one_mul]; omega) (fun j q hq => by
   have := hp (j + 1) q (by simpa using hq)
   rw [List.drop_drop, show n + j * n = (j + 1) * n by rw [Nat.add_mul, Nat.one_mul, Nat.add_comm]]
   exact this)
  rw [List.flatten_cons, ← h1, ← h0, List.take_append_drop]
theorem parts_Put_flat_get (n : Nat) : ∀ (ps : List (List Value)), (∀ c ∈ ps, c.length = n) → ∀ (j : Nat) (c : List Value), ps[j]? = some c → ∀ i u, c[i]? = some u → ps.flatten[j * n + i]? = some u
 | [], _, j, c, h, _, _, _ => by simp at h
 | p :: ps, hl, 0, c, h, i, u, hu => by
  simp at h
  subst h
  rw [List.flatten_cons, Nat.zero_mul, Nat.zero_add, List.getElem?_append_left (List.getElem?_eq_some_iff.1 hu).1]
  exact hu
 | p :: ps, hl, j + 1, c, h, i, u, hu => by
  have hpl : p.length = n := hl p (by simp)
  have h2 := parts_Put_flat_get n ps (fun c hc => hl c (by simp [hc])) j c (by simpa using h) i u hu
  rw [List.flatten_cons, List.getElem?_append_right (by rw [hpl, Nat.add_mul]; omega), hpl, show (j + 1) * n + i - n = j * n + i by rw [Nat.add_mul, Nat.one_mul]; omega]
  exact h2
theorem parts_Put_open {α : Type} {d : Kd α} {e base : Nat} {ok : Nat → Prop} {w : World} {v : Value} {xs : List α} (h : Kd.N d e w base ok v xs) : ∃ rows : List (List Value), rows.length = xs.length ∧ (∀ c ∈ rows, c.length = d.sz ∧ ∀ u ∈ c, u.oneCell' = true) ∧ w.ownsRow base e d.sz v xs.length rows.flatten ∧ ∀ (j : Nat) (x : α) (c : List Value), xs[j]? = some x → rows[j]? = some c → Kd.FK d w (fun k => ok k ∧ some k ≠ v.ownBlock) x c := by
 obtain ⟨_, rows, hl, ⟨_, inner, ho, hr⟩, hf⟩ := h
 have hr2 : ∀ j p, rows[j]? = some p → (inner.drop (j * d.sz)).take d.sz = p ∧ p.length = d.sz ∧ ∀ u ∈ p, u.oneCell' = true := fun j p hp => by
  obtain ⟨h1, h2, h3⟩ := hr.2 j p hp
  have h1' : (inner.drop (j * d.sz)).take d.sz = p := h1
  exact ⟨h1', by rw [← h1']; exact h2, fun u hu => h3 u (by rw [h1]; exact hu)⟩
 have hin := parts_Put_flat d.sz rows inner hr.1 (fun j p hp => (hr2 j p hp).1)
 refine ⟨rows, hl, fun c hc => ?_, ?_, hf⟩
 ·
  obtain ⟨j, hj⟩ := List.mem_iff_getElem?.1 hc
  exact (hr2 j c hj).2
 ·
  rw [← hin, ← hl]
  exact ho
theorem parts_Put_shut {α : Type} {d : Kd α} {e base base' : Nat} {ok : Nat → Prop} {w : World} {v : Value} {xs : List α} (rows : List (List Value)) (hl : rows.length = xs.length) (hs : ∀ c ∈ rows, c.length = d.sz) (ho : w.ownsRow base e d.sz v xs.length rows.flatten)
  (hok : ∀ k, v.ownBlock = some k → ok k) (hf : ∀ (j : Nat) (x : α) (c : List Value), xs[j]? = some x → rows[j]? = some c → Kd.FK d w ok x c) (hm : xs.length ≤ 9223372036854775807) : Kd.V d e w base' ok v xs := by
 rcases ho.2 with ⟨rfl, h0⟩ | ⟨g, cap, cur, rfl, hbg, hg, hnc, hcm, hcs, htk⟩
 ·
  obtain rfl := List.eq_nil_of_length_eq_zero h0
  exact Kd.V_nil d e w base' ok
 ·
  refine Kd.V_mk hnc (fun W' hW => ⟨rfl, hm, fun hpos => ⟨⟨g, 0, none⟩, rfl, fun j p hp => ?_⟩⟩)
  have hj : j < rows.length := by rw [hl]; exact (List.getElem?_eq_some_iff.1 hp).1
  have hc : rows[j]? = some rows[j] := List.getElem?_eq_getElem hj
  refine ⟨rows[j], hs _ (List.getElem_mem hj), hf j p _ hp hc W' hW, fun i u hu => ?_⟩
  have h1 := parts_Put_flat_get d.sz rows hs j _ hc i u hu
  have h2 := ho.cells (g := g) rfl (j * d.sz + i) u h1
  have hgl : g < w.heap.size := (Array.getElem?_eq_some_iff.1 hg).1
  rw [Addr.add_lit] at h2 ⊢
  exact (World.cell?_of_block (hW g (hok g rfl) hgl)).trans h2
theorem parts_Put_flat_take (n : Nat) : ∀ (ps : List (List Value)), (∀ c ∈ ps, c.length = n) → ∀ i, i ≤ ps.length → (ps.take i).flatten = ps.flatten.take (i * n) ∧ (ps.drop i).flatten = ps.flatten.drop (i * n)
 | ps, _, 0, _ => by simp
 | [], _, i + 1, h => by simp at h
 | p :: ps, hl, i + 1, h => by
  have hpl : p.length = n := hl p (by simp)
  obtain ⟨h1, h2⟩ := parts_Put_flat_take n ps (fun c hc => hl c (by simp [hc])) i (by simpa using h)
  refine ⟨?_, ?_⟩
  ·
   rw [List.take_succ_cons, List.flatten_cons, List.flatten_cons, h1, show (i + 1) * n = p.length + i * n by rw [hpl, Nat.add_mul]; omega, List.take_length_add_append]
  ·
   rw [List.drop_succ_cons, List.flatten_cons, h2, show (i + 1) * n = p.length + i * n by rw [hpl, Nat.add_mul]; omega, List.drop_length_add_append]
theorem parts_Put_pw_append {α β : Type} {R : α → β → Prop} {A B : List α} {A' B' : List β} (hl : A.length = A'.length) (h1 : ∀ (j : Nat) x c, A[j]? = some x → A'[j]? = some c → R x c) (h2 : ∀ (j : Nat) x c, B[j]? = some x → B'[j]? = some c → R x c) : ∀ (j : Nat) x c, (A ++ B)[j]? = some x → (A' ++ B')[j]? = some c → R x c := by
 intro j x c hx hc
 rcases Nat.lt_or_ge j A.length with h | h
 ·
  rw [List.getElem?_append_left h] at hx
  rw [List.getElem?_append_left (by omega)] at hc
  exact h1 j x c hx hc
 ·
  rw [List.getElem?_append_right h] at hx
  rw [List.getElem?_append_right (by omega), ← hl] at hc
  exact h2 _ x c hx hc
theorem parts_Put_mid {α : Type} {R : α → List Value → Prop} {xs : List α} {rows : List (List Value)} (hl : rows.length = xs.length) (hp : ∀ (j : Nat) x c, xs[j]? = some x → rows[j]? = some c → R x c) {h : α} {cs : List Value} (hh : R h cs) (i j : Nat) : ∀ (q : Nat) x c, (xs.take i ++ ([h] ++ xs.drop j))[q]? = some x → (rows.take i ++ ([cs] ++ rows.drop j))[q]? = some c → R x c := by
 refine parts_Put_pw_append (by rw [List.length_take, List.length_take, hl]) (fun q x c hx hc => ?_) (parts_Put_pw_append rfl (fun q x c hx hc => ?_) (fun q x c hx hc => ?_))
 ·
  rw [List.getElem?_take] at hx hc
  split at hx
  ·
   rename_i hq
   rw [if_pos hq] at hc
   exact hp q x c hx hc
  ·
   cases hx
 ·
  match q, hx, hc with
  | 0, hx, hc => simp at hx hc; subst hx; subst hc; exact hh
  | q + 1, hx, hc => simp at hx
 ·
  rw [List.getElem?_drop] at hx hc
  exact hp _ x c hx hc
theorem parts_Put_mid_flat (n : Nat) {rows : List (List Value)} (hs : ∀ c ∈ rows, c.length = n) (cs : List Value) (i j : Nat) (hi : i ≤ rows.length) (hj : j ≤ rows.length) : (rows.take i ++ ([cs] ++ rows.drop j)).flatten = rows.flatten.take (i * n) ++ cs ++ rows.flatten.drop (j * n) := by
 rw [List.flatten_append, List.flatten_append, (parts_Put_flat_take n rows hs i hi).1, (parts_Put_flat_take n rows hs j hj).2]
 simp
theorem parts_Put_one_C {W : World} (x : S46) {A3 : Option Addr} {c3 : Nat} (l3 : x.f3.length ≤ c3) (g3 : k63.C W A3 x.f3.length x.f3) : Kd.C k46 (W.alloc (.cells #[.int .i64 x.f0, .int .i64 x.f1, .string x.f2, .slice A3 x.f3.length c3] 46)) (some ⟨W.heap.size, 0, none⟩) 1 [x] := by
 refine ⟨rfl, by decide, fun _ => ⟨⟨W.heap.size, 0, none⟩, rfl, fun j p hp => ?_⟩⟩
 obtain ⟨rfl, rfl⟩ : j = 0 ∧ p = x := by
  match j, hp with
  | 0, hp => simp at hp; exact ⟨rfl, hp.symm⟩
  | j + 1, hp => simp at hp
 refine ⟨_, rfl, k46_mk _ p l3 (Kd.C_alloc g3 _), fun i u hu => ?_⟩
 rw [Nat.zero_mul, Nat.zero_add, Addr.add_lit, Nat.zero_add, cell_of_row _ _ _ _ _ _ (heap_alloc_new W _)]
 simpa using hu
theorem parts_Put_info4 : (Tryd.prog.info? 46).map (·.size) = some 4 := by kernel_rfl
theorem parts_Put_store {w : World} {a : Act} {op : Oper} {ty : TypeId} {p v : Operand} (ho : op.op = .store ty p v) (g o : Nat) (hp : a.eval p = .pointer (some ⟨g, o, none⟩)) (cs : Array Value) (hv : a.eval v = .agg cs) (t : TypeId) (cur : Array Value) (hg : w.heap[g]? = some (.cells cur t (0, 0))) (hfit : o + cs.size ≤ cur.size) (h1 : ∀ v ∈ cs.toList, v.oneCell' = true) (hi : (Tryd.prog.info? ty).map (·.size) = some cs.size) :
  (execOp a.eval op).run Tryd.prog w = .ok .skip (w.setRow g (cur.toList.take o ++ cs.toList ++ cur.toList.drop (o + cs.size)).toArray) := by
 have h : (storeVar ty ⟨g, o, none⟩ (.agg cs)).run Tryd.prog w = .ok () (w.setRow g (cur.toList.take o ++ cs.toList ++ cur.toList.drop (o + cs.size)).toArray) := by
  cases hq : Tryd.prog.info? ty with
  | none => simp [hq] at hi
  | some i =>
   have hz : i.size = cs.size := by simpa [hq] using hi
   have hst := run_storeCells_at (P := Tryd.prog) g o t cs.toList 0 cur w hg (by simpa using hfit) h1
   rw [Nat.add_zero, Array.length_toList] at hst
   have hc : (Value.agg cs).cells = cs := rfl
   simp [storeVar, hc, sizeOf, typeInfo, hq, hz, hst, Sem.run_bind]
 unfold execOp
 simp only [ho, hp, hv, Instr.storeAt, Instr.sureAddr, Sem.run_bind, Sem.run_pure, Result.andThen_ok, h]
theorem parts_Put_stop {p : Prop} (h : Aside0 p) : p := h.out
set_option maxRecDepth 100000 in
set_option maxHeartbeats 8000000 in
theorem parts_Put_n1 (k : Nat) (A0 : Option Addr) (c0 : Nat) (l0 : List (S46)) (a1_0 : Int) (a1_1 : Int) (a1_2 : ByteArray) (A1_3 : Option Addr) (c1_3 n1_3 : Nat) (w : World) (hr0 : Kd.C k46 w A0 l0.length l0) (hc0 : l0.length ≤ c0) (hri : parts_right.f k l0 = some false) :
  Calls Tryd.prog 16 #[.slice A0 l0.length c0, .agg #[.int .i64 a1_0, .int .i64 a1_1, .string a1_2, .slice A1_3 n1_3 c1_3]] w fun e w' => e = .returned (.tuple #[.slice none 0 0, .int .i64 1]) ∧ Below w.heap.size w w' := by
 have HR0 := am hr0
 have HC0 := am hc0
 have HRI := am hri
 clear hr0 hc0 hri
 go_enter Tryd.func16, Tryd.ntmps16
 go_wp2_with (go_at_call 29; refine parts_Put_stop ?_)
 refine am ?_
 refine (parts_right.calls k A0 c0 l0 false _ (Kd.C_alloc HR0.out _) HC0.out HRI.out).mono ?_
 rintro e w2 ⟨rfl, hb⟩
 have HB := am (below_step (below_alloc (Below.refl w.heap.size w) _) hb)
 clear hb
 go_wp2
 go_ret2
 exact ⟨rfl, HB.out⟩
set_option maxRecDepth 100000 in
set_option maxHeartbeats 8000000 in
theorem parts_Put_n2 (k : Nat) (A0 : Option Addr) (c0 : Nat) (l0 : List (S46)) (a1_0 : Int) (a1_1 : Int) (a1_2 : ByteArray) (A1_3 : Option Addr) (c1_3 : Nat) (l1_3 : List (S63)) (w : World) (hr0 : Kd.C k46 w A0 l0.length l0) (hc0 : l0.length ≤ c0) (hr1 : Kd.C k63 w A1_3 l1_3.length l1_3) (hc1 : l1_3.length ≤ c1_3) (hri : parts_right.f k l0 = some true) (ec : Int) (hec : ec ≠ 0) (hch : parts_Check.f k a1_0 a1_1 a1_2 l1_3 = some ec) :
  Calls Tryd.prog 16 #[.slice A0 l0.length c0, .agg #[.int .i64 a1_0, .int .i64 a1_1, .string a1_2, .slice A1_3 l1_3.length c1_3]] w fun e w' => e = .returned (.tuple #[.slice none 0 0, .int .i64 1]) ∧ Below w.heap.size w w' := by
 have HR0 := am hr0
 have HC0 := am hc0
 have HR1 := am hr1
 have HC1 := am hc1
 have HRI := am hri
 have HCH := am hch
 have hec' : (ec == 0) = false := by simpa using hec
 clear hr0 hc0 hri hr1 hc1 hch
 go_enter Tryd.func16, Tryd.ntmps16
 go_wp2_with (go_at_call 29; refine parts_Put_stop ?_)
 refine am ?_
 refine (parts_right.calls k A0 c0 l0 true _ (Kd.C_alloc HR0.out _) HC0.out HRI.out).mono ?_
 rintro e w2 ⟨rfl, hb⟩
 have HB := am (below_step (below_alloc (Below.refl w.heap.size w) _) hb)
 have hbx : w2.heap[w.heap.size]? = some (.cells #[.int .i64 a1_0, .int .i64 a1_1, .string a1_2, .slice A1_3 l1_3.length c1_3] 46 (0, 0)) := (hb.block _ (by simp)).trans (heap_alloc_new w _)
 have x0 : w2.cell? ⟨w.heap.size, 0, none⟩ = some (.int .i64 a1_0) := cell_of_row _ _ _ _ _ _ hbx
 have x1 : w2.cell? ⟨w.heap.size, 1, none⟩ = some (.int .i64 a1_1) := cell_of_row _ _ _ _ _ _ hbx
 have x2 : w2.cell? ⟨w.heap.size, 2, none⟩ = some (.string a1_2) := cell_of_row _ _ _ _ _ _ hbx
 have x3 : w2.cell? ⟨w.heap.size, 3, none⟩ = some (.slice A1_3 l1_3.length c1_3) := cell_of_row _ _ _ _ _ _ hbx
 clear hb hbx
 go_wp2_with (go_at_call 19; refine parts_Put_stop ?_)
 refine am ?_
 refine (parts_Check.calls k a1_0 a1_1 a1_2 A1_3 c1_3 l1_3 ec _ (Kd.C_below HR1.out HB.out) HC1.out HCH.out).mono ?_
 rintro e w3 ⟨rfl, hb3⟩
 have HB3 := am (below_step HB.out hb3)
 clear hb3 x0 x1 x2 x3
 go_wp2
 go_ret2
 exact ⟨rfl, HB3.out⟩
set_option maxRecDepth 100000 in
set_option maxHeartbeats 8000000 in
theorem parts_Put_ok (k : Nat) (A0 : Option Addr) (c0 : Nat) (l0 : List (S46)) (a1_0 : Int) (a1_1 : Int) (a1_2 : ByteArray) (A1_3 : Option Addr) (c1_3 : Nat) (l1_3 : List (S63)) (w : World) (hr0 : Kd.C k46 w A0 l0.length l0) (hc0 : l0.length ≤ c0) (hr1 : Kd.C k63 w A1_3 l1_3.length l1_3) (hc1 : l1_3.length ≤ c1_3) (hri : parts_right.f k l0 = some true) (hch : parts_Check.f k a1_0 a1_1 a1_2 l1_3 = some 0)
  (out fr : List (S46)) (hout : parts_own.f k l0 = some out) (hfr : parts_own.f k [⟨a1_0, a1_1, a1_2, l1_3⟩] = some fr) (hfl : 0 < fr.length) (b1 : Int) (b2 : Bool) (hfi : parts_find.f out a1_0 = some (b1, b2)) (r1 : List (S46)) (r2 : Int) (hput : parts_Put_put out (rd_T46 fr 0) b1 b2 = some (r1, r2)) :
  Calls Tryd.prog 16 #[.slice A0 l0.length c0, .agg #[.int .i64 a1_0, .int .i64 a1_1, .string a1_2, .slice A1_3 l1_3.length c1_3]] w fun e w' => ∃ v0_ : Value, e = .returned (.tuple #[v0_, .int .i64 r2]) ∧ Kd.V k46 46 w' w.heap.size (fun k_ => (w.heap.size ≤ k_)) v0_ r1 ∧ Below w.heap.size w w' := by
 have HR0 := am hr0
 have HC0 := am hc0
 have HR1 := am hr1
 have HC1 := am hc1
 have HRI := am hri
 have HCH := am hch
 have HOUT := am hout
 have HFR := am hfr
 have HFI := am hfi
 have HPUT := am hput
 have HFL := am hfl
 clear hr0 hc0 hri hr1 hc1 hch hout hfr hfi hput hfl
 go_enter Tryd.func16, Tryd.ntmps16
 go_wp2_with (go_at_call 29; refine parts_Put_stop ?_)
 refine am ?_
 refine (parts_right.calls k A0 c0 l0 true _ (Kd.C_alloc HR0.out _) HC0.out HRI.out).mono ?_
 rintro e w2 ⟨rfl, hb⟩
 have HB := am (below_step (below_alloc (Below.refl w.heap.size w) _) hb)
 have hbx : w2.heap[w.heap.size]? = some (.cells #[.int .i64 a1_0, .int .i64 a1_1, .string a1_2, .slice A1_3 l1_3.length c1_3] 46 (0, 0)) := (hb.block _ (by simp)).trans (heap_alloc_new w _)
 have HBX := am hbx
 have x0 : w2.cell? ⟨w.heap.size, 0, none⟩ = some (.int .i64 a1_0) := cell_of_row _ _ _ _ _ _ hbx
 have x1 : w2.cell? ⟨w.heap.size, 1, none⟩ = some (.int .i64 a1_1) := cell_of_row _ _ _ _ _ _ hbx
 have x2 : w2.cell? ⟨w.heap.size, 2, none⟩ = some (.string a1_2) := cell_of_row _ _ _ _ _ _ hbx
 have x3 : w2.cell? ⟨w.heap.size, 3, none⟩ = some (.slice A1_3 l1_3.length c1_3) := cell_of_row _ _ _ _ _ _ hbx
 clear hb hbx
 go_wp2_with (go_at_call 19; refine parts_Put_stop ?_)
 refine am ?_
 refine (parts_Check.calls k a1_0 a1_1 a1_2 A1_3 c1_3 l1_3 0 _ (Kd.C_below HR1.out HB.out) HC1.out HCH.out).mono ?_
 rintro e w3 ⟨rfl, hb3⟩
 have HB3 := am (below_step HB.out hb3)
 have HBX3 := am ((hb3.block _ (Array.getElem?_eq_some_iff.1 HBX.out).1).trans HBX.out)
 clear hb3 x0 x1 x2 x3
 go_wp2_with (go_at_call 40; refine parts_Put_stop ?_)
 refine am ?_
 refine (parts_own.calls k A0 c0 l0 out _ (Kd.C_below HR0.out HB3.out) HC0.out HOUT.out).mono ?_
 rintro e w4 ⟨v4, rfl, hs4, hb4⟩
 have HB4 := am (below_step HB3.out hb4)
 have HBX4 := am ((hb4.block _ (Array.getElem?_eq_some_iff.1 HBX3.out).1).trans HBX3.out)
 have HN4 := am (Kd.N_lower (Kd.N_mono (ok' := fun k => w.heap.size ≤ k) (Kd.S_N (Kd.S_bound hs4)) (fun k hk => Nat.le_trans HB3.out.size hk.2.1)) HB3.out.size)
 clear hb4 hs4
 have y0 : w4.cell? ⟨w.heap.size, 0, none⟩ = some (.int .i64 a1_0) := cell_of_row _ _ _ _ _ _ HBX4.out
 have y1 : w4.cell? ⟨w.heap.size, 1, none⟩ = some (.int .i64 a1_1) := cell_of_row _ _ _ _ _ _ HBX4.out
 have y2 : w4.cell? ⟨w.heap.size, 2, none⟩ = some (.string a1_2) := cell_of_row _ _ _ _ _ _ HBX4.out
 have y3 : w4.cell? ⟨w.heap.size, 3, none⟩ = some (.slice A1_3 l1_3.length c1_3) := cell_of_row _ _ _ _ _ _ HBX4.out
 go_wp2_with (go_at_call 40; refine parts_Put_stop ?_)
 refine am ?_
 refine (parts_own.calls k (some ⟨w4.heap.size, 0, none⟩) 1 [⟨a1_0, a1_1, a1_2, l1_3⟩] fr _ (parts_Put_one_C ⟨a1_0, a1_1, a1_2, l1_3⟩ HC1.out (Kd.C_below HR1.out HB4.out)) (by simp) HFR.out).mono ?_
 rintro e w5 ⟨v5, rfl, hs5, hb5⟩
 have hb5' := Below.trans ((Below.refl w4.heap.size w4).alloc (Nat.le_refl _) (.cells #[.int .i64 a1_0, .int .i64 a1_1, .string a1_2, .slice A1_3 l1_3.length c1_3] 46)) (hb5.mono (by simp))
 have HB5 := am (below_step HB4.out hb5')
 have HBX5 := am ((hb5'.block _ (Array.getElem?_eq_some_iff.1 HBX4.out).1).trans HBX4.out)
 have HN5 := am (Kd.N_below HN4.out hb5')
 have hlt4 : ∀ kk, v4.ownBlock = some kk → kk < w4.heap.size := Kd.N_lt HN4.out
 have hV5 := Kd.V_mono (Kd.S_V (base' := w.heap.size) (Kd.S_bound hs5)) (ok' := fun k => w.heap.size ≤ k ∧ some k ≠ v4.ownBlock) (fun k hk => ⟨Nat.le_trans HB4.out.size (by have := hk.2.1; simp at this; omega), fun e => by have := hlt4 k e.symm; have := hk.2.1; simp at this; omega⟩)
 obtain ⟨g5, cap5, hv5, hbg5, hlt5, _⟩ := Kd.S_form hs5 HFL.out
 subst hv5
 obtain ⟨ce, hcel, hF5, hcc5⟩ := Kd.V_get hV5 z46 0 (by decide) (by have := HFL.out; omega)
 obtain ⟨fA, fc, rfl, fl, fF⟩ := k46_openF hF5
 obtain ⟨h, hh⟩ : ∃ h, rd_T46 fr 0 = h := ⟨_, rfl⟩
 have hh' : fr.getD (0 : Int).toNat z46 = h := hh
 rw [hh'] at fl fF hcc5
 have HF5 := am fF
 have HFl := am fl
 have HPUT2 := HPUT.out
 rw [hh] at HPUT2
 have z0 : w5.cell? ⟨g5, 0, none⟩ = some (.int .i64 h.f0) := hcc5 0 _ rfl
 have z1 : w5.cell? ⟨g5, 1, none⟩ = some (.int .i64 h.f1) := hcc5 1 _ rfl
 have z2 : w5.cell? ⟨g5, 2, none⟩ = some (.string h.f2) := hcc5 2 _ rfl
 have z3 : w5.cell? ⟨g5, 3, none⟩ = some (.slice fA h.f3.length fc) := hcc5 3 _ rfl
 have hp5 : 0 < fr.length := HFL.out
 have HQ := am (heap_alloc_new w5 (.cells #[.int .i64 0, .int .i64 0, .string ⟨#[]⟩, .slice none 0 0] 46))
 have HPUT3 := am HPUT2
 clear hb5 hb5' hs5 hV5 hF5 hcc5 hh hh' y0 y1 y2 y3 fl fF HPUT2 HPUT hcel
 go_wp2_with ((with_reducible refine gate_store (t := 46) (p := 7) rfl ?_); refine parts_Put_stop ?_)
 refine am ?_
 refine store_event (t := 46) (p := 7) (v := ?vo1) (w1 := (w5.alloc (.cells #[.int .i64 0, .int .i64 0, .string ⟨#[]⟩, .slice none 0 0] 46)).setRow w5.heap.size #[.int .i64 h.f0, .int .i64 h.f1, .string h.f2, .slice fA h.f3.length fc]) ?hg1 ?ho1 ?hn1 ?hr1 ?_
 case ho1 => rfl
 case hg1 => rfl
 case hn1 => rfl
 case hr1 => exact Sha.store_row_run rfl w5.heap.size rfl #[.int .i64 h.f0, .int .i64 h.f1, .string h.f2, .slice fA h.f3.length fc] rfl 46 _ HQ.out rfl (by simp [Value.oneCell']) parts_Put_info4
 intro w6 hw6
 have hb6 : Below w5.heap.size w5 w6 := by rw [hw6]; exact Sha.setRow_below _ _ _ _ _ ((Below.refl _ _).alloc (Nat.le_refl _) _) (Nat.le_refl _)
 have hf6 : w6.heap[w5.heap.size]? = some (.cells #[.int .i64 h.f0, .int .i64 h.f1, .string h.f2, .slice fA h.f3.length fc] 46 (0, 0)) := by rw [hw6]; exact setRow_heap _ _ _ _ _ _ HQ.out
 have HB6 := am (below_step HB5.out hb6)
 have HBX6 := am ((hb6.block _ (Array.getElem?_eq_some_iff.1 HBX5.out).1).trans HBX5.out)
 have HN6 := am (Kd.N_below HN5.out hb6)
 have HF6 := am (Kd.F_below HF5.out hb6)
 have HFB6 := am hf6
 have hlt5 : ∀ kk, v4.ownBlock = some kk → kk < w5.heap.size := Kd.N_lt HN5.out
 have HLT5 := am hlt5
 have x0 : w6.cell? ⟨w.heap.size, 0, none⟩ = some (.int .i64 a1_0) := cell_of_row _ _ _ _ _ _ HBX6.out
 obtain ⟨A4, c4, hv4⟩ := Kd.V_slice (Kd.N_V (base' := 0) HN6.out)
 subst hv4
 have HC6 := am (Kd.V_reads' (Kd.N_V (base' := 0) HN6.out))
 clear hw6 hb6 hf6 z0 z1 z2 z3 hlt4 hlt5
 go_wp2_with (go_at_call 30; refine parts_Put_stop ?_)
 refine am ?_
 refine (parts_find.calls A4 c4 out a1_0 b1 b2 _ HC6.out.2.2 HC6.out.2.1 HFI.out).mono ?_
 rintro e w7 ⟨rfl, hb7⟩
 have HB7 := am (below_step HB6.out hb7)
 have HN7 := am (Kd.N_below HN6.out hb7)
 have HF7 := am (Kd.F_below HF6.out hb7)
 have hf7 := (hb7.block _ (Array.getElem?_eq_some_iff.1 HFB6.out).1).trans HFB6.out
 have f0 : w7.cell? ⟨w5.heap.size, 0, none⟩ = some (.int .i64 h.f0) := cell_of_row _ _ _ _ _ _ hf7
 have f1 : w7.cell? ⟨w5.heap.size, 1, none⟩ = some (.int .i64 h.f1) := cell_of_row _ _ _ _ _ _ hf7
 have f2 : w7.cell? ⟨w5.heap.size, 2, none⟩ = some (.string h.f2) := cell_of_row _ _ _ _ _ _ hf7
 have f3 : w7.cell? ⟨w5.heap.size, 3, none⟩ = some (.slice fA h.f3.length fc) := cell_of_row _ _ _ _ _ _ hf7
 have hw7 : w.heap.size ≤ w7.heap.size := HB7.out.size
 clear hb7 hf7 x0
 obtain ⟨rows, hrl, hrs, hro, hrf⟩ := parts_Put_open HN7.out
 have HROW := am (And.intro hrl (And.intro hrs (And.intro hro hrf)))
 have hone : ∀ u ∈ rows.flatten, u.oneCell' = true := fun u hu => by
  obtain ⟨c, hc, hu⟩ := List.mem_flatten.1 hu
  exact (hrs c hc).2 u hu
 have HONE := am hone
 have hfk : Kd.FK k46 w7 (fun k => w.heap.size ≤ k ∧ some k ≠ (Value.slice A4 out.length c4).ownBlock) h [.int .i64 h.f0, .int .i64 h.f1, .string h.f2, .slice fA h.f3.length fc] := k46_mkF _ _ h HFl.out HF7.out
 have HFK := am hfk
 clear hrl hrs hro hrf hone hfk
 cases b2 with
 | true =>
  have hp := HPUT3.out
  unfold parts_Put_put at hp
  rw [if_pos rfl] at hp
  split at hp
  ·
   rename_i hc
   obtain ⟨hc0, hc1⟩ := hc
   simp only [Option.some.injEq, Prod.mk.injEq] at hp
   obtain ⟨i, rfl⟩ := Int.eq_ofNat_of_zero_le hc0
   rw [Int.toNat_natCast] at hp
   obtain ⟨hr1, hr2⟩ := hp
   subst hr2
   have hin : i < out.length := by omega
   have HR := am hr1
   clear hr1 hc0
   obtain ⟨hrl, hrs, hro, hrf⟩ := HROW.out
   rcases hro.2 with ⟨_, h0⟩ | ⟨g4, cap, cur, hv, hbg4, hg4, hnc, hcm, hcs, htk⟩
   ·
    omega
   ·
    injection hv with hA _ hC
    subst hA
    subst hC
    have hcs' : cur.size = c4 * 4 := hcs
    have htk' : cur.toList.take (out.length * 4) = rows.flatten := htk
    have HX := am (And.intro hbg4 (And.intro hg4 (And.intro hnc (And.intro hcm (And.intro hcs' htk')))))
    have hp0 : (0 : Int) ≤ i := by omega
    clear hrl hrs hro hrf hbg4 hg4 hnc hcm hcs htk hcs' htk'
    go_wp2_with ((with_reducible refine gate_store (t := 46) (p := 36) rfl ?_); refine parts_Put_stop ?_)
    refine am ?_
    refine store_event (t := 46) (p := 36) (v := ?vo2) (w1 := w7.setRow g4 (cur.toList.take (i * 4) ++ (#[.int .i64 h.f0, .int .i64 h.f1, .string h.f2, .slice fA h.f3.length fc] : Array Value).toList ++ cur.toList.drop (i * 4 + 4)).toArray) ?hg2 ?ho2 ?hn2 ?hr2 ?_
    case ho2 => rfl
    case hg2 => rfl
    case hn2 => rfl
    case hr2 => exact parts_Put_store rfl g4 (i * 4) (by simp [Act.eval, Act.put, Addr.add]) #[.int .i64 h.f0, .int .i64 h.f1, .string h.f2, .slice fA h.f3.length fc] rfl 46 cur HX.out.2.1 (by have := HX.out; show i * 4 + 4 ≤ cur.size; omega) (by simp [Value.oneCell']) parts_Put_info4
    intro w8 hw8
    obtain ⟨hrl, hrs, hro, hrf⟩ := HROW.out
    obtain ⟨q1, q2, q3, q4, q5, q6⟩ := HX.out
    have hfl : rows.flatten.length = out.length * 4 := hro.1
    have hb8 : Below w.heap.size w w8 := by rw [hw8]; exact Sha.setRow_below _ _ _ _ _ HB7.out q1
    have hlen : r1.length = out.length := by rw [← HR.out, List.length_set]
    have er : r1 = out.take i ++ ([h] ++ out.drop (i + 1)) := by
     rw [← HR.out, List.set_eq_take_append_cons_drop, if_pos hin]
     simp
    have hcur : ∀ j, j ≤ out.length * 4 → cur.toList.take j = rows.flatten.take j := fun j hj => by rw [← q6, List.take_take, Nat.min_eq_left hj]
    have ho8 : w8.ownsRow w.heap.size 46 4 (.slice (some ⟨g4, 0, none⟩) out.length c4) out.length (rows.flatten.take (i * 4) ++ ([.int .i64 h.f0, .int .i64 h.f1, .string h.f2, .slice fA h.f3.length fc] : List Value) ++ rows.flatten.drop ((i + 1) * 4)) := by
     refine ⟨?_, .inr ⟨g4, c4, _, rfl, q1, by rw [hw8]; exact setRow_heap _ _ _ _ _ _ q2, q3, q4, ?_, ?_⟩⟩
     ·
      have e4 : ∀ l : List Value, (rows.flatten.take (i * 4) ++ l ++ rows.flatten.drop ((i + 1) * 4)).length = min (i * 4) (out.length * 4) + l.length + (out.length * 4 - (i + 1) * 4) := fun l => by rw [List.length_append, List.length_append, List.length_take, List.length_drop, hfl]
      rw [e4]
      show min (i * 4) (out.length * 4) + 4 + (out.length * 4 - (i + 1) * 4) = out.length * 4
      omega
     ·
      have e4 : ∀ l : List Value, ((cur.toList.take (i * 4) ++ l ++ cur.toList.drop (i * 4 + 4)).toArray).size = min (i * 4) cur.size + l.length + (cur.size - (i * 4 + 4)) := fun l => by rw [List.size_toArray, List.length_append, List.length_append, List.length_take, List.length_drop, Array.length_toList]
      rw [e4]
      show min (i * 4) cur.size + 4 + (cur.size - (i * 4 + 4)) = c4 * 4
      omega
     ·
      have e1 : cur.toList.take (i * 4) = rows.flatten.take (i * 4) := hcur _ (by omega)
      have e2 : (cur.toList.drop (i * 4 + 4)).take (out.length * 4 - (i * 4 + 4)) = rows.flatten.drop ((i + 1) * 4) := by
       rw [← q6, List.drop_take, show (i + 1) * 4 = i * 4 + 4 by omega]
      have e3 : (cur.toList.take (i * 4) ++ ([.int .i64 h.f0, .int .i64 h.f1, .string h.f2, .slice fA h.f3.length fc] : List Value)).length = i * 4 + 4 := by rw [List.length_append, List.length_take, Array.length_toList]; show min (i * 4) cur.size + 4 = i * 4 + 4; omega
      show (cur.toList.take (i * 4) ++ ([.int .i64 h.f0, .int .i64 h.f1, .string h.f2, .slice fA h.f3.length fc] : List Value) ++ cur.toList.drop (i * 4 + 4)).take (out.length * 4) = _
      rw [List.take_append, e3, List.take_of_length_le (by rw [e3]; omega), e1, e2]
    have hst : ∀ {x : S46} {c : List Value}, Kd.FK k46 w7 (fun k => w.heap.size ≤ k ∧ some k ≠ (Value.slice (some ⟨g4, 0, none⟩) out.length c4).ownBlock) x c → Kd.FK k46 w8 (fun k => w.heap.size ≤ k) x c := fun hq => by
     have hg8 : w7.grownBy w8 (some g4) := by rw [hw8]; exact ⟨rfl, rfl, rfl, by simp [World.setRow], fun k _ hk => setRow_other w7 g4 k _ (fun e => hk (by rw [e]))⟩
     exact Kd.FK_mono (Kd.FK_grown hq hg8 (fun k hk => hk.2)) (fun k hk => hk.1)
    have v1 : (rows.take i ++ ([([.int .i64 h.f0, .int .i64 h.f1, .string h.f2, .slice fA h.f3.length fc] : List Value)] ++ rows.drop (i + 1))).length = r1.length := by
     rw [hlen, List.length_append, List.length_append, List.length_take, List.length_drop]
     simp
     omega
    have v2 : ∀ c ∈ (rows.take i ++ ([([.int .i64 h.f0, .int .i64 h.f1, .string h.f2, .slice fA h.f3.length fc] : List Value)] ++ rows.drop (i + 1))), c.length = k46.sz := by
     intro c hc
     rw [List.mem_append, List.mem_append] at hc
     rcases hc with hc | hc | hc
     ·
      exact (hrs c (List.mem_of_mem_take hc)).1
     ·
      simp at hc
      subst hc
      rfl
     ·
      exact (hrs c (List.mem_of_mem_drop hc)).1
    have v3 : w8.ownsRow w.heap.size 46 k46.sz (.slice (some ⟨g4, 0, none⟩) out.length c4) r1.length (rows.take i ++ ([([.int .i64 h.f0, .int .i64 h.f1, .string h.f2, .slice fA h.f3.length fc] : List Value)] ++ rows.drop (i + 1))).flatten := by
     rw [hlen, parts_Put_mid_flat 4 (fun c hc => (hrs c hc).1) _ i (i + 1) (by omega) (by omega)]
     exact ho8
    have v4 := parts_Put_mid (R := fun x c => Kd.FK k46 w8 (fun k => w.heap.size ≤ k) x c) hrl (fun j x c hx hc => hst (hrf j x c hx hc)) (hst HFK.out) i (i + 1)
    rw [← er] at v4
    have HV8 : Aside0 (Kd.V k46 46 w8 w.heap.size (fun k_ => w.heap.size ≤ k_) (.slice (some ⟨g4, 0, none⟩) out.length c4) r1) := am (parts_Put_shut (base' := w.heap.size) _ v1 v2 v3 (fun kk e => (ho8.lt kk e).1) v4 (by rw [hlen]; unfold maxLen at q4; omega))
    have HB8 := am hb8
    clear hrl hrs hro hrf ho8 hb8 hst hlen er v1 v2 v3 v4 hcur hfl q1 q2 q3 q4 q5 q6 hw8
    go_wp2
    go_ret2
    exact ⟨_, rfl, HV8.out, HB8.out⟩
  ·
   cases hp
 | false =>
  have hp := HPUT3.out
  unfold parts_Put_put at hp
  rw [if_neg (by decide)] at hp
  split at hp
  ·
   rename_i hc
   obtain ⟨hc0, hc1, hc2⟩ := hc
   simp only [Option.some.injEq, Prod.mk.injEq] at hp
   obtain ⟨i, rfl⟩ := Int.eq_ofNat_of_zero_le hc0
   rw [Int.toNat_natCast] at hp
   obtain ⟨hr1, hr2⟩ := hp
   subst hr2
   have HR := am hr1
   have HI := am (And.intro hc1 hc2)
   clear hr1 hc0 hc1 hc2
   go_wp2_with (go_at_call 41; refine parts_Put_stop ?_)
   refine am ?_
   obtain ⟨hrl, hrs, hro, hrf⟩ := HROW.out
   have hro' : w7.ownsRow w.heap.size 46 4 (.slice A4 out.length c4) out.length rows.flatten := hro
   refine (api_Part_own w.heap.size (.slice A4 out.length c4) out.length i w7.heap.size 46 rows.flatten [.int .i64 h.f0, .int .i64 h.f1, .string h.f2, .slice fA h.f3.length fc] _ (hro'.alloc _) (by have := HI.out; omega) (by have := HI.out; omega) (by simp; omega) HONE.out (by simp [Value.oneCell']) rfl (heap_alloc_new w7 _) (fun e => by have := (hro'.lt _ e).2; omega)).mono ?_
   rintro e w8 ⟨v8, rfl, ho8, hg8⟩
   have hb8 : Below w.heap.size w w8 := (HB7.out.alloc HB7.out.size _).grown hg8 (by simp; omega) (fun kk e => (hro'.lt kk e).1)
   have hst : ∀ {x : S46} {c : List Value}, Kd.FK k46 w7 (fun k => w.heap.size ≤ k ∧ some k ≠ (Value.slice A4 out.length c4).ownBlock) x c → Kd.FK k46 w8 (fun k => w.heap.size ≤ k) x c := fun hq => Kd.FK_mono (Kd.FK_grown (Kd.FK_below hq ((Below.refl _ w7).alloc (Nat.le_refl _) _)) hg8 (fun k hk => hk.2)) (fun k hk => hk.1)
   have hlen : r1.length = out.length + 1 := by rw [← HR.out, List.length_append, List.length_cons, List.length_take, List.length_drop]; have := HI.out; omega
   have er : r1 = out.take i ++ ([h] ++ out.drop i) := by rw [← HR.out]; simp
   have v1 : (rows.take i ++ ([([.int .i64 h.f0, .int .i64 h.f1, .string h.f2, .slice fA h.f3.length fc] : List Value)] ++ rows.drop i)).length = r1.length := by
    rw [hlen, List.length_append, List.length_append, List.length_take, List.length_drop]
    have := HI.out
    simp
    omega
   have v2 : ∀ c ∈ (rows.take i ++ ([([.int .i64 h.f0, .int .i64 h.f1, .string h.f2, .slice fA h.f3.length fc] : List Value)] ++ rows.drop i)), c.length = k46.sz := by
    intro c hc
    rw [List.mem_append, List.mem_append] at hc
    rcases hc with hc | hc | hc
    ·
     exact (hrs c (List.mem_of_mem_take hc)).1
    ·
     simp at hc
     subst hc
     rfl
    ·
     exact (hrs c (List.mem_of_mem_drop hc)).1
   have v3 : w8.ownsRow w.heap.size 46 k46.sz v8 r1.length (rows.take i ++ ([([.int .i64 h.f0, .int .i64 h.f1, .string h.f2, .slice fA h.f3.length fc] : List Value)] ++ rows.drop i)).flatten := by
    rw [hlen, parts_Put_mid_flat 4 (fun c hc => (hrs c hc).1) _ i i (by have := HI.out; omega) (by have := HI.out; omega)]
    exact ho8
   have v4 := parts_Put_mid (R := fun x c => Kd.FK k46 w8 (fun k => w.heap.size ≤ k) x c) hrl (fun j x c hx hc => hst (hrf j x c hx hc)) (hst HFK.out) i i
   rw [← er] at v4
   have HV8 : Aside0 (Kd.V k46 46 w8 w.heap.size (fun k_ => w.heap.size ≤ k_) v8 r1) := am (parts_Put_shut (base' := w.heap.size) _ v1 v2 v3 (fun kk e => (ho8.lt kk e).1) v4 (by have := HI.out; omega))
   have HB8 := am hb8
   clear hrl hrs hro hrf hro' ho8 hg8 hb8 hst hlen er v1 v2 v3 v4
   go_wp2
   go_ret2
   exact ⟨v8, rfl, HV8.out, HB8.out⟩
  ·
   cases hp
theorem parts_Put.calls (k : Nat) (A0 : Option Addr) (c0 : Nat) (l0 : List (S46)) (a1_0 : Int) (a1_1 : Int) (a1_2 : ByteArray) (A1_3 : Option Addr) (c1_3 : Nat) (l1_3 : List (S63)) (r1 : List (S46)) (r2 : Int) (w : World) (hr0 : Kd.C k46 w A0 l0.length l0) (hc0 : l0.length ≤ c0) (hr1_3 : Kd.C k63 w A1_3 l1_3.length l1_3) (hc1_3 : l1_3.length ≤ c1_3) (h : parts_Put.f k l0 a1_0 a1_1 a1_2 l1_3 = some (r1, r2)) :
  Calls Tryd.prog 16 #[.slice A0 l0.length c0, .agg #[.int .i64 a1_0, .int .i64 a1_1, .string a1_2, .slice A1_3 l1_3.length c1_3]] w fun e w' => ∃ v0_ : Value, e = .returned (.tuple #[v0_, .int .i64 r2]) ∧ Kd.V k46 46 w' w.heap.size (fun k_ => (w.heap.size ≤ k_)) v0_ r1 ∧ Below w.heap.size w w' := by
 unfold parts_Put.f at h
 obtain ⟨t, ht, h⟩ := Option.bind_eq_some_iff.1 h
 cases t with
 | false =>
  rw [if_neg (by decide)] at h
  simp only [Option.some.injEq, Prod.mk.injEq] at h
  obtain ⟨rfl, rfl⟩ := h
  exact (parts_Put_n1 k A0 c0 l0 a1_0 a1_1 a1_2 A1_3 c1_3 _ w hr0 hc0 ht).mono fun e w' ⟨h1, h2⟩ => ⟨_, h1, Kd.V_nil _ _ _ _ _, h2⟩
 | true =>
  rw [if_pos rfl] at h
  obtain ⟨ec, hec, h⟩ := Option.bind_eq_some_iff.1 h
  by_cases h0 : ec = 0
  ·
   subst h0
   rw [if_pos rfl] at h
   obtain ⟨out, hout, h⟩ := Option.bind_eq_some_iff.1 h
   obtain ⟨fr, hfr, h⟩ := Option.bind_eq_some_iff.1 h
   split at h
   ·
    rename_i hfl
    obtain ⟨⟨b1, b2⟩, hfi, h⟩ := Option.bind_eq_some_iff.1 h
    exact parts_Put_ok k A0 c0 l0 a1_0 a1_1 a1_2 A1_3 c1_3 l1_3 w hr0 hc0 hr1_3 hc1_3 ht hec out fr hout hfr hfl b1 b2 hfi r1 r2 h
   ·
    cases h
  ·
   rw [if_neg h0] at h
   simp only [Option.some.injEq, Prod.mk.injEq] at h
   obtain ⟨rfl, rfl⟩ := h
   exact (parts_Put_n2 k A0 c0 l0 a1_0 a1_1 a1_2 A1_3 c1_3 l1_3 w hr0 hc0 hr1_3 hc1_3 ht ec h0 hec).mono fun e w' ⟨h1, h2⟩ => ⟨_, h1, Kd.V_nil _ _ _ _ _, h2⟩
end Go.Proofs.YtoiockmmlanimaaDoor.Op
end
