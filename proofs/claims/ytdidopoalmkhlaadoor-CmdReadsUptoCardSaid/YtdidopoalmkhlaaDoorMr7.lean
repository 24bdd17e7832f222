/- Merged of several texts of this session's by merge.py. -/
import Derived.Test.YtdidopoalmkhlaaDoorMr3
import Derived.Test.YtdidopoalmkhlaaDoorMr5
import Derived.Test.YtdidopoalmkhlaaDoorMr6
import Derived.Test.YtdidopoalmkhlaaDoorMr4
import Derived.IntWalk
import Derived.Laws.Bits64b
import Derived.Lib.IndexMore
section
namespace Go.Proofs.YtdidopoalmkhlaaDoor.Or
open Go.RowKit Go.Proofs.YtdidopoalmkhlaaDoorW.PrintWords Go.Proofs.YtdidopoalmkhlaaDoorW.PrintLast Go.Proofs.YtdidopoalmkhlaaDoorW.PrintMore
attribute [local go_sem] max2_int min2_int max_two min_two max_three min_three max_four min_four
set_option linter.unusedVariables false
set_option linter.unusedSimpArgs false
mutual
def stowageref16_Decode.j0 : Nat → Int → Bool → ByteArray → Int → Int → Int → ByteArray → ByteArray → ByteArray → Int → Int → ByteArray → Option (Int × ByteArray × ByteArray × ByteArray × Int × Int × ByteArray × (List (S95)) × (List (S61)) × Int)
 | 0, _, _, _, _, _, _, _, _, _, _, _, _ => none
 | k + 1, x5, x36, x332000, x332001, x332002, x333000, x333001, x333002, x333003, x333004, x333005, x333006 => if x36 = true then ((stowageref01_Reader_Text.f k x332000 x332001 x332002 64).bind fun bt333 => ((stowageref01_Reader_Text.f k bt333.1 bt333.2.1 bt333.2.2.1 63).bind fun bt338 => (stowageref16_Decode.j1 k x5 bt338.1 bt338.2.1 bt338.2.2.1 x333000 bt333.2.2.2 bt338.2.2.2 x333003 x333004 x333005 x333006))) else (stowageref16_Decode.j1 k x5 x332000 x332001 x332002 x333000 x333001 x333002 x333003 x333004 x333005 x333006)
def stowageref16_Decode.j1 : Nat → Int → ByteArray → Int → Int → Int → ByteArray → ByteArray → ByteArray → Int → Int → ByteArray → Option (Int × ByteArray × ByteArray × ByteArray × Int × Int × ByteArray × (List (S95)) × (List (S61)) × Int)
 | 0, _, _, _, _, _, _, _, _, _, _, _ => none
 | k + 1, x5, x332000, x332001, x332002, x333000, x333001, x333002, x333003, x333004, x333005, x333006 => (stowageref16_HasKey.f x5).bind fun t343 => (if t343 = true then ((stowageref01_Reader_Text.f k x332000 x332001 x332002 1024).bind fun bt344 => (stowageref16_Decode.j2 k x5 bt344.1 bt344.2.1 bt344.2.2.1 x333000 x333001 x333002 bt344.2.2.2 x333004 x333005 x333006)) else (stowageref16_Decode.j2 k x5 x332000 x332001 x332002 x333000 x333001 x333002 x333003 x333004 x333005 x333006))
def stowageref16_Decode.j2 : Nat → Int → ByteArray → Int → Int → Int → ByteArray → ByteArray → ByteArray → Int → Int → ByteArray → Option (Int × ByteArray × ByteArray × ByteArray × Int × Int × ByteArray × (List (S95)) × (List (S61)) × Int)
 | 0, _, _, _, _, _, _, _, _, _, _, _ => none
 | k + 1, x5, x332000, x332001, x332002, x333000, x333001, x333002, x333003, x333004, x333005, x333006 => (stowageref16_hasID.f x5).bind fun t349 => (if t349 = true then ((stowageref01_Reader_Int.f k x332000 x332001 x332002 1099511627776).bind fun bt350 => (stowageref16_Decode.j3 k x5 bt350.1 bt350.2.1 bt350.2.2.1 x333000 x333001 x333002 x333003 bt350.2.2.2 x333005 x333006)) else (stowageref16_Decode.j3 k x5 x332000 x332001 x332002 x333000 x333001 x333002 x333003 x333004 x333005 x333006))
def stowageref16_Decode.j3 : Nat → Int → ByteArray → Int → Int → Int → ByteArray → ByteArray → ByteArray → Int → Int → ByteArray → Option (Int × ByteArray × ByteArray × ByteArray × Int × Int × ByteArray × (List (S95)) × (List (S61)) × Int)
 | 0, _, _, _, _, _, _, _, _, _, _, _ => none
 | k + 1, x5, x332000, x332001, x332002, x333000, x333001, x333002, x333003, x333004, x333005, x333006 => if x5 = 7 then ((stowageref01_Reader_Int.f k x332000 x332001 x332002 100).bind fun bt355 => (stowageref16_Decode.j4 k x5 bt355.1 bt355.2.1 bt355.2.2.1 x333000 x333001 x333002 x333003 x333004 bt355.2.2.2 x333006)) else (stowageref16_Decode.j4 k x5 x332000 x332001 x332002 x333000 x333001 x333002 x333003 x333004 x333005 x333006)
def stowageref16_Decode.j4 : Nat → Int → ByteArray → Int → Int → Int → ByteArray → ByteArray → ByteArray → Int → Int → ByteArray → Option (Int × ByteArray × ByteArray × ByteArray × Int × Int × ByteArray × (List (S95)) × (List (S61)) × Int)
 | 0, _, _, _, _, _, _, _, _, _, _, _ => none
 | k + 1, x5, x332000, x332001, x332002, x333000, x333001, x333002, x333003, x333004, x333005, x333006 => (stowageref16_hasSum.f x5).bind fun t360 => (if t360 = true then ((stowageref01_Reader_Text.f k x332000 x332001 x332002 64).bind fun bt361 => ((stowageref13_Read.f k bt361.1 bt361.2.1 bt361.2.2.1).bind fun bt366 => (stowageref16_Decode.j5 k x5 bt366.1 bt366.2.1 bt366.2.2.1 x333000 x333001 x333002 x333003 x333004 x333005 bt361.2.2.2 bt366.2.2.2))) else (stowageref16_Decode.j5 k x5 x332000 x332001 x332002 x333000 x333001 x333002 x333003 x333004 x333005 x333006 ([] : List (S95))))
def stowageref16_Decode.j5 : Nat → Int → ByteArray → Int → Int → Int → ByteArray → ByteArray → ByteArray → Int → Int → ByteArray → List (S95) → Option (Int × ByteArray × ByteArray × ByteArray × Int × Int × ByteArray × (List (S95)) × (List (S61)) × Int)
 | 0, _, _, _, _, _, _, _, _, _, _, _, _ => none
 | k + 1, x5, x332000, x332001, x332002, x333000, x333001, x333002, x333003, x333004, x333005, x333006, x333007 => if x5 = 8 then ((stowageref16_picks.f k x332000 x332001 x332002).bind fun bt373 => (stowageref16_Decode.j6 k bt373.1 bt373.2.1 bt373.2.2.1 x333000 x333001 x333002 x333003 x333004 x333005 x333006 x333007 bt373.2.2.2)) else (stowageref16_Decode.j6 k x332000 x332001 x332002 x333000 x333001 x333002 x333003 x333004 x333005 x333006 x333007 ([] : List (S61)))
def stowageref16_Decode.j6 : Nat → ByteArray → Int → Int → Int → ByteArray → ByteArray → ByteArray → Int → Int → ByteArray → List (S95) → List (S61) → Option (Int × ByteArray × ByteArray × ByteArray × Int × Int × ByteArray × (List (S95)) × (List (S61)) × Int)
 | 0, _, _, _, _, _, _, _, _, _, _, _, _ => none
 | k + 1, x332000, x332001, x332002, x333000, x333001, x333002, x333003, x333004, x333005, x333006, x333007, x333008 => (stowageref01_Reader_End.f x332000 x332001 x332002).bind fun bt380 => (if bt380.2.2 = 0 then ((stowageref16_Check.f k x333000 x333001 x333002 x333003 x333004 x333005 x333006 x333007 x333008).bind fun t383 => (if t383 = 0 then (some (x333000, x333001, x333002, x333003, x333004, x333005, x333006, x333007, x333008, 0)) else (some (0, (⟨#[]⟩ : ByteArray), (⟨#[]⟩ : ByteArray), (⟨#[]⟩ : ByteArray), 0, 0, (⟨#[]⟩ : ByteArray), ([] : List (S95)), ([] : List (S61)), 3)))) else (some (0, (⟨#[]⟩ : ByteArray), (⟨#[]⟩ : ByteArray), (⟨#[]⟩ : ByteArray), 0, 0, (⟨#[]⟩ : ByteArray), ([] : List (S95)), ([] : List (S61)), 3)))
end
def stowageref16_Decode.f (k : Nat) (a0 : ByteArray) : Option (Int × ByteArray × ByteArray × ByteArray × Int × Int × ByteArray × (List (S95)) × (List (S61)) × Int) := (stowageref01_Reader_Int.f k a0 0 0 10).bind fun bt327 => (if bt327.2.2.2 ≥ 1 then (stowageref16_Decode.j0 k bt327.2.2.2 (decide (bt327.2.2.2 < 10)) bt327.1 bt327.2.1 bt327.2.2.1 bt327.2.2.2 (⟨#[]⟩ : ByteArray) (⟨#[]⟩ : ByteArray) (⟨#[]⟩ : ByteArray) 0 0 (⟨#[]⟩ : ByteArray)) else (stowageref16_Decode.j0 k bt327.2.2.2 false bt327.1 bt327.2.1 bt327.2.2.1 bt327.2.2.2 (⟨#[]⟩ : ByteArray) (⟨#[]⟩ : ByteArray) (⟨#[]⟩ : ByteArray) 0 0 (⟨#[]⟩ : ByteArray)))
theorem stowageref16_Decode.mono_l : ∀ k, (∀ y0 y1 y2 y3 y4 y5 y6 y7 y8 y9 y10 y11, LeO (stowageref16_Decode.j0 k y0 y1 y2 y3 y4 y5 y6 y7 y8 y9 y10 y11) (stowageref16_Decode.j0 (k + 1) y0 y1 y2 y3 y4 y5 y6 y7 y8 y9 y10 y11)) ∧ (∀ y0 y1 y2 y3 y4 y5 y6 y7 y8 y9 y10, LeO (stowageref16_Decode.j1 k y0 y1 y2 y3 y4 y5 y6 y7 y8 y9 y10) (stowageref16_Decode.j1 (k + 1) y0 y1 y2 y3 y4 y5 y6 y7 y8 y9 y10)) ∧ (∀ y0 y1 y2 y3 y4 y5 y6 y7 y8 y9 y10, LeO (stowageref16_Decode.j2 k y0 y1 y2 y3 y4 y5 y6 y7 y8 y9 y10) (stowageref16_Decode.j2 (k + 1) y0 y1 y2 y3 y4 y5 y6 y7 y8 y9 y10)) ∧ (∀ y0 y1 y2 y3 y4 y5 y6 y7 y8 y9 y10, LeO (stowageref16_Decode.j3 k y0 y1 y2 y3 y4 y5 y6 y7 y8 y9 y10) (stowageref16_Decode.j3 (k + 1) y0 y1 y2 y3 y4 y5 y6 y7 y8 y9 y10)) ∧ (∀ y0 y1 y2 y3 y4 y5 y6 y7 y8 y9 y10, LeO (stowageref16_Decode.j4 k y0 y1 y2 y3 y4 y5 y6 y7 y8 y9 y10) (stowageref16_Decode.j4 (k + 1) y0 y1 y2 y3 y4 y5 y6 y7 y8 y9 y10)) ∧ (∀ y0 y1 y2 y3 y4 y5 y6 y7 y8 y9 y10 y11, LeO (stowageref16_Decode.j5 k y0 y1 y2 y3 y4 y5 y6 y7 y8 y9 y10 y11) (stowageref16_Decode.j5 (k + 1) y0 y1 y2 y3 y4 y5 y6 y7 y8 y9 y10 y11)) ∧ (∀ y0 y1 y2 y3 y4 y5 y6 y7 y8 y9 y10 y11, LeO (stowageref16_Decode.j6 k y0 y1 y2 y3 y4 y5 y6 y7 y8 y9 y10 y11) (stowageref16_Decode.j6 (k + 1) y0 y1 y2 y3 y4 y5 y6 y7 y8 y9 y10 y11))
 | 0 => ⟨fun _ _ _ _ _ _ _ _ _ _ _ _ r h => by simp [stowageref16_Decode.j0] at h, fun _ _ _ _ _ _ _ _ _ _ _ r h => by simp [stowageref16_Decode.j1] at h, fun _ _ _ _ _ _ _ _ _ _ _ r h => by simp [stowageref16_Decode.j2] at h, fun _ _ _ _ _ _ _ _ _ _ _ r h => by simp [stowageref16_Decode.j3] at h, fun _ _ _ _ _ _ _ _ _ _ _ r h => by simp [stowageref16_Decode.j4] at h, fun _ _ _ _ _ _ _ _ _ _ _ _ r h => by simp [stowageref16_Decode.j5] at h, fun _ _ _ _ _ _ _ _ _ _ _ _ r h => by simp [stowageref16_Decode.j6] at h⟩
 | k + 1 => by
  obtain ⟨ih0, ih1, ih2, ih3, ih4, ih5, ih6⟩ := stowageref16_Decode.mono_l k
  refine ⟨?_, ?_, ?_, ?_, ?_, ?_, ?_⟩
  all_goals intros
  all_goals first | unfold stowageref16_Decode.j0 | unfold stowageref16_Decode.j1 | unfold stowageref16_Decode.j2 | unfold stowageref16_Decode.j3 | unfold stowageref16_Decode.j4 | unfold stowageref16_Decode.j5 | unfold stowageref16_Decode.j6
  all_goals repeat' (with_reducible first | exact ih0 _ _ _ _ _ _ _ _ _ _ _ _ | exact ih1 _ _ _ _ _ _ _ _ _ _ _ | exact ih2 _ _ _ _ _ _ _ _ _ _ _ | exact ih3 _ _ _ _ _ _ _ _ _ _ _ | exact ih4 _ _ _ _ _ _ _ _ _ _ _ | exact ih5 _ _ _ _ _ _ _ _ _ _ _ _ | exact ih6 _ _ _ _ _ _ _ _ _ _ _ _ | exact stowageref01_Reader_Int.mono _ _ _ _ _ | exact stowageref01_Reader_Text.mono _ _ _ _ _ | exact stowageref13_Read.mono _ _ _ _ | exact stowageref16_Check.mono _ _ _ _ _ _ _ _ _ _ | exact stowageref16_picks.mono _ _ _ _ | exact LeO.refl _ | exact LeO.none _ | refine LeO.ite ?_ ?_ | refine LeO.bind ?_ (fun _ => ?_))
theorem stowageref16_Decode.mono : ∀ a0 k, LeO (stowageref16_Decode.f k a0) (stowageref16_Decode.f (k + 1) a0) := by
 intro a0 k
 obtain ⟨ih0, ih1, ih2, ih3, ih4, ih5, ih6⟩ := stowageref16_Decode.mono_l k
 unfold stowageref16_Decode.f
 repeat' (with_reducible first | exact ih0 _ _ _ _ _ _ _ _ _ _ _ _ | exact ih1 _ _ _ _ _ _ _ _ _ _ _ | exact ih2 _ _ _ _ _ _ _ _ _ _ _ | exact ih3 _ _ _ _ _ _ _ _ _ _ _ | exact ih4 _ _ _ _ _ _ _ _ _ _ _ | exact ih5 _ _ _ _ _ _ _ _ _ _ _ _ | exact ih6 _ _ _ _ _ _ _ _ _ _ _ _ | exact stowageref01_Reader_Int.mono _ _ _ _ _ | exact stowageref01_Reader_Text.mono _ _ _ _ _ | exact stowageref13_Read.mono _ _ _ _ | exact stowageref16_Check.mono _ _ _ _ _ _ _ _ _ _ | exact stowageref16_picks.mono _ _ _ _ | exact LeO.refl _ | exact LeO.none _ | refine LeO.ite ?_ ?_ | refine LeO.bind ?_ (fun _ => ?_))
set_option maxHeartbeats 8000000 in
set_option maxRecDepth 100000 in
theorem stowageref16_Decode.calls (k : Nat) (a0 : ByteArray) (r1 : Int) (r2 : ByteArray) (r3 : ByteArray) (r4 : ByteArray) (r5 : Int) (r6 : Int) (r7 : ByteArray) (r8 : List (S95)) (r9 : List (S61)) (r10 : Int) (w : World) (h : stowageref16_Decode.f k a0 = some (r1, r2, r3, r4, r5, r6, r7, r8, r9, r10)) :
  Calls Tryd.prog 17 #[.string a0] w fun e w' => ∃ v7_ v8_ : Value, e = .returned (.tuple #[.agg #[.int .i64 r1, .string r2, .string r3, .string r4, .int .i64 r5, .int .i64 r6, .string r7, v7_, v8_], .int .i64 r10]) ∧ Kd.R k95 95 w' w.heap.size (fun _ => True) v7_ r8 ∧ Kd.R k61 61 w' w.heap.size (fun _ => True) v8_ r9 ∧ Below w.heap.size w w' := by
 have fact_f : ∀ (u0 : ByteArray) (u1 u2 : Int) (W : World), (Instr.field 85 (.agg #[.string u0, .int .i64 u1, .int .i64 u2]) 2).run Tryd.prog W = .ok (.int .i64 u2) W := fun u0 u1 u2 W => (by have h3 : Tryd.prog.underlying 3 = some (.int .i64) := Tryd.underlying3; simp [Instr.field, run_underlying Tryd.underlying85, part, asAgg, isAgg, run_underlying h3])
 have hu34 := Tryd.underlying34
 have hu85 := Tryd.underlying85
 have HB := am (Below.refl w.heap.size w)
 have H := h
 clear h
 unfold stowageref16_Decode.f at H
 replace H := obE H
 obtain ⟨⟨t327, t328, t329, t330⟩, A2, H⟩ := H
 try dsimp only at H
 have HC3 := am H
 clear H
 go_enter Tryd.func17, Tryd.ntmps17
 go_upto_region 3 with (first | ((with_reducible refine gate_dst (N := 2) rfl ?_); refine bx 2 #[.int .i64 0, .string (⟨#[]⟩ : ByteArray), .string (⟨#[]⟩ : ByteArray), .string (⟨#[]⟩ : ByteArray), .int .i64 0, .int .i64 0, .string (⟨#[]⟩ : ByteArray), .slice none 0 0, .slice none 0 0] 34 ?_; intro gb326 hg w4 hbox hb; have BK326 := am (hbox); have GW326 := gsz hg HB.out; have GE326 := gsz hg HB.out; replace HB := am (below_step (bw HB.out) hb); clear hb hbox hg) | ((with_reducible refine gate_callee (f := 52) rfl ?_); refine goesL_ (some 26) rfl rfl Tryd.func52 (by kernel_rfl) rfl #[.agg #[.string a0, .int .i64 0, .int .i64 0], .int .i64 10] rfl gl ?_; (with_reducible refine (stowageref01_Reader_Int.calls k a0 0 0 10 t327 t328 t329 t330 _ A2.out).mono ?_); rintro e w5 ⟨rfl, hb⟩; refine ⟨_, rfl, ?_⟩; replace BK326 := bb BK326.out hb; replace HB := am (below_step (bws HB.out) hb); (try clear hb)) | ((with_reducible refine gate_dst (N := 4) rfl ?_); refine bx 4 #[.string (⟨#[]⟩ : ByteArray), .int .i64 0, .int .i64 0] 85 ?_; intro gb331 hg w6 hbox hb; have BK331 := am (hbox); have GW331 := gsz hg HB.out; have GE331 := gsz hg HB.out; have NB326_331 := nlt (g := gb326) hg BK326.out; have NB331_326 := ngt (g := gb326) hg BK326.out; replace BK326 := bb BK326.out hb; replace HB := am (below_step (bws HB.out) hb); clear hb hbox hg; have hnb7 := NB331_326.out; have hnc7 := NB326_331.out; obtain ⟨hcz8_0, hcz8_1, hcz8_2, hfz8_0, hfz8_1, hfz8_2⟩ := cz3 BK331.out) | ((with_reducible refine gate_dst (N := 6) rfl ?_); refine bx 6 #[.int .i64 0, .string (⟨#[]⟩ : ByteArray), .string (⟨#[]⟩ : ByteArray), .string (⟨#[]⟩ : ByteArray), .int .i64 0, .int .i64 0, .string (⟨#[]⟩ : ByteArray), .slice none 0 0, .slice none 0 0] 34 ?_; intro gb332 hg w9 hbox hb; have BK332 := am (hbox); have GW332 := gsz hg HB.out; have GE332 := gsz hg HB.out; have NB326_332 := am ((by rw [hg]; exact Nat.ne_of_lt (blk_lt (g := gb326) (o := .cells #[.int .i64 0, .string (⟨#[]⟩ : ByteArray), .string (⟨#[]⟩ : ByteArray), .string (⟨#[]⟩ : ByteArray), .int .i64 0, .int .i64 0, .string (⟨#[]⟩ : ByteArray), .slice none 0 0, .slice none 0 0] 34 (0, 0)) (bkf BK326.out)) : gb326 ≠ gb332)); have NB332_326 := am ((by rw [hg]; exact Nat.ne_of_gt (blk_lt (g := gb326) (o := .cells #[.int .i64 0, .string (⟨#[]⟩ : ByteArray), .string (⟨#[]⟩ : ByteArray), .string (⟨#[]⟩ : ByteArray), .int .i64 0, .int .i64 0, .string (⟨#[]⟩ : ByteArray), .slice none 0 0, .slice none 0 0] 34 (0, 0)) (bkf BK326.out)) : gb332 ≠ gb326)); have NB331_332 := am ((by rw [hg]; exact Nat.ne_of_lt (blk_lt (g := gb331) (o := .cells #[.string t327, .int .i64 t328, .int .i64 t329] 85 (0, 0)) (bkp BK331.out)) : gb331 ≠ gb332)); have NB332_331 := am ((by rw [hg]; exact Nat.ne_of_gt (blk_lt (g := gb331) (o := .cells #[.string t327, .int .i64 t328, .int .i64 t329] 85 (0, 0)) (bkp BK331.out)) : gb332 ≠ gb331)); replace BK326 := am (blk_below (g := gb326) (o := .cells #[.int .i64 0, .string (⟨#[]⟩ : ByteArray), .string (⟨#[]⟩ : ByteArray), .string (⟨#[]⟩ : ByteArray), .int .i64 0, .int .i64 0, .string (⟨#[]⟩ : ByteArray), .slice none 0 0, .slice none 0 0] 34 (0, 0)) (bkf BK326.out) hb); replace BK331 := am (blk_below (g := gb331) (o := .cells #[.string t327, .int .i64 t328, .int .i64 t329] 85 (0, 0)) (bkp BK331.out) hb); replace HB := am (below_step (bws HB.out) hb); clear hb hbox hg; have hnb10 := NB332_326.out; have hnc10 := NB326_332.out; have hnb11 := NB332_331.out; have hnc11 := NB331_332.out; obtain ⟨hcz12_0, hcz12_1, hcz12_2, hcz12_3, hcz12_4, hcz12_5, hcz12_6, hcz12_7, hcz12_8, hfz12_0, hfz12_1, hfz12_2, hfz12_3, hfz12_4, hfz12_5, hfz12_6, hfz12_7, hfz12_8⟩ := cz9 BK332.out))
 (try simp only [Act.put, List.setIfInBounds_toArray, List.set_cons_zero, List.set_cons_succ])
 go_cut [36] (fun v36 wc => ∃ (kq : Nat) (x36_2 : Bool), v36 = .bool x36_2 ∧ Aside0 (stowageref16_Decode.j0 kq t330 x36_2 t327 t328 t329 t330 (⟨#[]⟩ : ByteArray) (⟨#[]⟩ : ByteArray) (⟨#[]⟩ : ByteArray) 0 0 (⟨#[]⟩ : ByteArray) = some (r1, r2, r3, r4, r5, r6, r7, r8, r9, r10)) ∧ Aside0 (kq ≤ k) ∧ Aside0 (wc.heap[gb326]? = some (.cells #[.int .i64 0, .string (⟨#[]⟩ : ByteArray), .string (⟨#[]⟩ : ByteArray), .string (⟨#[]⟩ : ByteArray), .int .i64 0, .int .i64 0, .string (⟨#[]⟩ : ByteArray), (.slice none 0 0), (.slice none 0 0)] 34 (0, 0))) ∧ Aside0 (wc.heap[gb331]? = some (.cells #[.string t327, .int .i64 t328, .int .i64 t329] 85 (0, 0))) ∧ Aside0 (wc.heap[gb332]? = some (.cells #[.int .i64 t330, .string (⟨#[]⟩ : ByteArray), .string (⟨#[]⟩ : ByteArray), .string (⟨#[]⟩ : ByteArray), .int .i64 0, .int .i64 0, .string (⟨#[]⟩ : ByteArray), (.slice none 0 0), (.slice none 0 0)] 34 (0, 0))) ∧ Aside0 (Below w.heap.size w wc))
 case first =>
  have H := HC3.out
  clear HC3
  replace H := iteD H
  rcases H with ⟨c13b0, H⟩ | ⟨c13b0, H⟩
  ·
   (first | rw [c13b0] | (simp only [i64_w, i32_w]; rw [c13b0]) | skip)
   have H' := am H
   clear H
   go_wp2
   go_meet
   case rel => exact ⟨_, (decide (t330 < 10)), rs, H', ⟨om⟩, ⟨bkf BK326.out⟩, ⟨bkf BK331.out⟩, ⟨(st9_ BK332.out _ _ _ _ _ _ _ _ _ rfl).1⟩, ⟨bws HB.out⟩⟩
  ·
   (first | rw [c13b0] | (simp only [i64_w, i32_w]; rw [c13b0]) | skip)
   have H' := am H
   clear H
   go_wp2
   go_meet
   case rel => exact ⟨_, (false), rs, H', ⟨om⟩, ⟨bkf BK326.out⟩, ⟨bkf BK331.out⟩, ⟨(st9_ BK332.out _ _ _ _ _ _ _ _ _ rfl).1⟩, ⟨bws HB.out⟩⟩
 case rest =>
  clear HC3
  try clear hcz12_0 hcz12_1 hcz12_2 hcz12_3 hcz12_4 hcz12_5 hcz12_6 hcz12_7 hcz12_8 hfz12_0 hfz12_1 hfz12_2 hfz12_3 hfz12_4 hfz12_5 hfz12_6 hfz12_7 hfz12_8
  try clear hcz8_0 hcz8_1 hcz8_2 hfz8_0 hfz8_1 hfz8_2
  obtain ⟨kq, x36_2, rfl, HA, HJ2, BK326, BK331, BK332, HB⟩ := hcut
  cases kq with
  | zero => exact absurd HA.out (by simp [stowageref16_Decode.j0])
  | succ kj2 =>
   have H := HA.out
   clear HA
   simp only [stowageref16_Decode.j0] at H
   have HC14 := am H
   clear H
   go_upto_if 36 with (fail)
   go_cut [] (fun wc => ∃ (kq : Nat) (x332000_13 : ByteArray) (x332001_13 : Int) (x332002_13 : Int) (x333001_13 : ByteArray) (x333002_13 : ByteArray), Aside0 (stowageref16_Decode.j1 kq t330 x332000_13 x332001_13 x332002_13 t330 x333001_13 x333002_13 (⟨#[]⟩ : ByteArray) 0 0 (⟨#[]⟩ : ByteArray) = some (r1, r2, r3, r4, r5, r6, r7, r8, r9, r10)) ∧ Aside0 (kq ≤ kj2) ∧ Aside0 (wc.heap[gb326]? = some (.cells #[.int .i64 0, .string (⟨#[]⟩ : ByteArray), .string (⟨#[]⟩ : ByteArray), .string (⟨#[]⟩ : ByteArray), .int .i64 0, .int .i64 0, .string (⟨#[]⟩ : ByteArray), (.slice none 0 0), (.slice none 0 0)] 34 (0, 0))) ∧ Aside0 (wc.heap[gb331]? = some (.cells #[.string x332000_13, .int .i64 x332001_13, .int .i64 x332002_13] 85 (0, 0))) ∧ Aside0 (wc.heap[gb332]? = some (.cells #[.int .i64 t330, .string x333001_13, .string x333002_13, .string (⟨#[]⟩ : ByteArray), .int .i64 0, .int .i64 0, .string (⟨#[]⟩ : ByteArray), (.slice none 0 0), (.slice none 0 0)] 34 (0, 0))) ∧ Aside0 (Below w.heap.size w wc))
   case first =>
    have H := HC14.out
    clear HC14
    by_cases c15 : x36_2 = true
    ·
     subst c15
     rw [if_pos rfl] at H
     replace H := obE H
     obtain ⟨⟨t333, t334, t335, t336⟩, A16, H⟩ := H
     try dsimp only at H
     replace H := obE H
     obtain ⟨⟨t338, t339, t340, t341⟩, A17, H⟩ := H
     try dsimp only at H
     have H' := am H
     clear H
     have hnb18 := NB331_326.out
     have hnc18 := NB326_331.out
     have hnb19 := NB331_332.out
     have hnc19 := NB332_331.out
     obtain ⟨hcz20_0, hcz20_1, hcz20_2, hfz20_0, hfz20_1, hfz20_2⟩ := cz3 BK331.out
     go_wp2_with (first | ((with_reducible refine gate_callee (f := 53) rfl ?_); refine goesL_ (some 39) rfl rfl Tryd.func53 (by kernel_rfl) rfl #[.agg #[.string t327, .int .i64 t328, .int .i64 t329], .int .i64 64] rfl gl ?_; (with_reducible refine (stowageref01_Reader_Text.calls kj2 t327 t328 t329 64 t333 t334 t335 t336 _ A16.out).mono ?_); rintro e w21 ⟨rfl, hb⟩; refine ⟨_, rfl, ?_⟩; replace BK326 := bb BK326.out hb; replace BK331 := bb BK331.out hb; replace BK332 := bb BK332.out hb; replace HB := am (below_step (bws HB.out) hb); (try clear hb)) | ((with_reducible refine gate_dst (N := 7) rfl ?_); refine bx 7 #[.string (⟨#[]⟩ : ByteArray), .int .i64 0, .int .i64 0] 85 ?_; intro gb337 hg w22 hbox hb; have BK337 := am (hbox); have GW337 := gsz hg HB.out; have GE337 := gsz hg HB.out; have NB326_337 := nlt (g := gb326) hg BK326.out; have NB337_326 := ngt (g := gb326) hg BK326.out; have NB331_337 := nlt (g := gb331) hg BK331.out; have NB337_331 := ngt (g := gb331) hg BK331.out; have NB332_337 := nlt (g := gb332) hg BK332.out; have NB337_332 := ngt (g := gb332) hg BK332.out; replace BK326 := bb BK326.out hb; replace BK331 := bb BK331.out hb; replace BK332 := bb BK332.out hb; replace HB := am (below_step (bws HB.out) hb); clear hb hbox hg; have hnb23 := NB337_326.out; have hnc23 := NB326_337.out; have hnb24 := NB337_331.out; have hnc24 := NB331_337.out; have hnb25 := NB337_332.out; have hnc25 := NB332_337.out; obtain ⟨hcz26_0, hcz26_1, hcz26_2, hfz26_0, hfz26_1, hfz26_2⟩ := cz3 BK337.out) | ((with_reducible refine gate_callee (f := 53) rfl ?_); refine goesL_ (some 44) rfl rfl Tryd.func53 (by kernel_rfl) rfl #[.agg #[.string t333, .int .i64 t334, .int .i64 t335], .int .i64 63] rfl gl ?_; (with_reducible refine (stowageref01_Reader_Text.calls kj2 t333 t334 t335 63 t338 t339 t340 t341 _ A17.out).mono ?_); rintro e w27 ⟨rfl, hb⟩; refine ⟨_, rfl, ?_⟩; replace BK326 := am (blk_below (g := gb326) (o := .cells #[.int .i64 0, .string (⟨#[]⟩ : ByteArray), .string (⟨#[]⟩ : ByteArray), .string (⟨#[]⟩ : ByteArray), .int .i64 0, .int .i64 0, .string (⟨#[]⟩ : ByteArray), .slice none 0 0, .slice none 0 0] 34 (0, 0)) (bkf BK326.out) hb); replace BK331 := am (blk_below (g := gb331) (o := .cells #[.string t327, .int .i64 t328, .int .i64 t329] 85 (0, 0)) (bkf BK331.out) hb); replace BK332 := am (blk_below (g := gb332) (o := .cells #[.int .i64 t330, .string (⟨#[]⟩ : ByteArray), .string (⟨#[]⟩ : ByteArray), .string (⟨#[]⟩ : ByteArray), .int .i64 0, .int .i64 0, .string (⟨#[]⟩ : ByteArray), .slice none 0 0, .slice none 0 0] 34 (0, 0)) (bkf BK332.out) hb); replace BK337 := am (blk_below (g := gb337) (o := .cells #[.string t333, .int .i64 t334, .int .i64 t335] 85 (0, 0)) (bkp BK337.out) hb); replace HB := am (below_step (bws HB.out) hb); (try clear hb)) | ((with_reducible refine gate_dst (N := 9) rfl ?_); refine bx 9 #[.string (⟨#[]⟩ : ByteArray), .int .i64 0, .int .i64 0] 85 ?_; intro gb342 hg w28 hbox hb; have BK342 := am (hbox); have GW342 := gsz hg HB.out; have GE342 := gsz hg HB.out; have NB326_342 := nlt (g := gb326) hg BK326.out; have NB342_326 := ngt (g := gb326) hg BK326.out; have NB331_342 := nlt (g := gb331) hg BK331.out; have NB342_331 := ngt (g := gb331) hg BK331.out; have NB332_342 := nlt (g := gb332) hg BK332.out; have NB342_332 := ngt (g := gb332) hg BK332.out; have NB337_342 := nlt (g := gb337) hg BK337.out; have NB342_337 := ngt (g := gb337) hg BK337.out; replace BK326 := bb BK326.out hb; replace BK331 := bb BK331.out hb; replace BK332 := bb BK332.out hb; replace BK337 := bb BK337.out hb; replace HB := am (below_step (bws HB.out) hb); clear hb hbox hg; have hnb29 := NB342_326.out; have hnc29 := NB326_342.out; have hnb30 := NB342_331.out; have hnc30 := NB331_342.out; have hnb31 := NB342_332.out; have hnc31 := NB332_342.out; have hnb32 := NB342_337.out; have hnc32 := NB337_342.out; obtain ⟨hcz33_0, hcz33_1, hcz33_2, hfz33_0, hfz33_1, hfz33_2⟩ := cz3 BK342.out; have hnb34 := NB332_326.out; have hnc34 := NB326_332.out; obtain ⟨hcz35_0, hcz35_1, hcz35_2, hcz35_3, hcz35_4, hcz35_5, hcz35_6, hcz35_7, hcz35_8, hfz35_0, hfz35_1, hfz35_2, hfz35_3, hfz35_4, hfz35_5, hfz35_6, hfz35_7, hfz35_8⟩ := cz9 BK332.out; obtain ⟨hcz36_0, hcz36_1, hcz36_2, hfz36_0, hfz36_1, hfz36_2⟩ := cz3 BK331.out))
     go_meet
     case rel => exact ⟨_, (t338), (t339), (t340), (t336), (t341), H', ⟨by have := HJ2.out; first | omega | exact Nat.le_refl _⟩, ⟨bkf BK326.out⟩, ⟨bkf BK331.out⟩, ⟨bkf BK332.out⟩, ⟨bws HB.out⟩⟩
    ·
     replace c15 := Bool.eq_false_iff.mpr c15
     subst c15
     rw [if_neg (show ¬ (false = true) by decide)] at H
     have H' := am H
     clear H
     go_wp2
     go_meet
     case rel => exact ⟨_, (t327), (t328), (t329), ((⟨#[]⟩ : ByteArray)), ((⟨#[]⟩ : ByteArray)), H', ⟨by have := HJ2.out; first | omega | exact Nat.le_refl _⟩, ⟨bk BK326.out⟩, ⟨bk BK331.out⟩, ⟨bk BK332.out⟩, ⟨bws HB.out⟩⟩
   case rest =>
    clear HC14
    try clear hcz12_0 hcz12_1 hcz12_2 hcz12_3 hcz12_4 hcz12_5 hcz12_6 hcz12_7 hcz12_8 hfz12_0 hfz12_1 hfz12_2 hfz12_3 hfz12_4 hfz12_5 hfz12_6 hfz12_7 hfz12_8
    try clear hcz8_0 hcz8_1 hcz8_2 hfz8_0 hfz8_1 hfz8_2
    obtain ⟨kq, x332000_13, x332001_13, x332002_13, x333001_13, x333002_13, HA, HJ13, BK326, BK331, BK332, HB⟩ := hcut
    cases kq with
    | zero => exact absurd HA.out (by simp [stowageref16_Decode.j1])
    | succ kj13 =>
     have H := HA.out
     clear HA
     simp only [stowageref16_Decode.j1] at H
     replace H := obE H
     obtain ⟨t343, A37, H⟩ := H
     have HC38 := am H
     clear H
     go_upto_if 53 with (first | ((with_reducible refine gate_callee (f := 40) rfl ?_); refine goesL_ (some 53) rfl rfl Tryd.func40 (by kernel_rfl) rfl #[.int .i64 t330] rfl gl ?_; (with_reducible refine (stowageref16_HasKey.calls t330 t343 _ A37.out).mono ?_); rintro e w' ⟨rfl, ⟨nd, rfl⟩⟩; refine ⟨_, rfl, ?_⟩))
     (try simp only [Act.put, List.setIfInBounds_toArray, List.set_cons_zero, List.set_cons_succ])
     go_cut [] (fun wc => ∃ (kq : Nat) (x332000_37 : ByteArray) (x332001_37 : Int) (x332002_37 : Int) (x333003_37 : ByteArray), Aside0 (stowageref16_Decode.j2 kq t330 x332000_37 x332001_37 x332002_37 t330 x333001_13 x333002_13 x333003_37 0 0 (⟨#[]⟩ : ByteArray) = some (r1, r2, r3, r4, r5, r6, r7, r8, r9, r10)) ∧ Aside0 (kq ≤ kj13) ∧ Aside0 (wc.heap[gb326]? = some (.cells #[.int .i64 0, .string (⟨#[]⟩ : ByteArray), .string (⟨#[]⟩ : ByteArray), .string (⟨#[]⟩ : ByteArray), .int .i64 0, .int .i64 0, .string (⟨#[]⟩ : ByteArray), (.slice none 0 0), (.slice none 0 0)] 34 (0, 0))) ∧ Aside0 (wc.heap[gb331]? = some (.cells #[.string x332000_37, .int .i64 x332001_37, .int .i64 x332002_37] 85 (0, 0))) ∧ Aside0 (wc.heap[gb332]? = some (.cells #[.int .i64 t330, .string x333001_13, .string x333002_13, .string x333003_37, .int .i64 0, .int .i64 0, .string (⟨#[]⟩ : ByteArray), (.slice none 0 0), (.slice none 0 0)] 34 (0, 0))) ∧ Aside0 (Below w.heap.size w wc))
     case first =>
      have H := HC38.out
      clear HC38
      by_cases c39 : t343 = true
      ·
       subst c39
       rw [if_pos rfl] at H
       replace H := obE H
       obtain ⟨⟨t344, t345, t346, t347⟩, A40, H⟩ := H
       try dsimp only at H
       have H' := am H
       clear H
       have hnb41 := NB331_326.out
       have hnc41 := NB326_331.out
       have hnb42 := NB331_332.out
       have hnc42 := NB332_331.out
       obtain ⟨hcz43_0, hcz43_1, hcz43_2, hfz43_0, hfz43_1, hfz43_2⟩ := cz3 BK331.out
       go_wp2_with (first | ((with_reducible refine gate_callee (f := 53) rfl ?_); refine goesL_ (some 56) rfl rfl Tryd.func53 (by kernel_rfl) rfl #[.agg #[.string x332000_13, .int .i64 x332001_13, .int .i64 x332002_13], .int .i64 1024] rfl gl ?_; (with_reducible refine (stowageref01_Reader_Text.calls kj13 x332000_13 x332001_13 x332002_13 1024 t344 t345 t346 t347 _ A40.out).mono ?_); rintro e w44 ⟨rfl, hb⟩; refine ⟨_, rfl, ?_⟩; replace BK326 := bb BK326.out hb; replace BK331 := bb BK331.out hb; replace BK332 := bb BK332.out hb; replace HB := am (below_step (bws HB.out) hb); (try clear hb)) | ((with_reducible refine gate_dst (N := 11) rfl ?_); refine bx 11 #[.string (⟨#[]⟩ : ByteArray), .int .i64 0, .int .i64 0] 85 ?_; intro gb348 hg w45 hbox hb; have BK348 := am (hbox); have GW348 := gsz hg HB.out; have GE348 := gsz hg HB.out; have NB326_348 := nlt (g := gb326) hg BK326.out; have NB348_326 := ngt (g := gb326) hg BK326.out; have NB331_348 := nlt (g := gb331) hg BK331.out; have NB348_331 := ngt (g := gb331) hg BK331.out; have NB332_348 := nlt (g := gb332) hg BK332.out; have NB348_332 := ngt (g := gb332) hg BK332.out; replace BK326 := bb BK326.out hb; replace BK331 := bb BK331.out hb; replace BK332 := bb BK332.out hb; replace HB := am (below_step (bws HB.out) hb); clear hb hbox hg; have hnb46 := NB348_326.out; have hnc46 := NB326_348.out; have hnb47 := NB348_331.out; have hnc47 := NB331_348.out; have hnb48 := NB348_332.out; have hnc48 := NB332_348.out; obtain ⟨hcz49_0, hcz49_1, hcz49_2, hfz49_0, hfz49_1, hfz49_2⟩ := cz3 BK348.out; have hnb50 := NB332_326.out; have hnc50 := NB326_332.out; obtain ⟨hcz51_0, hcz51_1, hcz51_2, hcz51_3, hcz51_4, hcz51_5, hcz51_6, hcz51_7, hcz51_8, hfz51_0, hfz51_1, hfz51_2, hfz51_3, hfz51_4, hfz51_5, hfz51_6, hfz51_7, hfz51_8⟩ := cz9 BK332.out; obtain ⟨hcz52_0, hcz52_1, hcz52_2, hfz52_0, hfz52_1, hfz52_2⟩ := cz3 BK331.out))
       go_meet
       case rel => exact ⟨_, (t344), (t345), (t346), (t347), H', ⟨by have := HJ2.out; have := HJ13.out; first | omega | exact Nat.le_refl _⟩, ⟨bkf BK326.out⟩, ⟨bkf BK331.out⟩, ⟨bkf BK332.out⟩, ⟨bws HB.out⟩⟩
      ·
       replace c39 := Bool.eq_false_iff.mpr c39
       subst c39
       rw [if_neg (show ¬ (false = true) by decide)] at H
       have H' := am H
       clear H
       go_wp2
       go_meet
       case rel => exact ⟨_, (x332000_13), (x332001_13), (x332002_13), ((⟨#[]⟩ : ByteArray)), H', ⟨by have := HJ2.out; have := HJ13.out; first | omega | exact Nat.le_refl _⟩, ⟨bk BK326.out⟩, ⟨bk BK331.out⟩, ⟨bk BK332.out⟩, ⟨bws HB.out⟩⟩
     case rest =>
      clear HC38
      try clear hcz12_0 hcz12_1 hcz12_2 hcz12_3 hcz12_4 hcz12_5 hcz12_6 hcz12_7 hcz12_8 hfz12_0 hfz12_1 hfz12_2 hfz12_3 hfz12_4 hfz12_5 hfz12_6 hfz12_7 hfz12_8
      try clear hcz8_0 hcz8_1 hcz8_2 hfz8_0 hfz8_1 hfz8_2
      obtain ⟨kq, x332000_37, x332001_37, x332002_37, x333003_37, HA, HJ37, BK326, BK331, BK332, HB⟩ := hcut
      cases kq with
      | zero => exact absurd HA.out (by simp [stowageref16_Decode.j2])
      | succ kj37 =>
       have H := HA.out
       clear HA
       simp only [stowageref16_Decode.j2] at H
       replace H := obE H
       obtain ⟨t349, A53, H⟩ := H
       have HC54 := am H
       clear H
       go_upto_if 63 with (first | ((with_reducible refine gate_callee (f := 42) rfl ?_); refine goesL_ (some 63) rfl rfl Tryd.func42 (by kernel_rfl) rfl #[.int .i64 t330] rfl gl ?_; (with_reducible refine (stowageref16_hasID.calls t330 t349 _ A53.out).mono ?_); rintro e w' ⟨rfl, ⟨nd, rfl⟩⟩; refine ⟨_, rfl, ?_⟩))
       (try simp only [Act.put, List.setIfInBounds_toArray, List.set_cons_zero, List.set_cons_succ])
       go_cut [] (fun wc => ∃ (kq : Nat) (x332000_53 : ByteArray) (x332001_53 : Int) (x332002_53 : Int) (x333004_53 : Int), Aside0 (stowageref16_Decode.j3 kq t330 x332000_53 x332001_53 x332002_53 t330 x333001_13 x333002_13 x333003_37 x333004_53 0 (⟨#[]⟩ : ByteArray) = some (r1, r2, r3, r4, r5, r6, r7, r8, r9, r10)) ∧ Aside0 (kq ≤ kj37) ∧ Aside0 (wc.heap[gb326]? = some (.cells #[.int .i64 0, .string (⟨#[]⟩ : ByteArray), .string (⟨#[]⟩ : ByteArray), .string (⟨#[]⟩ : ByteArray), .int .i64 0, .int .i64 0, .string (⟨#[]⟩ : ByteArray), (.slice none 0 0), (.slice none 0 0)] 34 (0, 0))) ∧ Aside0 (wc.heap[gb331]? = some (.cells #[.string x332000_53, .int .i64 x332001_53, .int .i64 x332002_53] 85 (0, 0))) ∧ Aside0 (wc.heap[gb332]? = some (.cells #[.int .i64 t330, .string x333001_13, .string x333002_13, .string x333003_37, .int .i64 x333004_53, .int .i64 0, .string (⟨#[]⟩ : ByteArray), (.slice none 0 0), (.slice none 0 0)] 34 (0, 0))) ∧ Aside0 (Below w.heap.size w wc))
       case first =>
        have H := HC54.out
        clear HC54
        by_cases c55 : t349 = true
        ·
         subst c55
         rw [if_pos rfl] at H
         replace H := obE H
         obtain ⟨⟨t350, t351, t352, t353⟩, A56, H⟩ := H
         try dsimp only at H
         have H' := am H
         clear H
         have hnb57 := NB331_326.out
         have hnc57 := NB326_331.out
         have hnb58 := NB331_332.out
         have hnc58 := NB332_331.out
         obtain ⟨hcz59_0, hcz59_1, hcz59_2, hfz59_0, hfz59_1, hfz59_2⟩ := cz3 BK331.out
         go_wp2_with (first | ((with_reducible refine gate_callee (f := 52) rfl ?_); refine goesL_ (some 66) rfl rfl Tryd.func52 (by kernel_rfl) rfl #[.agg #[.string x332000_37, .int .i64 x332001_37, .int .i64 x332002_37], .int .i64 1099511627776] rfl gl ?_; (with_reducible refine (stowageref01_Reader_Int.calls kj37 x332000_37 x332001_37 x332002_37 1099511627776 t350 t351 t352 t353 _ A56.out).mono ?_); rintro e w60 ⟨rfl, hb⟩; refine ⟨_, rfl, ?_⟩; replace BK326 := bb BK326.out hb; replace BK331 := bb BK331.out hb; replace BK332 := bb BK332.out hb; replace HB := am (below_step (bws HB.out) hb); (try clear hb)) | ((with_reducible refine gate_dst (N := 13) rfl ?_); refine bx 13 #[.string (⟨#[]⟩ : ByteArray), .int .i64 0, .int .i64 0] 85 ?_; intro gb354 hg w61 hbox hb; have BK354 := am (hbox); have GW354 := gsz hg HB.out; have GE354 := gsz hg HB.out; have NB326_354 := nlt (g := gb326) hg BK326.out; have NB354_326 := ngt (g := gb326) hg BK326.out; have NB331_354 := nlt (g := gb331) hg BK331.out; have NB354_331 := ngt (g := gb331) hg BK331.out; have NB332_354 := nlt (g := gb332) hg BK332.out; have NB354_332 := ngt (g := gb332) hg BK332.out; replace BK326 := bb BK326.out hb; replace BK331 := bb BK331.out hb; replace BK332 := bb BK332.out hb; replace HB := am (below_step (bws HB.out) hb); clear hb hbox hg; have hnb62 := NB354_326.out; have hnc62 := NB326_354.out; have hnb63 := NB354_331.out; have hnc63 := NB331_354.out; have hnb64 := NB354_332.out; have hnc64 := NB332_354.out; obtain ⟨hcz65_0, hcz65_1, hcz65_2, hfz65_0, hfz65_1, hfz65_2⟩ := cz3 BK354.out; have hnb66 := NB332_326.out; have hnc66 := NB326_332.out; obtain ⟨hcz67_0, hcz67_1, hcz67_2, hcz67_3, hcz67_4, hcz67_5, hcz67_6, hcz67_7, hcz67_8, hfz67_0, hfz67_1, hfz67_2, hfz67_3, hfz67_4, hfz67_5, hfz67_6, hfz67_7, hfz67_8⟩ := cz9 BK332.out; obtain ⟨hcz68_0, hcz68_1, hcz68_2, hfz68_0, hfz68_1, hfz68_2⟩ := cz3 BK331.out))
         go_meet
         case rel => exact ⟨_, (t350), (t351), (t352), (t353), H', ⟨by have := HJ2.out; have := HJ13.out; have := HJ37.out; first | omega | exact Nat.le_refl _⟩, ⟨bkf BK326.out⟩, ⟨bkf BK331.out⟩, ⟨bkf BK332.out⟩, ⟨bws HB.out⟩⟩
        ·
         replace c55 := Bool.eq_false_iff.mpr c55
         subst c55
         rw [if_neg (show ¬ (false = true) by decide)] at H
         have H' := am H
         clear H
         go_wp2
         go_meet
         case rel => exact ⟨_, (x332000_37), (x332001_37), (x332002_37), (0), H', ⟨by have := HJ2.out; have := HJ13.out; have := HJ37.out; first | omega | exact Nat.le_refl _⟩, ⟨bk BK326.out⟩, ⟨bk BK331.out⟩, ⟨bk BK332.out⟩, ⟨bws HB.out⟩⟩
       case rest =>
        clear HC54
        try clear hcz12_0 hcz12_1 hcz12_2 hcz12_3 hcz12_4 hcz12_5 hcz12_6 hcz12_7 hcz12_8 hfz12_0 hfz12_1 hfz12_2 hfz12_3 hfz12_4 hfz12_5 hfz12_6 hfz12_7 hfz12_8
        try clear hcz8_0 hcz8_1 hcz8_2 hfz8_0 hfz8_1 hfz8_2
        obtain ⟨kq, x332000_53, x332001_53, x332002_53, x333004_53, HA, HJ53, BK326, BK331, BK332, HB⟩ := hcut
        cases kq with
        | zero => exact absurd HA.out (by simp [stowageref16_Decode.j3])
        | succ kj53 =>
         have H := HA.out
         clear HA
         simp only [stowageref16_Decode.j3] at H
         have HC69 := am H
         clear H
         go_upto_if 73 with (fail)
         go_cut [] (fun wc => ∃ (kq : Nat) (x332000_68 : ByteArray) (x332001_68 : Int) (x332002_68 : Int) (x333005_68 : Int), Aside0 (stowageref16_Decode.j4 kq t330 x332000_68 x332001_68 x332002_68 t330 x333001_13 x333002_13 x333003_37 x333004_53 x333005_68 (⟨#[]⟩ : ByteArray) = some (r1, r2, r3, r4, r5, r6, r7, r8, r9, r10)) ∧ Aside0 (kq ≤ kj53) ∧ Aside0 (wc.heap[gb326]? = some (.cells #[.int .i64 0, .string (⟨#[]⟩ : ByteArray), .string (⟨#[]⟩ : ByteArray), .string (⟨#[]⟩ : ByteArray), .int .i64 0, .int .i64 0, .string (⟨#[]⟩ : ByteArray), (.slice none 0 0), (.slice none 0 0)] 34 (0, 0))) ∧ Aside0 (wc.heap[gb331]? = some (.cells #[.string x332000_68, .int .i64 x332001_68, .int .i64 x332002_68] 85 (0, 0))) ∧ Aside0 (wc.heap[gb332]? = some (.cells #[.int .i64 t330, .string x333001_13, .string x333002_13, .string x333003_37, .int .i64 x333004_53, .int .i64 x333005_68, .string (⟨#[]⟩ : ByteArray), (.slice none 0 0), (.slice none 0 0)] 34 (0, 0))) ∧ Aside0 (Below w.heap.size w wc))
         case first =>
          have H := HC69.out
          clear HC69
          by_cases c70 : t330 = 7
          ·
           rw [if_pos c70] at H
           have c70b0 := beq_iff_eq.mpr c70
           have c70b1 := bne_eq_false_iff_eq.mpr c70
           clear c70
           (first | rw [c70b0] | (simp only [i64_w, i32_w]; rw [c70b0]) | skip)
           replace H := obE H
           obtain ⟨⟨t355, t356, t357, t358⟩, A71, H⟩ := H
           try dsimp only at H
           have H' := am H
           clear H
           have hnb72 := NB331_326.out
           have hnc72 := NB326_331.out
           have hnb73 := NB331_332.out
           have hnc73 := NB332_331.out
           obtain ⟨hcz74_0, hcz74_1, hcz74_2, hfz74_0, hfz74_1, hfz74_2⟩ := cz3 BK331.out
           go_wp2_with (first | ((with_reducible refine gate_callee (f := 52) rfl ?_); refine goesL_ (some 76) rfl rfl Tryd.func52 (by kernel_rfl) rfl #[.agg #[.string x332000_53, .int .i64 x332001_53, .int .i64 x332002_53], .int .i64 100] rfl gl ?_; (with_reducible refine (stowageref01_Reader_Int.calls kj53 x332000_53 x332001_53 x332002_53 100 t355 t356 t357 t358 _ A71.out).mono ?_); rintro e w75 ⟨rfl, hb⟩; refine ⟨_, rfl, ?_⟩; replace BK326 := bb BK326.out hb; replace BK331 := bb BK331.out hb; replace BK332 := bb BK332.out hb; replace HB := am (below_step (bws HB.out) hb); (try clear hb)) | ((with_reducible refine gate_dst (N := 15) rfl ?_); refine bx 15 #[.string (⟨#[]⟩ : ByteArray), .int .i64 0, .int .i64 0] 85 ?_; intro gb359 hg w76 hbox hb; have BK359 := am (hbox); have GW359 := gsz hg HB.out; have GE359 := gsz hg HB.out; have NB326_359 := nlt (g := gb326) hg BK326.out; have NB359_326 := ngt (g := gb326) hg BK326.out; have NB331_359 := nlt (g := gb331) hg BK331.out; have NB359_331 := ngt (g := gb331) hg BK331.out; have NB332_359 := nlt (g := gb332) hg BK332.out; have NB359_332 := ngt (g := gb332) hg BK332.out; replace BK326 := bb BK326.out hb; replace BK331 := bb BK331.out hb; replace BK332 := bb BK332.out hb; replace HB := am (below_step (bws HB.out) hb); clear hb hbox hg; have hnb77 := NB359_326.out; have hnc77 := NB326_359.out; have hnb78 := NB359_331.out; have hnc78 := NB331_359.out; have hnb79 := NB359_332.out; have hnc79 := NB332_359.out; obtain ⟨hcz80_0, hcz80_1, hcz80_2, hfz80_0, hfz80_1, hfz80_2⟩ := cz3 BK359.out; have hnb81 := NB332_326.out; have hnc81 := NB326_332.out; obtain ⟨hcz82_0, hcz82_1, hcz82_2, hcz82_3, hcz82_4, hcz82_5, hcz82_6, hcz82_7, hcz82_8, hfz82_0, hfz82_1, hfz82_2, hfz82_3, hfz82_4, hfz82_5, hfz82_6, hfz82_7, hfz82_8⟩ := cz9 BK332.out; obtain ⟨hcz83_0, hcz83_1, hcz83_2, hfz83_0, hfz83_1, hfz83_2⟩ := cz3 BK331.out))
           go_meet
           case rel => exact ⟨_, (t355), (t356), (t357), (t358), H', ⟨by have := HJ2.out; have := HJ13.out; have := HJ37.out; have := HJ53.out; first | omega | exact Nat.le_refl _⟩, ⟨bkf BK326.out⟩, ⟨bkf BK331.out⟩, ⟨bkf BK332.out⟩, ⟨bws HB.out⟩⟩
          ·
           rw [if_neg c70] at H
           have c70b0 := beq_eq_false_iff_ne.mpr c70
           have c70b1 := bne_iff_ne.mpr c70
           (first | rw [c70b0] | (simp only [i64_w, i32_w]; rw [c70b0]) | skip)
           have H' := am H
           clear H
           go_wp2
           go_meet
           case rel => exact ⟨_, (x332000_53), (x332001_53), (x332002_53), (0), H', ⟨by have := HJ2.out; have := HJ13.out; have := HJ37.out; have := HJ53.out; first | omega | exact Nat.le_refl _⟩, ⟨bk BK326.out⟩, ⟨bk BK331.out⟩, ⟨bk BK332.out⟩, ⟨bws HB.out⟩⟩
         case rest =>
          clear HC69
          try clear hcz12_0 hcz12_1 hcz12_2 hcz12_3 hcz12_4 hcz12_5 hcz12_6 hcz12_7 hcz12_8 hfz12_0 hfz12_1 hfz12_2 hfz12_3 hfz12_4 hfz12_5 hfz12_6 hfz12_7 hfz12_8
          try clear hcz8_0 hcz8_1 hcz8_2 hfz8_0 hfz8_1 hfz8_2
          obtain ⟨kq, x332000_68, x332001_68, x332002_68, x333005_68, HA, HJ68, BK326, BK331, BK332, HB⟩ := hcut
          cases kq with
          | zero => exact absurd HA.out (by simp [stowageref16_Decode.j4])
          | succ kj68 =>
           have H := HA.out
           clear HA
           simp only [stowageref16_Decode.j4] at H
           replace H := obE H
           obtain ⟨t360, A84, H⟩ := H
           have HC85 := am H
           clear H
           go_upto_if 83 with (first | ((with_reducible refine gate_callee (f := 44) rfl ?_); refine goesL_ (some 83) rfl rfl Tryd.func44 (by kernel_rfl) rfl #[.int .i64 t330] rfl gl ?_; (with_reducible refine (stowageref16_hasSum.calls t330 t360 _ A84.out).mono ?_); rintro e w' ⟨rfl, ⟨nd, rfl⟩⟩; refine ⟨_, rfl, ?_⟩))
           (try simp only [Act.put, List.setIfInBounds_toArray, List.set_cons_zero, List.set_cons_succ])
           go_cut [] (fun wc => ∃ (kq : Nat) (x332000_84 : ByteArray) (x332001_84 : Int) (x332002_84 : Int) (x333006_84 : ByteArray) (x333007_84 : List (S95)) (u333007 : Value), Aside0 (stowageref16_Decode.j5 kq t330 x332000_84 x332001_84 x332002_84 t330 x333001_13 x333002_13 x333003_37 x333004_53 x333005_68 x333006_84 x333007_84 = some (r1, r2, r3, r4, r5, r6, r7, r8, r9, r10)) ∧ Aside0 (kq ≤ kj68) ∧ Aside0 (Kd.R k95 95 wc w.heap.size (fun _ => True) u333007 x333007_84) ∧ Aside0 (wc.heap[gb326]? = some (.cells #[.int .i64 0, .string (⟨#[]⟩ : ByteArray), .string (⟨#[]⟩ : ByteArray), .string (⟨#[]⟩ : ByteArray), .int .i64 0, .int .i64 0, .string (⟨#[]⟩ : ByteArray), (.slice none 0 0), (.slice none 0 0)] 34 (0, 0))) ∧ Aside0 (wc.heap[gb331]? = some (.cells #[.string x332000_84, .int .i64 x332001_84, .int .i64 x332002_84] 85 (0, 0))) ∧ Aside0 (wc.heap[gb332]? = some (.cells #[.int .i64 t330, .string x333001_13, .string x333002_13, .string x333003_37, .int .i64 x333004_53, .int .i64 x333005_68, .string x333006_84, u333007, (.slice none 0 0)] 34 (0, 0))) ∧ Aside0 (Below w.heap.size w wc))
           case first =>
            have H := HC85.out
            clear HC85
            by_cases c86 : t360 = true
            ·
             subst c86
             rw [if_pos rfl] at H
             replace H := obE H
             obtain ⟨⟨t361, t362, t363, t364⟩, A87, H⟩ := H
             try dsimp only at H
             replace H := obE H
             obtain ⟨⟨t366, t367, t368, t369⟩, A88, H⟩ := H
             try dsimp only at H
             have H' := am H
             clear H
             have hnb89 := NB331_326.out
             have hnc89 := NB326_331.out
             have hnb90 := NB331_332.out
             have hnc90 := NB332_331.out
             obtain ⟨hcz91_0, hcz91_1, hcz91_2, hfz91_0, hfz91_1, hfz91_2⟩ := cz3 BK331.out
             go_wp2_with (first | ((with_reducible refine gate_callee (f := 53) rfl ?_); refine goesL_ (some 86) rfl rfl Tryd.func53 (by kernel_rfl) rfl #[.agg #[.string x332000_68, .int .i64 x332001_68, .int .i64 x332002_68], .int .i64 64] rfl gl ?_; (with_reducible refine (stowageref01_Reader_Text.calls kj68 x332000_68 x332001_68 x332002_68 64 t361 t362 t363 t364 _ A87.out).mono ?_); rintro e w92 ⟨rfl, hb⟩; refine ⟨_, rfl, ?_⟩; replace BK326 := bb BK326.out hb; replace BK331 := bb BK331.out hb; replace BK332 := bb BK332.out hb; replace HB := am (below_step (bws HB.out) hb); (try clear hb)) | ((with_reducible refine gate_dst (N := 17) rfl ?_); refine bx 17 #[.string (⟨#[]⟩ : ByteArray), .int .i64 0, .int .i64 0] 85 ?_; intro gb365 hg w93 hbox hb; have BK365 := am (hbox); have GW365 := gsz hg HB.out; have GE365 := gsz hg HB.out; have NB326_365 := nlt (g := gb326) hg BK326.out; have NB365_326 := ngt (g := gb326) hg BK326.out; have NB331_365 := nlt (g := gb331) hg BK331.out; have NB365_331 := ngt (g := gb331) hg BK331.out; have NB332_365 := nlt (g := gb332) hg BK332.out; have NB365_332 := ngt (g := gb332) hg BK332.out; replace BK326 := bb BK326.out hb; replace BK331 := bb BK331.out hb; replace BK332 := bb BK332.out hb; replace HB := am (below_step (bws HB.out) hb); clear hb hbox hg; have hnb94 := NB365_326.out; have hnc94 := NB326_365.out; have hnb95 := NB365_331.out; have hnc95 := NB331_365.out; have hnb96 := NB365_332.out; have hnc96 := NB332_365.out; obtain ⟨hcz97_0, hcz97_1, hcz97_2, hfz97_0, hfz97_1, hfz97_2⟩ := cz3 BK365.out) | ((with_reducible refine gate_callee (f := 54) rfl ?_); refine goesL_ (some 91) rfl rfl Tryd.func54 (by kernel_rfl) rfl #[.agg #[.string t361, .int .i64 t362, .int .i64 t363]] rfl gl ?_; (with_reducible refine (stowageref13_Read.calls kj68 t361 t362 t363 t366 t367 t368 t369 _ A88.out).mono ?_); rintro e w98 ⟨v370, rfl, ho0, hb⟩; refine ⟨_, rfl, ?_⟩; have HO371 := am (Kd.R_lower ho0 (below_size (bws HB.out))); replace BK326 := am (blk_below (g := gb326) (o := .cells #[.int .i64 0, .string (⟨#[]⟩ : ByteArray), .string (⟨#[]⟩ : ByteArray), .string (⟨#[]⟩ : ByteArray), .int .i64 0, .int .i64 0, .string (⟨#[]⟩ : ByteArray), .slice none 0 0, .slice none 0 0] 34 (0, 0)) (bkf BK326.out) hb); replace BK331 := am (blk_below (g := gb331) (o := .cells #[.string x332000_68, .int .i64 x332001_68, .int .i64 x332002_68] 85 (0, 0)) (bkf BK331.out) hb); replace BK332 := am (blk_below (g := gb332) (o := .cells #[.int .i64 t330, .string x333001_13, .string x333002_13, .string x333003_37, .int .i64 x333004_53, .int .i64 x333005_68, .string (⟨#[]⟩ : ByteArray), .slice none 0 0, .slice none 0 0] 34 (0, 0)) (bkf BK332.out) hb); replace BK365 := am (blk_below (g := gb365) (o := .cells #[.string t361, .int .i64 t362, .int .i64 t363] 85 (0, 0)) (bkp BK365.out) hb); replace HB := am (below_step (bws HB.out) hb); (try clear hb); (try clear ho0)) | ((with_reducible refine gate_dst (N := 19) rfl ?_); refine bx 19 #[.string (⟨#[]⟩ : ByteArray), .int .i64 0, .int .i64 0] 85 ?_; intro gb372 hg w99 hbox hb; have BK372 := am (hbox); have GW372 := gsz hg HB.out; have GE372 := gsz hg HB.out; have NB326_372 := nlt (g := gb326) hg BK326.out; have NB372_326 := ngt (g := gb326) hg BK326.out; have NB331_372 := nlt (g := gb331) hg BK331.out; have NB372_331 := ngt (g := gb331) hg BK331.out; have NB332_372 := nlt (g := gb332) hg BK332.out; have NB372_332 := ngt (g := gb332) hg BK332.out; have NB365_372 := nlt (g := gb365) hg BK365.out; have NB372_365 := ngt (g := gb365) hg BK365.out; replace HO371 := am (Kd.R_below (kR HO371.out) hb); replace BK326 := bb BK326.out hb; replace BK331 := bb BK331.out hb; replace BK332 := bb BK332.out hb; replace BK365 := bb BK365.out hb; replace HB := am (below_step (bws HB.out) hb); clear hb hbox hg; have hnb100 := NB372_326.out; have hnc100 := NB326_372.out; have hnb101 := NB372_331.out; have hnc101 := NB331_372.out; have hnb102 := NB372_332.out; have hnc102 := NB332_372.out; have hnb103 := NB372_365.out; have hnc103 := NB365_372.out; obtain ⟨hcz104_0, hcz104_1, hcz104_2, hfz104_0, hfz104_1, hfz104_2⟩ := cz3 BK372.out; have hnb105 := NB332_326.out; have hnc105 := NB326_332.out; obtain ⟨hcz106_0, hcz106_1, hcz106_2, hcz106_3, hcz106_4, hcz106_5, hcz106_6, hcz106_7, hcz106_8, hfz106_0, hfz106_1, hfz106_2, hfz106_3, hfz106_4, hfz106_5, hfz106_6, hfz106_7, hfz106_8⟩ := cz9 BK332.out; obtain ⟨Ao107, co107, eo107⟩ := Kd.R_slice HO371.out; subst eo107; obtain ⟨hcz108_0, hcz108_1, hcz108_2, hfz108_0, hfz108_1, hfz108_2⟩ := cz3 BK331.out))
             go_meet
             case rel => exact ⟨_, (t366), (t367), (t368), (t364), (t369), (.slice Ao107 t369.length co107), H', ⟨by have := HJ2.out; have := HJ13.out; have := HJ37.out; have := HJ53.out; have := HJ68.out; first | omega | exact Nat.le_refl _⟩, ⟨by (with_reducible repeat (first | apply Kd.R_alloc | apply Kd.R_drewN | apply Kd.R_drew)); exact Kd.R_mono (Kd.R_far (p := ⟨gb331, 2, none⟩) (Kd.R_far (p := ⟨gb331, 1, none⟩) (Kd.R_far (p := ⟨gb331, 0, none⟩) (Kd.R_far (p := ⟨gb332, 7, none⟩) (Kd.R_far (p := ⟨gb332, 6, none⟩) (Kd.R_far (p := ⟨gb372, 2, none⟩) (Kd.R_far (p := ⟨gb372, 1, none⟩) (Kd.R_far (p := ⟨gb372, 0, none⟩) (Kd.R_types (Kd.R_types (Kd.R_types HO371.out BK372.out (by decide)) BK332.out (by decide)) BK331.out (by decide)) (fun _ hk => hk.1.1.2) (.string t366)) (fun _ hk => hk.1.1.2) (.int .i64 t367)) (fun _ hk => hk.1.1.2) (.int .i64 t368)) (fun _ hk => hk.1.2) (.string t364)) (fun _ hk => hk.1.2) (.slice Ao107 t369.length co107)) (fun _ hk => hk.2) (.string t366)) (fun _ hk => hk.2) (.int .i64 t367)) (fun _ hk => hk.2) (.int .i64 t368)) (fun _ hk => trivial)⟩, ⟨bkf BK326.out⟩, ⟨bkf BK331.out⟩, ⟨bkf BK332.out⟩, ⟨bws HB.out⟩⟩
            ·
             replace c86 := Bool.eq_false_iff.mpr c86
             subst c86
             rw [if_neg (show ¬ (false = true) by decide)] at H
             have H' := am H
             clear H
             go_wp2
             go_meet
             case rel => exact ⟨_, (x332000_68), (x332001_68), (x332002_68), ((⟨#[]⟩ : ByteArray)), (([] : List (S95))), (.slice none 0 0), H', ⟨by have := HJ2.out; have := HJ13.out; have := HJ37.out; have := HJ53.out; have := HJ68.out; first | omega | exact Nat.le_refl _⟩, ⟨niR⟩, ⟨bk BK326.out⟩, ⟨bk BK331.out⟩, ⟨bk BK332.out⟩, ⟨bws HB.out⟩⟩
           case rest =>
            clear HC85
            try clear hcz12_0 hcz12_1 hcz12_2 hcz12_3 hcz12_4 hcz12_5 hcz12_6 hcz12_7 hcz12_8 hfz12_0 hfz12_1 hfz12_2 hfz12_3 hfz12_4 hfz12_5 hfz12_6 hfz12_7 hfz12_8
            try clear hcz8_0 hcz8_1 hcz8_2 hfz8_0 hfz8_1 hfz8_2
            obtain ⟨kq, x332000_84, x332001_84, x332002_84, x333006_84, x333007_84, u333007, HA, HJ84, HO_333007, BK326, BK331, BK332, HB⟩ := hcut
            cases kq with
            | zero => exact absurd HA.out (by simp [stowageref16_Decode.j5])
            | succ kj84 =>
             have H := HA.out
             clear HA
             simp only [stowageref16_Decode.j5] at H
             have HC109 := am H
             clear H
             go_upto_if 100 with (fail)
             go_cut [] (fun wc => ∃ (kq : Nat) (x332000_108 : ByteArray) (x332001_108 : Int) (x332002_108 : Int) (x333008_108 : List (S61)) (u333008 : Value), Aside0 (stowageref16_Decode.j6 kq x332000_108 x332001_108 x332002_108 t330 x333001_13 x333002_13 x333003_37 x333004_53 x333005_68 x333006_84 x333007_84 x333008_108 = some (r1, r2, r3, r4, r5, r6, r7, r8, r9, r10)) ∧ Aside0 (kq ≤ kj84) ∧ Aside0 (Kd.R k95 95 wc w.heap.size (fun _ => True) u333007 x333007_84) ∧ Aside0 (Kd.R k61 61 wc w.heap.size (fun _ => True) u333008 x333008_108) ∧ Aside0 (wc.heap[gb326]? = some (.cells #[.int .i64 0, .string (⟨#[]⟩ : ByteArray), .string (⟨#[]⟩ : ByteArray), .string (⟨#[]⟩ : ByteArray), .int .i64 0, .int .i64 0, .string (⟨#[]⟩ : ByteArray), (.slice none 0 0), (.slice none 0 0)] 34 (0, 0))) ∧ Aside0 (wc.heap[gb331]? = some (.cells #[.string x332000_108, .int .i64 x332001_108, .int .i64 x332002_108] 85 (0, 0))) ∧ Aside0 (wc.heap[gb332]? = some (.cells #[.int .i64 t330, .string x333001_13, .string x333002_13, .string x333003_37, .int .i64 x333004_53, .int .i64 x333005_68, .string x333006_84, u333007, u333008] 34 (0, 0))) ∧ Aside0 (Below w.heap.size w wc))
             case first =>
              have H := HC109.out
              clear HC109
              by_cases c110 : t330 = 8
              ·
               rw [if_pos c110] at H
               have c110b0 := beq_iff_eq.mpr c110
               have c110b1 := bne_eq_false_iff_eq.mpr c110
               clear c110
               (first | rw [c110b0] | (simp only [i64_w, i32_w]; rw [c110b0]) | skip)
               replace H := obE H
               obtain ⟨⟨t373, t374, t375, t376⟩, A111, H⟩ := H
               try dsimp only at H
               have H' := am H
               clear H
               have hnb112 := NB331_326.out
               have hnc112 := NB326_331.out
               have hnb113 := NB331_332.out
               have hnc113 := NB332_331.out
               obtain ⟨hcz114_0, hcz114_1, hcz114_2, hfz114_0, hfz114_1, hfz114_2⟩ := cz3 BK331.out
               go_wp2_with (first | ((with_reducible refine gate_callee (f := 55) rfl ?_); refine goesL_ (some 103) rfl rfl Tryd.func55 (by kernel_rfl) rfl #[.agg #[.string x332000_84, .int .i64 x332001_84, .int .i64 x332002_84]] rfl gl ?_; (with_reducible refine (stowageref16_picks.calls kj84 x332000_84 x332001_84 x332002_84 t373 t374 t375 t376 _ A111.out).mono ?_); rintro e w115 ⟨v377, rfl, ho0, hb⟩; refine ⟨_, rfl, ?_⟩; replace HO_333007 := am (Kd.R_below (kR HO_333007.out) hb); have HO378 := am (Kd.R_lower ho0 (below_size (bws HB.out))); replace BK326 := bb BK326.out hb; replace BK331 := bb BK331.out hb; replace BK332 := bb BK332.out hb; replace HB := am (below_step (bws HB.out) hb); (try clear hb); (try clear ho0)) | ((with_reducible refine gate_dst (N := 21) rfl ?_); refine bx 21 #[.string (⟨#[]⟩ : ByteArray), .int .i64 0, .int .i64 0] 85 ?_; intro gb379 hg w116 hbox hb; have BK379 := am (hbox); have GW379 := gsz hg HB.out; have GE379 := gsz hg HB.out; have NB326_379 := nlt (g := gb326) hg BK326.out; have NB379_326 := ngt (g := gb326) hg BK326.out; have NB331_379 := nlt (g := gb331) hg BK331.out; have NB379_331 := ngt (g := gb331) hg BK331.out; have NB332_379 := nlt (g := gb332) hg BK332.out; have NB379_332 := ngt (g := gb332) hg BK332.out; replace HO_333007 := am (Kd.R_below (kR HO_333007.out) hb); replace HO378 := am (Kd.R_below (kR HO378.out) hb); replace BK326 := bb BK326.out hb; replace BK331 := bb BK331.out hb; replace BK332 := bb BK332.out hb; replace HB := am (below_step (bws HB.out) hb); clear hb hbox hg; have hnb117 := NB379_326.out; have hnc117 := NB326_379.out; have hnb118 := NB379_331.out; have hnc118 := NB331_379.out; have hnb119 := NB379_332.out; have hnc119 := NB332_379.out; obtain ⟨hcz120_0, hcz120_1, hcz120_2, hfz120_0, hfz120_1, hfz120_2⟩ := cz3 BK379.out; obtain ⟨Ao121, co121, eo121⟩ := Kd.R_slice HO378.out; subst eo121; have hnb122 := NB332_326.out; have hnc122 := NB326_332.out; obtain ⟨hcz123_0, hcz123_1, hcz123_2, hcz123_3, hcz123_4, hcz123_5, hcz123_6, hcz123_7, hcz123_8, hfz123_0, hfz123_1, hfz123_2, hfz123_3, hfz123_4, hfz123_5, hfz123_6, hfz123_7, hfz123_8⟩ := cz9 BK332.out; obtain ⟨hcz124_0, hcz124_1, hcz124_2, hfz124_0, hfz124_1, hfz124_2⟩ := cz3 BK331.out))
               go_meet
               case rel => exact ⟨_, (t373), (t374), (t375), (t376), (.slice Ao121 t376.length co121), H', ⟨by have := HJ2.out; have := HJ13.out; have := HJ37.out; have := HJ53.out; have := HJ68.out; have := HJ84.out; first | omega | exact Nat.le_refl _⟩, ⟨by (with_reducible repeat (first | apply Kd.R_alloc | apply Kd.R_drewN | apply Kd.R_drew)); exact Kd.R_mono (Kd.R_far (p := ⟨gb331, 2, none⟩) (Kd.R_far (p := ⟨gb331, 1, none⟩) (Kd.R_far (p := ⟨gb331, 0, none⟩) (Kd.R_far (p := ⟨gb332, 8, none⟩) (Kd.R_far (p := ⟨gb379, 2, none⟩) (Kd.R_far (p := ⟨gb379, 1, none⟩) (Kd.R_far (p := ⟨gb379, 0, none⟩) (Kd.R_types (Kd.R_types (Kd.R_types HO_333007.out BK379.out (by decide)) BK332.out (by decide)) BK331.out (by decide)) (fun _ hk => hk.1.1.2) (.string t373)) (fun _ hk => hk.1.1.2) (.int .i64 t374)) (fun _ hk => hk.1.1.2) (.int .i64 t375)) (fun _ hk => hk.1.2) (.slice Ao121 t376.length co121)) (fun _ hk => hk.2) (.string t373)) (fun _ hk => hk.2) (.int .i64 t374)) (fun _ hk => hk.2) (.int .i64 t375)) (fun _ hk => trivial)⟩, ⟨by (with_reducible repeat (first | apply Kd.R_alloc | apply Kd.R_drewN | apply Kd.R_drew)); exact Kd.R_mono (Kd.R_far (p := ⟨gb331, 2, none⟩) (Kd.R_far (p := ⟨gb331, 1, none⟩) (Kd.R_far (p := ⟨gb331, 0, none⟩) (Kd.R_far (p := ⟨gb332, 8, none⟩) (Kd.R_far (p := ⟨gb379, 2, none⟩) (Kd.R_far (p := ⟨gb379, 1, none⟩) (Kd.R_far (p := ⟨gb379, 0, none⟩) (Kd.R_types (Kd.R_types (Kd.R_types HO378.out BK379.out (by decide)) BK332.out (by decide)) BK331.out (by decide)) (fun _ hk => hk.1.1.2) (.string t373)) (fun _ hk => hk.1.1.2) (.int .i64 t374)) (fun _ hk => hk.1.1.2) (.int .i64 t375)) (fun _ hk => hk.1.2) (.slice Ao121 t376.length co121)) (fun _ hk => hk.2) (.string t373)) (fun _ hk => hk.2) (.int .i64 t374)) (fun _ hk => hk.2) (.int .i64 t375)) (fun _ hk => trivial)⟩, ⟨bkf BK326.out⟩, ⟨bkf BK331.out⟩, ⟨bkf BK332.out⟩, ⟨bws HB.out⟩⟩
              ·
               rw [if_neg c110] at H
               have c110b0 := beq_eq_false_iff_ne.mpr c110
               have c110b1 := bne_iff_ne.mpr c110
               (first | rw [c110b0] | (simp only [i64_w, i32_w]; rw [c110b0]) | skip)
               have H' := am H
               clear H
               go_wp2
               go_meet
               case rel => exact ⟨_, (x332000_84), (x332001_84), (x332002_84), (([] : List (S61))), (.slice none 0 0), H', ⟨by have := HJ2.out; have := HJ13.out; have := HJ37.out; have := HJ53.out; have := HJ68.out; have := HJ84.out; first | omega | exact Nat.le_refl _⟩, ⟨kR HO_333007.out⟩, ⟨niR⟩, ⟨bk BK326.out⟩, ⟨bk BK331.out⟩, ⟨bk BK332.out⟩, ⟨bws HB.out⟩⟩
             case rest =>
              clear HC109
              try clear hcz12_0 hcz12_1 hcz12_2 hcz12_3 hcz12_4 hcz12_5 hcz12_6 hcz12_7 hcz12_8 hfz12_0 hfz12_1 hfz12_2 hfz12_3 hfz12_4 hfz12_5 hfz12_6 hfz12_7 hfz12_8
              try clear hcz8_0 hcz8_1 hcz8_2 hfz8_0 hfz8_1 hfz8_2
              obtain ⟨kq, x332000_108, x332001_108, x332002_108, x333008_108, u333008, HA, HJ108, HO_333007, HO_333008, BK326, BK331, BK332, HB⟩ := hcut
              cases kq with
              | zero => exact absurd HA.out (by simp [stowageref16_Decode.j6])
              | succ kj108 =>
               have H := HA.out
               clear HA
               simp only [stowageref16_Decode.j6] at H
               replace H := obE H
               obtain ⟨⟨t380, t381, t382⟩, A125, H⟩ := H
               try dsimp only at H
               by_cases c126 : t382 = 0
               ·
                rw [if_pos c126] at H
                have c126b0 := beq_iff_eq.mpr c126
                have c126b1 := bne_eq_false_iff_eq.mpr c126
                clear c126
                replace H := obE H
                obtain ⟨t383, A127, H⟩ := H
                by_cases c128 : t383 = 0
                ·
                 rw [if_pos c128] at H
                 have c128b0 := beq_iff_eq.mpr c128
                 have c128b1 := bne_eq_false_iff_eq.mpr c128
                 clear c128
                 simp only [Option.some.injEq, Prod.mk.injEq] at H
                 obtain ⟨rfl, rfl, rfl, rfl, rfl, rfl, rfl, rfl, rfl, rfl⟩ := H
                 have hnb129 := NB331_326.out
                 have hnc129 := NB326_331.out
                 have hnb130 := NB331_332.out
                 have hnc130 := NB332_331.out
                 obtain ⟨hcz131_0, hcz131_1, hcz131_2, hfz131_0, hfz131_1, hfz131_2⟩ := cz3 BK331.out
                 go_wp2_with (first | ((with_reducible refine gate_callee (f := 56) rfl ?_); refine goesL_ (some 110) rfl rfl Tryd.func56 (by kernel_rfl) rfl #[.agg #[.string x332000_108, .int .i64 x332001_108, .int .i64 x332002_108]] rfl gl ?_; (with_reducible refine (stowageref01_Reader_End.calls x332000_108 x332001_108 x332002_108 t380 t381 t382 _ A125.out).mono ?_); rintro e w132 ⟨rfl, hb⟩; refine ⟨_, rfl, ?_⟩; replace HO_333007 := am (Kd.R_below (kR HO_333007.out) hb); replace HO_333008 := am (Kd.R_below (kR HO_333008.out) hb); replace BK326 := bb BK326.out hb; replace BK331 := bb BK331.out hb; replace BK332 := bb BK332.out hb; replace HB := am (below_step (bws HB.out) hb); (try clear hb); have hnb133 := NB332_326.out; have hnc133 := NB326_332.out; obtain ⟨hcz134_0, hcz134_1, hcz134_2, hcz134_3, hcz134_4, hcz134_5, hcz134_6, hcz134_7, hcz134_8, hfz134_0, hfz134_1, hfz134_2, hfz134_3, hfz134_4, hfz134_5, hfz134_6, hfz134_7, hfz134_8⟩ := cz9 BK332.out; obtain ⟨Ao135, co135, eo135⟩ := Kd.R_slice HO_333007.out; subst eo135; obtain ⟨Ao136, co136, eo136⟩ := Kd.R_slice HO_333008.out; subst eo136) | (go_at_call 15; (with_reducible refine (stowageref16_Check.calls kj108 t330 x333001_13 x333002_13 x333003_37 x333004_53 x333005_68 x333006_84 _ _ x333007_84 _ _ x333008_108 t383 _ ?side1 ?side2 ?side3 ?side4 A127.out).mono ?_); (case side1 => repeat (first | exact (Kd.R_reads' HO_333007.out).2.2 | (with_reducible refine Kd.C_alloc ?_ _) | (with_reducible refine Kd.C_drewN ?_ _) | (with_reducible refine Kd.C_drew ?_))); (case side2 => exact (Kd.R_reads' HO_333007.out).2.1); (case side3 => repeat (first | exact (Kd.R_reads' HO_333008.out).2.2 | (with_reducible refine Kd.C_alloc ?_ _) | (with_reducible refine Kd.C_drewN ?_ _) | (with_reducible refine Kd.C_drew ?_))); (case side4 => exact (Kd.R_reads' HO_333008.out).2.1); rintro e w137 ⟨rfl, hb⟩; replace HO_333007 := am (Kd.R_below (kR HO_333007.out) hb); replace HO_333008 := am (Kd.R_below (kR HO_333008.out) hb); replace BK326 := bb BK326.out hb; replace BK331 := bb BK331.out hb; replace BK332 := bb BK332.out hb; replace HB := am (below_step (bws HB.out) hb); (try clear hb); obtain ⟨hcz138_0, hcz138_1, hcz138_2, hcz138_3, hcz138_4, hcz138_5, hcz138_6, hcz138_7, hcz138_8, hfz138_0, hfz138_1, hfz138_2, hfz138_3, hfz138_4, hfz138_5, hfz138_6, hfz138_7, hfz138_8⟩ := cz9 BK332.out; obtain ⟨hcz139_0, hcz139_1, hcz139_2, hcz139_3, hcz139_4, hcz139_5, hcz139_6, hcz139_7, hcz139_8, hfz139_0, hfz139_1, hfz139_2, hfz139_3, hfz139_4, hfz139_5, hfz139_6, hfz139_7, hfz139_8⟩ := cz9 BK326.out))
                 refine bodyPost_ret (results_ct rfl _ _ gb326 34 #[.int .i64 t330, .string x333001_13, .string x333002_13, .string x333003_37, .int .i64 x333004_53, .int .i64 x333005_68, .string x333006_84, .slice Ao135 x333007_84.length co135, .slice Ao136 x333008_108.length co136] (0, 0) _ rfl (bkp BK326.out) Tryd.underlying34 rfl (by kernel_rfl)) rfl ?_
                 exact ⟨_, _, rf, by (with_reducible repeat (first | apply Kd.R_alloc | apply Kd.R_drewN | apply Kd.R_drew)); exact Kd.R_mono (Kd.R_far (p := ⟨gb326, 8, none⟩) (Kd.R_far (p := ⟨gb326, 7, none⟩) (Kd.R_far (p := ⟨gb326, 6, none⟩) (Kd.R_far (p := ⟨gb326, 5, none⟩) (Kd.R_far (p := ⟨gb326, 4, none⟩) (Kd.R_far (p := ⟨gb326, 3, none⟩) (Kd.R_far (p := ⟨gb326, 2, none⟩) (Kd.R_far (p := ⟨gb326, 1, none⟩) (Kd.R_far (p := ⟨gb326, 0, none⟩) (Kd.R_types HO_333007.out BK326.out (by decide)) (fun _ hk => hk.2) (.int .i64 t330)) (fun _ hk => hk.2) (.string x333001_13)) (fun _ hk => hk.2) (.string x333002_13)) (fun _ hk => hk.2) (.string x333003_37)) (fun _ hk => hk.2) (.int .i64 x333004_53)) (fun _ hk => hk.2) (.int .i64 x333005_68)) (fun _ hk => hk.2) (.string x333006_84)) (fun _ hk => hk.2) (.slice Ao135 x333007_84.length co135)) (fun _ hk => hk.2) (.slice Ao136 x333008_108.length co136)) (fun _ hk => trivial), by (with_reducible repeat (first | apply Kd.R_alloc | apply Kd.R_drewN | apply Kd.R_drew)); exact Kd.R_mono (Kd.R_far (p := ⟨gb326, 8, none⟩) (Kd.R_far (p := ⟨gb326, 7, none⟩) (Kd.R_far (p := ⟨gb326, 6, none⟩) (Kd.R_far (p := ⟨gb326, 5, none⟩) (Kd.R_far (p := ⟨gb326, 4, none⟩) (Kd.R_far (p := ⟨gb326, 3, none⟩) (Kd.R_far (p := ⟨gb326, 2, none⟩) (Kd.R_far (p := ⟨gb326, 1, none⟩) (Kd.R_far (p := ⟨gb326, 0, none⟩) (Kd.R_types HO_333008.out BK326.out (by decide)) (fun _ hk => hk.2) (.int .i64 t330)) (fun _ hk => hk.2) (.string x333001_13)) (fun _ hk => hk.2) (.string x333002_13)) (fun _ hk => hk.2) (.string x333003_37)) (fun _ hk => hk.2) (.int .i64 x333004_53)) (fun _ hk => hk.2) (.int .i64 x333005_68)) (fun _ hk => hk.2) (.string x333006_84)) (fun _ hk => hk.2) (.slice Ao135 x333007_84.length co135)) (fun _ hk => hk.2) (.slice Ao136 x333008_108.length co136)) (fun _ hk => trivial), bws HB.out⟩
                ·
                 rw [if_neg c128] at H
                 have c128b0 := beq_eq_false_iff_ne.mpr c128
                 have c128b1 := bne_iff_ne.mpr c128
                 simp only [Option.some.injEq, Prod.mk.injEq] at H
                 obtain ⟨rfl, rfl, rfl, rfl, rfl, rfl, rfl, rfl, rfl, rfl⟩ := H
                 have hnb140 := NB331_326.out
                 have hnc140 := NB326_331.out
                 have hnb141 := NB331_332.out
                 have hnc141 := NB332_331.out
                 obtain ⟨hcz142_0, hcz142_1, hcz142_2, hfz142_0, hfz142_1, hfz142_2⟩ := cz3 BK331.out
                 go_wp2_with (first | ((with_reducible refine gate_callee (f := 56) rfl ?_); refine goesL_ (some 110) rfl rfl Tryd.func56 (by kernel_rfl) rfl #[.agg #[.string x332000_108, .int .i64 x332001_108, .int .i64 x332002_108]] rfl gl ?_; (with_reducible refine (stowageref01_Reader_End.calls x332000_108 x332001_108 x332002_108 t380 t381 t382 _ A125.out).mono ?_); rintro e w143 ⟨rfl, hb⟩; refine ⟨_, rfl, ?_⟩; replace HO_333007 := am (Kd.R_below (kR HO_333007.out) hb); replace HO_333008 := am (Kd.R_below (kR HO_333008.out) hb); replace BK326 := bb BK326.out hb; replace BK331 := bb BK331.out hb; replace BK332 := bb BK332.out hb; replace HB := am (below_step (bws HB.out) hb); (try clear hb); have hnb144 := NB332_326.out; have hnc144 := NB326_332.out; obtain ⟨hcz145_0, hcz145_1, hcz145_2, hcz145_3, hcz145_4, hcz145_5, hcz145_6, hcz145_7, hcz145_8, hfz145_0, hfz145_1, hfz145_2, hfz145_3, hfz145_4, hfz145_5, hfz145_6, hfz145_7, hfz145_8⟩ := cz9 BK332.out; obtain ⟨Ao146, co146, eo146⟩ := Kd.R_slice HO_333007.out; subst eo146; obtain ⟨Ao147, co147, eo147⟩ := Kd.R_slice HO_333008.out; subst eo147) | (go_at_call 15; (with_reducible refine (stowageref16_Check.calls kj108 t330 x333001_13 x333002_13 x333003_37 x333004_53 x333005_68 x333006_84 _ _ x333007_84 _ _ x333008_108 t383 _ ?side1 ?side2 ?side3 ?side4 A127.out).mono ?_); (case side1 => repeat (first | exact (Kd.R_reads' HO_333007.out).2.2 | (with_reducible refine Kd.C_alloc ?_ _) | (with_reducible refine Kd.C_drewN ?_ _) | (with_reducible refine Kd.C_drew ?_))); (case side2 => exact (Kd.R_reads' HO_333007.out).2.1); (case side3 => repeat (first | exact (Kd.R_reads' HO_333008.out).2.2 | (with_reducible refine Kd.C_alloc ?_ _) | (with_reducible refine Kd.C_drewN ?_ _) | (with_reducible refine Kd.C_drew ?_))); (case side4 => exact (Kd.R_reads' HO_333008.out).2.1); rintro e w148 ⟨rfl, hb⟩; replace HO_333007 := am (Kd.R_below (kR HO_333007.out) hb); replace HO_333008 := am (Kd.R_below (kR HO_333008.out) hb); replace BK326 := bb BK326.out hb; replace BK331 := bb BK331.out hb; replace BK332 := bb BK332.out hb; replace HB := am (below_step (bws HB.out) hb); (try clear hb); obtain ⟨hcz149_0, hcz149_1, hcz149_2, hcz149_3, hcz149_4, hcz149_5, hcz149_6, hcz149_7, hcz149_8, hfz149_0, hfz149_1, hfz149_2, hfz149_3, hfz149_4, hfz149_5, hfz149_6, hfz149_7, hfz149_8⟩ := cz9 BK326.out))
                 refine bodyPost_ret (results_ct rfl _ _ gb326 34 #[.int .i64 0, .string (⟨#[]⟩ : ByteArray), .string (⟨#[]⟩ : ByteArray), .string (⟨#[]⟩ : ByteArray), .int .i64 0, .int .i64 0, .string (⟨#[]⟩ : ByteArray), .slice none 0 0, .slice none 0 0] (0, 0) _ rfl (bkp BK326.out) Tryd.underlying34 rfl (by kernel_rfl)) rfl ?_
                 exact ⟨_, _, rf, niR, niR, bws HB.out⟩
               ·
                rw [if_neg c126] at H
                have c126b0 := beq_eq_false_iff_ne.mpr c126
                have c126b1 := bne_iff_ne.mpr c126
                simp only [Option.some.injEq, Prod.mk.injEq] at H
                obtain ⟨rfl, rfl, rfl, rfl, rfl, rfl, rfl, rfl, rfl, rfl⟩ := H
                have hnb150 := NB331_326.out
                have hnc150 := NB326_331.out
                have hnb151 := NB331_332.out
                have hnc151 := NB332_331.out
                obtain ⟨hcz152_0, hcz152_1, hcz152_2, hfz152_0, hfz152_1, hfz152_2⟩ := cz3 BK331.out
                go_wp2_with (first | ((with_reducible refine gate_callee (f := 56) rfl ?_); refine goesL_ (some 110) rfl rfl Tryd.func56 (by kernel_rfl) rfl #[.agg #[.string x332000_108, .int .i64 x332001_108, .int .i64 x332002_108]] rfl gl ?_; (with_reducible refine (stowageref01_Reader_End.calls x332000_108 x332001_108 x332002_108 t380 t381 t382 _ A125.out).mono ?_); rintro e w153 ⟨rfl, hb⟩; refine ⟨_, rfl, ?_⟩; replace HO_333007 := am (Kd.R_below (kR HO_333007.out) hb); replace HO_333008 := am (Kd.R_below (kR HO_333008.out) hb); replace BK326 := bb BK326.out hb; replace BK331 := bb BK331.out hb; replace BK332 := bb BK332.out hb; replace HB := am (below_step (bws HB.out) hb); (try clear hb); have hnb154 := NB326_332.out; have hnc154 := NB332_326.out; obtain ⟨hcz155_0, hcz155_1, hcz155_2, hcz155_3, hcz155_4, hcz155_5, hcz155_6, hcz155_7, hcz155_8, hfz155_0, hfz155_1, hfz155_2, hfz155_3, hfz155_4, hfz155_5, hfz155_6, hfz155_7, hfz155_8⟩ := cz9 BK326.out))
                refine bodyPost_ret (results_ct rfl _ _ gb326 34 #[.int .i64 0, .string (⟨#[]⟩ : ByteArray), .string (⟨#[]⟩ : ByteArray), .string (⟨#[]⟩ : ByteArray), .int .i64 0, .int .i64 0, .string (⟨#[]⟩ : ByteArray), .slice none 0 0, .slice none 0 0] (0, 0) _ rfl (bkp BK326.out) Tryd.underlying34 rfl (by kernel_rfl)) rfl ?_
                exact ⟨_, _, rf, niR, niR, bws HB.out⟩
end Go.Proofs.YtdidopoalmkhlaaDoor.Or
end
section
namespace Go.Proofs.YtdidopoalmkhlaaDoor.Or
open Go.RowKit Go.Proofs.YtdidopoalmkhlaaDoorW.PrintWords Go.Proofs.YtdidopoalmkhlaaDoorW.PrintLast Go.Proofs.YtdidopoalmkhlaaDoorW.PrintMore
attribute [local go_sem] max2_int min2_int max_two min_two max_three min_three max_four min_four
set_option linter.unusedVariables false
set_option linter.unusedSimpArgs false
attribute [local go_sem high] eqA61 eqA95
mutual
def stowageref16_Same.j0 : Nat → Bool → Int → ByteArray → ByteArray → ByteArray → Int → Int → ByteArray → List (S95) → List (S61) → Int → ByteArray → ByteArray → ByteArray → Int → Int → ByteArray → List (S95) → List (S61) → Option (Bool)
 | 0, _, _, _, _, _, _, _, _, _, _, _, _, _, _, _, _, _, _, _ => none
 | k + 1, x71, x385000, x385001, x385002, x385003, x385004, x385005, x385006, x385007, x385008, x386000, x386001, x386002, x386003, x386004, x386005, x386006, x386007, x386008 => if x71 = true then (some false) else (stowageref16_Same.l0 k 0 x385000 x385001 x385002 x385003 x385004 x385005 x385006 x385007 x385008 x386000 x386001 x386002 x386003 x386004 x386005 x386006 x386007 x386008)
def stowageref16_Same.l0 : Nat → Int → Int → ByteArray → ByteArray → ByteArray → Int → Int → ByteArray → List (S95) → List (S61) → Int → ByteArray → ByteArray → ByteArray → Int → Int → ByteArray → List (S95) → List (S61) → Option (Bool)
 | 0, _, _, _, _, _, _, _, _, _, _, _, _, _, _, _, _, _, _, _ => none
 | k + 1, x5, x385000, x385001, x385002, x385003, x385004, x385005, x385006, x385007, x385008, x386000, x386001, x386002, x386003, x386004, x386005, x386006, x386007, x386008 => if x5 < (x385007.length : Int) then (if 0 ≤ x5 then (if x5 < (x386007.length : Int) then (if (!((((rd_T95 x385007 x5).f0).toList) == (((rd_T95 x386007 x5).f0).toList)) || (!(((rd_T95 x385007 x5).f1) == ((rd_T95 x386007 x5).f1)))) = true then (some false) else (stowageref16_Same.l0 k (wrap64 (x5 + 1)) x385000 x385001 x385002 x385003 x385004 x385005 x385006 x385007 x385008 x386000 x386001 x386002 x386003 x386004 x386005 x386006 x386007 x386008)) else (none)) else (none)) else (stowageref16_Same.l1 k 0 x385000 x385001 x385002 x385003 x385004 x385005 x385006 x385007 x385008 x386000 x386001 x386002 x386003 x386004 x386005 x386006 x386007 x386008)
def stowageref16_Same.l1 : Nat → Int → Int → ByteArray → ByteArray → ByteArray → Int → Int → ByteArray → List (S95) → List (S61) → Int → ByteArray → ByteArray → ByteArray → Int → Int → ByteArray → List (S95) → List (S61) → Option (Bool)
 | 0, _, _, _, _, _, _, _, _, _, _, _, _, _, _, _, _, _, _, _ => none
 | k + 1, x6, x385000, x385001, x385002, x385003, x385004, x385005, x385006, x385007, x385008, x386000, x386001, x386002, x386003, x386004, x386005, x386006, x386007, x386008 => if x6 < (x385008.length : Int) then (if 0 ≤ x6 then (if x6 < (x386008.length : Int) then (if (!(((rd_T61 x385008 x6).f0) == ((rd_T61 x386008 x6).f0)) || (!((((rd_T61 x385008 x6).f1).toList) == (((rd_T61 x386008 x6).f1).toList)))) = true then (some false) else (stowageref16_Same.l1 k (wrap64 (x6 + 1)) x385000 x385001 x385002 x385003 x385004 x385005 x385006 x385007 x385008 x386000 x386001 x386002 x386003 x386004 x386005 x386006 x386007 x386008)) else (none)) else (none)) else (some true)
end
def stowageref16_Same.f (k : Nat) (a0_0 : Int) (a0_1 : ByteArray) (a0_2 : ByteArray) (a0_3 : ByteArray) (a0_4 : Int) (a0_5 : Int) (a0_6 : ByteArray) (l0_7 : List (S95)) (l0_8 : List (S61)) (a1_0 : Int) (a1_1 : ByteArray) (a1_2 : ByteArray) (a1_3 : ByteArray) (a1_4 : Int) (a1_5 : Int) (a1_6 : ByteArray) (l1_7 : List (S95)) (l1_8 : List (S61)) : Option (Bool) := if a0_0 = a1_0 then (if a0_1.toList = a1_1.toList then (if a0_2.toList = a1_2.toList then (if a0_3.toList = a1_3.toList then (if a0_4 = a1_4 then (if a0_5 = a1_5 then (if a0_6.toList = a1_6.toList then (if (l0_7.length : Int) = (l1_7.length : Int) then (stowageref16_Same.j0 k ((l0_8.length : Int) != (l1_8.length : Int)) a0_0 a0_1 a0_2 a0_3 a0_4 a0_5 a0_6 l0_7 l0_8 a1_0 a1_1 a1_2 a1_3 a1_4 a1_5 a1_6 l1_7 l1_8) else (stowageref16_Same.j0 k true a0_0 a0_1 a0_2 a0_3 a0_4 a0_5 a0_6 l0_7 l0_8 a1_0 a1_1 a1_2 a1_3 a1_4 a1_5 a1_6 l1_7 l1_8)) else (stowageref16_Same.j0 k true a0_0 a0_1 a0_2 a0_3 a0_4 a0_5 a0_6 l0_7 l0_8 a1_0 a1_1 a1_2 a1_3 a1_4 a1_5 a1_6 l1_7 l1_8)) else (stowageref16_Same.j0 k true a0_0 a0_1 a0_2 a0_3 a0_4 a0_5 a0_6 l0_7 l0_8 a1_0 a1_1 a1_2 a1_3 a1_4 a1_5 a1_6 l1_7 l1_8)) else (stowageref16_Same.j0 k true a0_0 a0_1 a0_2 a0_3 a0_4 a0_5 a0_6 l0_7 l0_8 a1_0 a1_1 a1_2 a1_3 a1_4 a1_5 a1_6 l1_7 l1_8)) else (stowageref16_Same.j0 k true a0_0 a0_1 a0_2 a0_3 a0_4 a0_5 a0_6 l0_7 l0_8 a1_0 a1_1 a1_2 a1_3 a1_4 a1_5 a1_6 l1_7 l1_8)) else (stowageref16_Same.j0 k true a0_0 a0_1 a0_2 a0_3 a0_4 a0_5 a0_6 l0_7 l0_8 a1_0 a1_1 a1_2 a1_3 a1_4 a1_5 a1_6 l1_7 l1_8)) else (stowageref16_Same.j0 k true a0_0 a0_1 a0_2 a0_3 a0_4 a0_5 a0_6 l0_7 l0_8 a1_0 a1_1 a1_2 a1_3 a1_4 a1_5 a1_6 l1_7 l1_8)) else (stowageref16_Same.j0 k true a0_0 a0_1 a0_2 a0_3 a0_4 a0_5 a0_6 l0_7 l0_8 a1_0 a1_1 a1_2 a1_3 a1_4 a1_5 a1_6 l1_7 l1_8)
theorem stowageref16_Same.mono_l : ∀ k, (∀ y0 y1 y2 y3 y4 y5 y6 y7 y8 y9 y10 y11 y12 y13 y14 y15 y16 y17 y18, LeO (stowageref16_Same.j0 k y0 y1 y2 y3 y4 y5 y6 y7 y8 y9 y10 y11 y12 y13 y14 y15 y16 y17 y18) (stowageref16_Same.j0 (k + 1) y0 y1 y2 y3 y4 y5 y6 y7 y8 y9 y10 y11 y12 y13 y14 y15 y16 y17 y18)) ∧ (∀ y0 y1 y2 y3 y4 y5 y6 y7 y8 y9 y10 y11 y12 y13 y14 y15 y16 y17 y18, LeO (stowageref16_Same.l0 k y0 y1 y2 y3 y4 y5 y6 y7 y8 y9 y10 y11 y12 y13 y14 y15 y16 y17 y18) (stowageref16_Same.l0 (k + 1) y0 y1 y2 y3 y4 y5 y6 y7 y8 y9 y10 y11 y12 y13 y14 y15 y16 y17 y18)) ∧ (∀ y0 y1 y2 y3 y4 y5 y6 y7 y8 y9 y10 y11 y12 y13 y14 y15 y16 y17 y18, LeO (stowageref16_Same.l1 k y0 y1 y2 y3 y4 y5 y6 y7 y8 y9 y10 y11 y12 y13 y14 y15 y16 y17 y18) (stowageref16_Same.l1 (k + 1) y0 y1 y2 y3 y4 y5 y6 y7 y8 y9 y10 y11 y12 y13 y14 y15 y16 y17 y18))
 | 0 => ⟨fun _ _ _ _ _ _ _ _ _ _ _ _ _ _ _ _ _ _ _ r h => by simp [stowageref16_Same.j0] at h, fun _ _ _ _ _ _ _ _ _ _ _ _ _ _ _ _ _ _ _ r h => by simp [stowageref16_Same.l0] at h, fun _ _ _ _ _ _ _ _ _ _ _ _ _ _ _ _ _ _ _ r h => by simp [stowageref16_Same.l1] at h⟩
 | k + 1 => by
  obtain ⟨ih0, ih1, ih2⟩ := stowageref16_Same.mono_l k
  refine ⟨?_, ?_, ?_⟩
  all_goals intros
  all_goals first | unfold stowageref16_Same.j0 | unfold stowageref16_Same.l0 | unfold stowageref16_Same.l1
  all_goals repeat' (with_reducible first | exact ih0 _ _ _ _ _ _ _ _ _ _ _ _ _ _ _ _ _ _ _ | exact ih1 _ _ _ _ _ _ _ _ _ _ _ _ _ _ _ _ _ _ _ | exact ih2 _ _ _ _ _ _ _ _ _ _ _ _ _ _ _ _ _ _ _ | exact LeO.refl _ | exact LeO.none _ | refine LeO.ite ?_ ?_ | refine LeO.bind ?_ (fun _ => ?_))
theorem stowageref16_Same.mono : ∀ a0 a1 a2 a3 a4 a5 a6 a7 a8 a9 a10 a11 a12 a13 a14 a15 a16 a17 k, LeO (stowageref16_Same.f k a0 a1 a2 a3 a4 a5 a6 a7 a8 a9 a10 a11 a12 a13 a14 a15 a16 a17) (stowageref16_Same.f (k + 1) a0 a1 a2 a3 a4 a5 a6 a7 a8 a9 a10 a11 a12 a13 a14 a15 a16 a17) := by
 intro a0 a1 a2 a3 a4 a5 a6 a7 a8 a9 a10 a11 a12 a13 a14 a15 a16 a17 k
 obtain ⟨ih0, ih1, ih2⟩ := stowageref16_Same.mono_l k
 unfold stowageref16_Same.f
 repeat' (with_reducible first | exact ih0 _ _ _ _ _ _ _ _ _ _ _ _ _ _ _ _ _ _ _ | exact ih1 _ _ _ _ _ _ _ _ _ _ _ _ _ _ _ _ _ _ _ | exact ih2 _ _ _ _ _ _ _ _ _ _ _ _ _ _ _ _ _ _ _ | exact LeO.refl _ | exact LeO.none _ | refine LeO.ite ?_ ?_ | refine LeO.bind ?_ (fun _ => ?_))
set_option maxHeartbeats 8000000 in
set_option maxRecDepth 100000 in
theorem stowageref16_Same.calls (k : Nat) (a0_0 : Int) (a0_1 : ByteArray) (a0_2 : ByteArray) (a0_3 : ByteArray) (a0_4 : Int) (a0_5 : Int) (a0_6 : ByteArray) (A0_7 : Option Addr) (c0_7 : Nat) (l0_7 : List (S95)) (A0_8 : Option Addr) (c0_8 : Nat) (l0_8 : List (S61)) (a1_0 : Int) (a1_1 : ByteArray) (a1_2 : ByteArray) (a1_3 : ByteArray) (a1_4 : Int) (a1_5 : Int) (a1_6 : ByteArray) (A1_7 : Option Addr) (c1_7 : Nat) (l1_7 : List (S95)) (A1_8 : Option Addr) (c1_8 : Nat) (l1_8 : List (S61)) (r : Bool) (w : World) (hr0_7 : Kd.C k95 w A0_7 l0_7.length l0_7) (hc0_7 : l0_7.length ≤ c0_7) (hr0_8 : Kd.C k61 w A0_8 l0_8.length l0_8) (hc0_8 : l0_8.length ≤ c0_8) (hr1_7 : Kd.C k95 w A1_7 l1_7.length l1_7) (hc1_7 : l1_7.length ≤ c1_7) (hr1_8 : Kd.C k61 w A1_8 l1_8.length l1_8) (hc1_8 : l1_8.length ≤ c1_8) (h : stowageref16_Same.f k a0_0 a0_1 a0_2 a0_3 a0_4 a0_5 a0_6 l0_7 l0_8 a1_0 a1_1 a1_2 a1_3 a1_4 a1_5 a1_6 l1_7 l1_8 = some r) :
  Calls Tryd.prog 18 #[.agg #[.int .i64 a0_0, .string a0_1, .string a0_2, .string a0_3, .int .i64 a0_4, .int .i64 a0_5, .string a0_6, .slice A0_7 l0_7.length c0_7, .slice A0_8 l0_8.length c0_8], .agg #[.int .i64 a1_0, .string a1_1, .string a1_2, .string a1_3, .int .i64 a1_4, .int .i64 a1_5, .string a1_6, .slice A1_7 l1_7.length c1_7, .slice A1_8 l1_8.length c1_8]] w fun e w' => e = .returned (.bool r) ∧ Below w.heap.size w w' := by
 have hu34 := Tryd.underlying34
 have hu95 := Tryd.underlying95
 have hu61 := Tryd.underlying61
 have HR0_7 := am hr0_7
 have HC0_7 := am hc0_7
 clear hr0_7 hc0_7
 have HR0_8 := am hr0_8
 have HC0_8 := am hc0_8
 clear hr0_8 hc0_8
 have HR1_7 := am hr1_7
 have HC1_7 := am hc1_7
 clear hr1_7 hc1_7
 have HR1_8 := am hr1_8
 have HC1_8 := am hc1_8
 clear hr1_8 hc1_8
 have HB := am (Below.refl w.heap.size w)
 have H := h
 clear h
 unfold stowageref16_Same.f at H
 have HC3 := am H
 clear H
 go_enter Tryd.func18, Tryd.ntmps18
 go_upto_region 1 with (first | ((with_reducible refine gate_dst (N := 2) rfl ?_); (try (refine gate_guard (by rfl) ?_; dsimp only)); refine bx 2 #[.int .i64 a0_0, .string a0_1, .string a0_2, .string a0_3, .int .i64 a0_4, .int .i64 a0_5, .string a0_6, .slice A0_7 l0_7.length c0_7, .slice A0_8 l0_8.length c0_8] 34 ?_; intro gb384 hg w4 hbox hb; have BK384 := am (hbox); have GW384 := gsz hg HB.out; have GE384 := gsz hg HB.out; replace HB := am (below_step (bw HB.out) hb); clear hb hbox hg) | ((with_reducible refine gate_dst (N := 3) rfl ?_); (try (refine gate_guard (by rfl) ?_; dsimp only)); refine bx 3 #[.int .i64 a1_0, .string a1_1, .string a1_2, .string a1_3, .int .i64 a1_4, .int .i64 a1_5, .string a1_6, .slice A1_7 l1_7.length c1_7, .slice A1_8 l1_8.length c1_8] 34 ?_; intro gb385 hg w5 hbox hb; have BK385 := am (hbox); have GW385 := gsz hg HB.out; have GE385 := gsz hg HB.out; have NB384_385 := nlt (g := gb384) hg BK384.out; have NB385_384 := ngt (g := gb384) hg BK384.out; replace BK384 := bb BK384.out hb; replace HB := am (below_step (bws HB.out) hb); clear hb hbox hg))
 repeat (go_quiet (first | ((with_reducible refine gate_dst (N := 2) rfl ?_); (try (refine gate_guard (by rfl) ?_; dsimp only)); refine bx 2 #[.int .i64 a0_0, .string a0_1, .string a0_2, .string a0_3, .int .i64 a0_4, .int .i64 a0_5, .string a0_6, .slice A0_7 l0_7.length c0_7, .slice A0_8 l0_8.length c0_8] 34 ?_; intro gb384 hg w4 hbox hb; have BK384 := am (hbox); have GW384 := gsz hg HB.out; have GE384 := gsz hg HB.out; replace HB := am (below_step (bw HB.out) hb); clear hb hbox hg) | ((with_reducible refine gate_dst (N := 3) rfl ?_); (try (refine gate_guard (by rfl) ?_; dsimp only)); refine bx 3 #[.int .i64 a1_0, .string a1_1, .string a1_2, .string a1_3, .int .i64 a1_4, .int .i64 a1_5, .string a1_6, .slice A1_7 l1_7.length c1_7, .slice A1_8 l1_8.length c1_8] 34 ?_; intro gb385 hg w5 hbox hb; have BK385 := am (hbox); have GW385 := gsz hg HB.out; have GE385 := gsz hg HB.out; have NB384_385 := nlt (g := gb384) hg BK384.out; have NB385_384 := ngt (g := gb384) hg BK384.out; replace BK384 := bb BK384.out hb; replace HB := am (below_step (bws HB.out) hb); clear hb hbox hg)); go_upto_region 1 with (first | ((with_reducible refine gate_dst (N := 2) rfl ?_); (try (refine gate_guard (by rfl) ?_; dsimp only)); refine bx 2 #[.int .i64 a0_0, .string a0_1, .string a0_2, .string a0_3, .int .i64 a0_4, .int .i64 a0_5, .string a0_6, .slice A0_7 l0_7.length c0_7, .slice A0_8 l0_8.length c0_8] 34 ?_; intro gb384 hg w4 hbox hb; have BK384 := am (hbox); have GW384 := gsz hg HB.out; have GE384 := gsz hg HB.out; replace HB := am (below_step (bw HB.out) hb); clear hb hbox hg) | ((with_reducible refine gate_dst (N := 3) rfl ?_); (try (refine gate_guard (by rfl) ?_; dsimp only)); refine bx 3 #[.int .i64 a1_0, .string a1_1, .string a1_2, .string a1_3, .int .i64 a1_4, .int .i64 a1_5, .string a1_6, .slice A1_7 l1_7.length c1_7, .slice A1_8 l1_8.length c1_8] 34 ?_; intro gb385 hg w5 hbox hb; have BK385 := am (hbox); have GW385 := gsz hg HB.out; have GE385 := gsz hg HB.out; have NB384_385 := nlt (g := gb384) hg BK384.out; have NB385_384 := ngt (g := gb384) hg BK384.out; replace BK384 := bb BK384.out hb; replace HB := am (below_step (bws HB.out) hb); clear hb hbox hg)))
 (try simp only [Act.put, List.setIfInBounds_toArray, List.set_cons_zero, List.set_cons_succ])
 go_cut [71] (fun v71 wc => ∃ (kq : Nat) (x71_2 : Bool), v71 = .bool x71_2 ∧ Aside0 (stowageref16_Same.j0 kq x71_2 a0_0 a0_1 a0_2 a0_3 a0_4 a0_5 a0_6 l0_7 l0_8 a1_0 a1_1 a1_2 a1_3 a1_4 a1_5 a1_6 l1_7 l1_8 = some r) ∧ Aside0 (kq ≤ k) ∧ Aside0 (wc.heap[gb384]? = some (.cells #[.int .i64 a0_0, .string a0_1, .string a0_2, .string a0_3, .int .i64 a0_4, .int .i64 a0_5, .string a0_6, (.slice A0_7 l0_7.length c0_7), (.slice A0_8 l0_8.length c0_8)] 34 (0, 0))) ∧ Aside0 (wc.heap[gb385]? = some (.cells #[.int .i64 a1_0, .string a1_1, .string a1_2, .string a1_3, .int .i64 a1_4, .int .i64 a1_5, .string a1_6, (.slice A1_7 l1_7.length c1_7), (.slice A1_8 l1_8.length c1_8)] 34 (0, 0))) ∧ Aside0 (Below w.heap.size w wc))
 case first =>
  have H := HC3.out
  clear HC3
  by_cases c6 : a0_0 = a1_0
  ·
   rw [if_pos c6] at H
   have c6b0 := beq_iff_eq.mpr c6
   have c6b1 := bne_eq_false_iff_eq.mpr c6
   clear c6
   (first | rw [c6b0] | (simp only [i64_w, i32_w]; rw [c6b0]) | skip)
   by_cases c7 : a0_1.toList = a1_1.toList
   ·
    rw [if_pos c7] at H
    have c7b0 := beq_iff_eq.mpr c7
    have c7b1 := bne_eq_false_iff_eq.mpr c7
    clear c7
    by_cases c8 : a0_2.toList = a1_2.toList
    ·
     rw [if_pos c8] at H
     have c8b0 := beq_iff_eq.mpr c8
     have c8b1 := bne_eq_false_iff_eq.mpr c8
     clear c8
     by_cases c9 : a0_3.toList = a1_3.toList
     ·
      rw [if_pos c9] at H
      have c9b0 := beq_iff_eq.mpr c9
      have c9b1 := bne_eq_false_iff_eq.mpr c9
      clear c9
      by_cases c10 : a0_4 = a1_4
      ·
       rw [if_pos c10] at H
       have c10b0 := beq_iff_eq.mpr c10
       have c10b1 := bne_eq_false_iff_eq.mpr c10
       clear c10
       by_cases c11 : a0_5 = a1_5
       ·
        rw [if_pos c11] at H
        have c11b0 := beq_iff_eq.mpr c11
        have c11b1 := bne_eq_false_iff_eq.mpr c11
        clear c11
        by_cases c12 : a0_6.toList = a1_6.toList
        ·
         rw [if_pos c12] at H
         have c12b0 := beq_iff_eq.mpr c12
         have c12b1 := bne_eq_false_iff_eq.mpr c12
         clear c12
         by_cases c13 : (l0_7.length : Int) = (l1_7.length : Int)
         ·
          rw [if_pos c13] at H
          have c13b0 := beq_iff_eq.mpr c13
          have c13b1 := bne_eq_false_iff_eq.mpr c13
          have c13b2 : (l0_7.length == l1_7.length) = true := by first | simpa using c13 | (simp at c13 ⊢; omega)
          clear c13
          have H' := am H
          clear H
          have hnb14 := NB384_385.out
          have hnc14 := NB385_384.out
          obtain ⟨hcz15_0, hcz15_1, hcz15_2, hcz15_3, hcz15_4, hcz15_5, hcz15_6, hcz15_7, hcz15_8, hfz15_0, hfz15_1, hfz15_2, hfz15_3, hfz15_4, hfz15_5, hfz15_6, hfz15_7, hfz15_8⟩ := cz9 BK384.out
          obtain ⟨hcz16_0, hcz16_1, hcz16_2, hcz16_3, hcz16_4, hcz16_5, hcz16_6, hcz16_7, hcz16_8, hfz16_0, hfz16_1, hfz16_2, hfz16_3, hfz16_4, hfz16_5, hfz16_6, hfz16_7, hfz16_8⟩ := cz9 BK385.out
          go_wp2
          repeat (go_quiet (fail); try go_wp2)
          go_meet
          case rel => exact ⟨_, (((l0_8.length : Int) != (l1_8.length : Int))), rs, H', ⟨om⟩, ⟨bk BK384.out⟩, ⟨bk BK385.out⟩, ⟨bws HB.out⟩⟩
         ·
          rw [if_neg c13] at H
          have c13b0 := beq_eq_false_iff_ne.mpr c13
          have c13b1 := bne_iff_ne.mpr c13
          have c13b2 : (l0_7.length == l1_7.length) = false := by first | simpa using c13 | (simp at c13 ⊢; omega)
          have H' := am H
          clear H
          have hnb17 := NB384_385.out
          have hnc17 := NB385_384.out
          obtain ⟨hcz18_0, hcz18_1, hcz18_2, hcz18_3, hcz18_4, hcz18_5, hcz18_6, hcz18_7, hcz18_8, hfz18_0, hfz18_1, hfz18_2, hfz18_3, hfz18_4, hfz18_5, hfz18_6, hfz18_7, hfz18_8⟩ := cz9 BK384.out
          obtain ⟨hcz19_0, hcz19_1, hcz19_2, hcz19_3, hcz19_4, hcz19_5, hcz19_6, hcz19_7, hcz19_8, hfz19_0, hfz19_1, hfz19_2, hfz19_3, hfz19_4, hfz19_5, hfz19_6, hfz19_7, hfz19_8⟩ := cz9 BK385.out
          go_wp2
          repeat (go_quiet (fail); try go_wp2)
          go_meet
          case rel => exact ⟨_, (true), rs, H', ⟨om⟩, ⟨bk BK384.out⟩, ⟨bk BK385.out⟩, ⟨bws HB.out⟩⟩
        ·
         rw [if_neg c12] at H
         have c12b0 := beq_eq_false_iff_ne.mpr c12
         have c12b1 := bne_iff_ne.mpr c12
         have H' := am H
         clear H
         have hnb20 := NB384_385.out
         have hnc20 := NB385_384.out
         obtain ⟨hcz21_0, hcz21_1, hcz21_2, hcz21_3, hcz21_4, hcz21_5, hcz21_6, hcz21_7, hcz21_8, hfz21_0, hfz21_1, hfz21_2, hfz21_3, hfz21_4, hfz21_5, hfz21_6, hfz21_7, hfz21_8⟩ := cz9 BK384.out
         obtain ⟨hcz22_0, hcz22_1, hcz22_2, hcz22_3, hcz22_4, hcz22_5, hcz22_6, hcz22_7, hcz22_8, hfz22_0, hfz22_1, hfz22_2, hfz22_3, hfz22_4, hfz22_5, hfz22_6, hfz22_7, hfz22_8⟩ := cz9 BK385.out
         go_wp2
         repeat (go_quiet (fail); try go_wp2)
         go_meet
         case rel => exact ⟨_, (true), rs, H', ⟨om⟩, ⟨bk BK384.out⟩, ⟨bk BK385.out⟩, ⟨bws HB.out⟩⟩
       ·
        rw [if_neg c11] at H
        have c11b0 := beq_eq_false_iff_ne.mpr c11
        have c11b1 := bne_iff_ne.mpr c11
        have H' := am H
        clear H
        have hnb23 := NB384_385.out
        have hnc23 := NB385_384.out
        obtain ⟨hcz24_0, hcz24_1, hcz24_2, hcz24_3, hcz24_4, hcz24_5, hcz24_6, hcz24_7, hcz24_8, hfz24_0, hfz24_1, hfz24_2, hfz24_3, hfz24_4, hfz24_5, hfz24_6, hfz24_7, hfz24_8⟩ := cz9 BK384.out
        obtain ⟨hcz25_0, hcz25_1, hcz25_2, hcz25_3, hcz25_4, hcz25_5, hcz25_6, hcz25_7, hcz25_8, hfz25_0, hfz25_1, hfz25_2, hfz25_3, hfz25_4, hfz25_5, hfz25_6, hfz25_7, hfz25_8⟩ := cz9 BK385.out
        go_wp2
        repeat (go_quiet (fail); try go_wp2)
        go_meet
        case rel => exact ⟨_, (true), rs, H', ⟨om⟩, ⟨bk BK384.out⟩, ⟨bk BK385.out⟩, ⟨bws HB.out⟩⟩
      ·
       rw [if_neg c10] at H
       have c10b0 := beq_eq_false_iff_ne.mpr c10
       have c10b1 := bne_iff_ne.mpr c10
       have H' := am H
       clear H
       have hnb26 := NB384_385.out
       have hnc26 := NB385_384.out
       obtain ⟨hcz27_0, hcz27_1, hcz27_2, hcz27_3, hcz27_4, hcz27_5, hcz27_6, hcz27_7, hcz27_8, hfz27_0, hfz27_1, hfz27_2, hfz27_3, hfz27_4, hfz27_5, hfz27_6, hfz27_7, hfz27_8⟩ := cz9 BK384.out
       obtain ⟨hcz28_0, hcz28_1, hcz28_2, hcz28_3, hcz28_4, hcz28_5, hcz28_6, hcz28_7, hcz28_8, hfz28_0, hfz28_1, hfz28_2, hfz28_3, hfz28_4, hfz28_5, hfz28_6, hfz28_7, hfz28_8⟩ := cz9 BK385.out
       go_wp2
       repeat (go_quiet (fail); try go_wp2)
       go_meet
       case rel => exact ⟨_, (true), rs, H', ⟨om⟩, ⟨bk BK384.out⟩, ⟨bk BK385.out⟩, ⟨bws HB.out⟩⟩
     ·
      rw [if_neg c9] at H
      have c9b0 := beq_eq_false_iff_ne.mpr c9
      have c9b1 := bne_iff_ne.mpr c9
      have H' := am H
      clear H
      have hnb29 := NB384_385.out
      have hnc29 := NB385_384.out
      obtain ⟨hcz30_0, hcz30_1, hcz30_2, hcz30_3, hcz30_4, hcz30_5, hcz30_6, hcz30_7, hcz30_8, hfz30_0, hfz30_1, hfz30_2, hfz30_3, hfz30_4, hfz30_5, hfz30_6, hfz30_7, hfz30_8⟩ := cz9 BK384.out
      obtain ⟨hcz31_0, hcz31_1, hcz31_2, hcz31_3, hcz31_4, hcz31_5, hcz31_6, hcz31_7, hcz31_8, hfz31_0, hfz31_1, hfz31_2, hfz31_3, hfz31_4, hfz31_5, hfz31_6, hfz31_7, hfz31_8⟩ := cz9 BK385.out
      go_wp2
      repeat (go_quiet (fail); try go_wp2)
      go_meet
      case rel => exact ⟨_, (true), rs, H', ⟨om⟩, ⟨bk BK384.out⟩, ⟨bk BK385.out⟩, ⟨bws HB.out⟩⟩
    ·
     rw [if_neg c8] at H
     have c8b0 := beq_eq_false_iff_ne.mpr c8
     have c8b1 := bne_iff_ne.mpr c8
     have H' := am H
     clear H
     have hnb32 := NB384_385.out
     have hnc32 := NB385_384.out
     obtain ⟨hcz33_0, hcz33_1, hcz33_2, hcz33_3, hcz33_4, hcz33_5, hcz33_6, hcz33_7, hcz33_8, hfz33_0, hfz33_1, hfz33_2, hfz33_3, hfz33_4, hfz33_5, hfz33_6, hfz33_7, hfz33_8⟩ := cz9 BK384.out
     obtain ⟨hcz34_0, hcz34_1, hcz34_2, hcz34_3, hcz34_4, hcz34_5, hcz34_6, hcz34_7, hcz34_8, hfz34_0, hfz34_1, hfz34_2, hfz34_3, hfz34_4, hfz34_5, hfz34_6, hfz34_7, hfz34_8⟩ := cz9 BK385.out
     go_wp2
     repeat (go_quiet (fail); try go_wp2)
     go_meet
     case rel => exact ⟨_, (true), rs, H', ⟨om⟩, ⟨bk BK384.out⟩, ⟨bk BK385.out⟩, ⟨bws HB.out⟩⟩
   ·
    rw [if_neg c7] at H
    have c7b0 := beq_eq_false_iff_ne.mpr c7
    have c7b1 := bne_iff_ne.mpr c7
    have H' := am H
    clear H
    have hnb35 := NB384_385.out
    have hnc35 := NB385_384.out
    obtain ⟨hcz36_0, hcz36_1, hcz36_2, hcz36_3, hcz36_4, hcz36_5, hcz36_6, hcz36_7, hcz36_8, hfz36_0, hfz36_1, hfz36_2, hfz36_3, hfz36_4, hfz36_5, hfz36_6, hfz36_7, hfz36_8⟩ := cz9 BK384.out
    obtain ⟨hcz37_0, hcz37_1, hcz37_2, hcz37_3, hcz37_4, hcz37_5, hcz37_6, hcz37_7, hcz37_8, hfz37_0, hfz37_1, hfz37_2, hfz37_3, hfz37_4, hfz37_5, hfz37_6, hfz37_7, hfz37_8⟩ := cz9 BK385.out
    go_wp2
    repeat (go_quiet (fail); try go_wp2)
    go_meet
    case rel => exact ⟨_, (true), rs, H', ⟨om⟩, ⟨bk BK384.out⟩, ⟨bk BK385.out⟩, ⟨bws HB.out⟩⟩
  ·
   rw [if_neg c6] at H
   have c6b0 := beq_eq_false_iff_ne.mpr c6
   have c6b1 := bne_iff_ne.mpr c6
   (first | rw [c6b0] | (simp only [i64_w, i32_w]; rw [c6b0]) | skip)
   have H' := am H
   clear H
   have hnb38 := NB384_385.out
   have hnc38 := NB385_384.out
   obtain ⟨hcz39_0, hcz39_1, hcz39_2, hcz39_3, hcz39_4, hcz39_5, hcz39_6, hcz39_7, hcz39_8, hfz39_0, hfz39_1, hfz39_2, hfz39_3, hfz39_4, hfz39_5, hfz39_6, hfz39_7, hfz39_8⟩ := cz9 BK384.out
   obtain ⟨hcz40_0, hcz40_1, hcz40_2, hcz40_3, hcz40_4, hcz40_5, hcz40_6, hcz40_7, hcz40_8, hfz40_0, hfz40_1, hfz40_2, hfz40_3, hfz40_4, hfz40_5, hfz40_6, hfz40_7, hfz40_8⟩ := cz9 BK385.out
   go_wp2
   repeat (go_quiet (fail); try go_wp2)
   go_meet
   case rel => exact ⟨_, (true), rs, H', ⟨om⟩, ⟨bk BK384.out⟩, ⟨bk BK385.out⟩, ⟨bws HB.out⟩⟩
 case rest =>
  clear HC3
  obtain ⟨kq, x71_2, rfl, HA, HJ2, BK384, BK385, HB⟩ := hcut
  cases kq with
  | zero => exact absurd HA.out (by simp [stowageref16_Same.j0])
  | succ kj2 =>
   have H := HA.out
   clear HA
   simp only [stowageref16_Same.j0] at H
   by_cases c41 : x71_2 = true
   ·
    subst c41
    rw [if_pos rfl] at H
    obtain rfl := Option.some.inj H
    go_wp2
    repeat (go_quiet (fail); try go_wp2)
    go_ret
    exact ⟨rf, bws HB.out⟩
   ·
    replace c41 := Bool.eq_false_iff.mpr c41
    subst c41
    rw [if_neg (show ¬ (false = true) by decide)] at H
    have H' := am H
    clear H
    go_wp2
    repeat (go_quiet (fail); try go_wp2)
    go_loopg [5] kj2 (fun kq v5 w' => ∃ (x5_2 : Int), v5 = .int .i64 x5_2 ∧ Aside0 (stowageref16_Same.l0 kq x5_2 a0_0 a0_1 a0_2 a0_3 a0_4 a0_5 a0_6 l0_7 l0_8 a1_0 a1_1 a1_2 a1_3 a1_4 a1_5 a1_6 l1_7 l1_8 = some r) ∧ Aside0 (kq ≤ kj2) ∧ Aside0 (w'.heap[gb384]? = some (.cells #[.int .i64 a0_0, .string a0_1, .string a0_2, .string a0_3, .int .i64 a0_4, .int .i64 a0_5, .string a0_6, (.slice A0_7 l0_7.length c0_7), (.slice A0_8 l0_8.length c0_8)] 34 (0, 0))) ∧ Aside0 (w'.heap[gb385]? = some (.cells #[.int .i64 a1_0, .string a1_1, .string a1_2, .string a1_3, .int .i64 a1_4, .int .i64 a1_5, .string a1_6, (.slice A1_7 l1_7.length c1_7), (.slice A1_8 l1_8.length c1_8)] 34 (0, 0))) ∧ Aside0 (Below w.heap.size w w'))
    case atStart => exact ⟨(0), rs, H', ⟨Nat.le_refl _⟩, ⟨bk BK384.out⟩, ⟨bk BK385.out⟩, ⟨bws HB.out⟩⟩
    case round =>
     clear H'
     try clear c41
     obtain ⟨x5_2, rfl, HA, HK2, BK384, BK385, HB⟩ := hrel
     cases gk with
     | zero => exact absurd HA.out (by simp [stowageref16_Same.l0])
     | succ k2 =>
      have H := HA.out
      clear HA
      simp only [stowageref16_Same.l0] at H
      replace H := iteD H
      rcases H with ⟨c42b0, H⟩ | ⟨c42b0, H⟩
      ·
       replace H := iteD H
       rcases H with ⟨c43b0, H⟩ | ⟨_, H⟩
       ·
        replace H := iteD H
        rcases H with ⟨c44b0, H⟩ | ⟨_, H⟩
        ·
         by_cases c45 : (!((((rd_T95 l0_7 x5_2).f0).toList) == (((rd_T95 l1_7 x5_2).f0).toList)) || (!(((rd_T95 l0_7 x5_2).f1) == ((rd_T95 l1_7 x5_2).f1)))) = true
         ·
          rw [if_pos c45] at H
          have c45b0 : (!((((rd_T95 l0_7 x5_2).f0).toList) == (((rd_T95 l1_7 x5_2).f0).toList)) || (!(((rd_T95 l0_7 x5_2).f1) == ((rd_T95 l1_7 x5_2).f1)))) = true := c45
          clear c45
          obtain rfl := Option.some.inj H
          have hnb46 := NB384_385.out
          have hnc46 := NB385_384.out
          obtain ⟨hcz47_0, hcz47_1, hcz47_2, hcz47_3, hcz47_4, hcz47_5, hcz47_6, hcz47_7, hcz47_8, hfz47_0, hfz47_1, hfz47_2, hfz47_3, hfz47_4, hfz47_5, hfz47_6, hfz47_7, hfz47_8⟩ := cz9 BK384.out
          have p386 := pz x5_2
          have q386 := pl x5_2 (l0_7.length : Int)
          obtain ⟨ad386, e386, hx386_0, hx386_1⟩ := at_T95 HR0_7.out x5_2 (of_eq_true p386) (of_eq_true q386)
          cases e386
          replace hx386_0 := bc HB.out hx386_0
          replace hx386_1 := bc HB.out hx386_1
          obtain ⟨hcz48_0, hcz48_1, hcz48_2, hcz48_3, hcz48_4, hcz48_5, hcz48_6, hcz48_7, hcz48_8, hfz48_0, hfz48_1, hfz48_2, hfz48_3, hfz48_4, hfz48_5, hfz48_6, hfz48_7, hfz48_8⟩ := cz9 BK385.out
          have p387 := pz x5_2
          have q387 := pl x5_2 (l1_7.length : Int)
          obtain ⟨ad387, e387, hx387_0, hx387_1⟩ := at_T95 HR1_7.out x5_2 (of_eq_true p387) (of_eq_true q387)
          cases e387
          replace hx387_0 := bc HB.out hx387_0
          replace hx387_1 := bc HB.out hx387_1
          go_wp2
          repeat (go_quiet (fail); try go_wp2)
          go_ret
          exact ⟨rf, bws HB.out⟩
         ·
          rw [if_neg c45] at H
          have c45b0 : (!((((rd_T95 l0_7 x5_2).f0).toList) == (((rd_T95 l1_7 x5_2).f0).toList)) || (!(((rd_T95 l0_7 x5_2).f1) == ((rd_T95 l1_7 x5_2).f1)))) = false := by simpa using c45
          clear c45
          have H' := am H
          clear H
          have hnb49 := NB384_385.out
          have hnc49 := NB385_384.out
          obtain ⟨hcz50_0, hcz50_1, hcz50_2, hcz50_3, hcz50_4, hcz50_5, hcz50_6, hcz50_7, hcz50_8, hfz50_0, hfz50_1, hfz50_2, hfz50_3, hfz50_4, hfz50_5, hfz50_6, hfz50_7, hfz50_8⟩ := cz9 BK384.out
          have p386 := pz x5_2
          have q386 := pl x5_2 (l0_7.length : Int)
          obtain ⟨ad386, e386, hx386_0, hx386_1⟩ := at_T95 HR0_7.out x5_2 (of_eq_true p386) (of_eq_true q386)
          cases e386
          replace hx386_0 := bc HB.out hx386_0
          replace hx386_1 := bc HB.out hx386_1
          obtain ⟨hcz51_0, hcz51_1, hcz51_2, hcz51_3, hcz51_4, hcz51_5, hcz51_6, hcz51_7, hcz51_8, hfz51_0, hfz51_1, hfz51_2, hfz51_3, hfz51_4, hfz51_5, hfz51_6, hfz51_7, hfz51_8⟩ := cz9 BK385.out
          have p387 := pz x5_2
          have q387 := pl x5_2 (l1_7.length : Int)
          obtain ⟨ad387, e387, hx387_0, hx387_1⟩ := at_T95 HR1_7.out x5_2 (of_eq_true p387) (of_eq_true q387)
          cases e387
          replace hx387_0 := bc HB.out hx387_0
          replace hx387_1 := bc HB.out hx387_1
          go_wp2
          repeat (go_quiet (fail); try go_wp2)
          go_roundg k2
          case measure => have := HJ2.out; have := HK2.out; omega
          case rel => exact ⟨(wrap64 (x5_2 + 1)), rs, H', ⟨by have := HJ2.out; have := HK2.out; omega⟩, ⟨bk BK384.out⟩, ⟨bk BK385.out⟩, ⟨bws HB.out⟩⟩
        ·
         exact absurd H (by simp)
       ·
        exact absurd H (by simp)
      ·
       have H' := am H
       clear H
       have hnb52 := NB384_385.out
       have hnc52 := NB385_384.out
       obtain ⟨hcz53_0, hcz53_1, hcz53_2, hcz53_3, hcz53_4, hcz53_5, hcz53_6, hcz53_7, hcz53_8, hfz53_0, hfz53_1, hfz53_2, hfz53_3, hfz53_4, hfz53_5, hfz53_6, hfz53_7, hfz53_8⟩ := cz9 BK384.out
       go_wp2
       repeat (go_quiet (fail); try go_wp2)
       go_loopg [6] k2 (fun kq v6 w' => ∃ (x6_3 : Int), v6 = .int .i64 x6_3 ∧ Aside0 (stowageref16_Same.l1 kq x6_3 a0_0 a0_1 a0_2 a0_3 a0_4 a0_5 a0_6 l0_7 l0_8 a1_0 a1_1 a1_2 a1_3 a1_4 a1_5 a1_6 l1_7 l1_8 = some r) ∧ Aside0 (kq ≤ k2) ∧ Aside0 (w'.heap[gb384]? = some (.cells #[.int .i64 a0_0, .string a0_1, .string a0_2, .string a0_3, .int .i64 a0_4, .int .i64 a0_5, .string a0_6, (.slice A0_7 l0_7.length c0_7), (.slice A0_8 l0_8.length c0_8)] 34 (0, 0))) ∧ Aside0 (w'.heap[gb385]? = some (.cells #[.int .i64 a1_0, .string a1_1, .string a1_2, .string a1_3, .int .i64 a1_4, .int .i64 a1_5, .string a1_6, (.slice A1_7 l1_7.length c1_7), (.slice A1_8 l1_8.length c1_8)] 34 (0, 0))) ∧ Aside0 (Below w.heap.size w w'))
       case atStart => exact ⟨(0), rs, H', ⟨Nat.le_refl _⟩, ⟨bk BK384.out⟩, ⟨bk BK385.out⟩, ⟨bws HB.out⟩⟩
       case round =>
        clear H'
        try clear c41
        try clear c42b0
        try clear hcz53_0 hcz53_1 hcz53_2 hcz53_3 hcz53_4 hcz53_5 hcz53_6 hcz53_7 hcz53_8 hfz53_0 hfz53_1 hfz53_2 hfz53_3 hfz53_4 hfz53_5 hfz53_6 hfz53_7 hfz53_8
        obtain ⟨x6_3, rfl, HA, HK3, BK384, BK385, HB⟩ := hrel
        cases gk with
        | zero => exact absurd HA.out (by simp [stowageref16_Same.l1])
        | succ k3 =>
         have H := HA.out
         clear HA
         simp only [stowageref16_Same.l1] at H
         replace H := iteD H
         rcases H with ⟨c54b0, H⟩ | ⟨c54b0, H⟩
         ·
          replace H := iteD H
          rcases H with ⟨c55b0, H⟩ | ⟨_, H⟩
          ·
           replace H := iteD H
           rcases H with ⟨c56b0, H⟩ | ⟨_, H⟩
           ·
            by_cases c57 : (!(((rd_T61 l0_8 x6_3).f0) == ((rd_T61 l1_8 x6_3).f0)) || (!((((rd_T61 l0_8 x6_3).f1).toList) == (((rd_T61 l1_8 x6_3).f1).toList)))) = true
            ·
             rw [if_pos c57] at H
             have c57b0 : (!(((rd_T61 l0_8 x6_3).f0) == ((rd_T61 l1_8 x6_3).f0)) || (!((((rd_T61 l0_8 x6_3).f1).toList) == (((rd_T61 l1_8 x6_3).f1).toList)))) = true := c57
             clear c57
             obtain rfl := Option.some.inj H
             have hnb58 := NB384_385.out
             have hnc58 := NB385_384.out
             obtain ⟨hcz59_0, hcz59_1, hcz59_2, hcz59_3, hcz59_4, hcz59_5, hcz59_6, hcz59_7, hcz59_8, hfz59_0, hfz59_1, hfz59_2, hfz59_3, hfz59_4, hfz59_5, hfz59_6, hfz59_7, hfz59_8⟩ := cz9 BK384.out
             have p388 := pz x6_3
             have q388 := pl x6_3 (l0_8.length : Int)
             obtain ⟨ad388, e388, hx388_0, hx388_1⟩ := at_T61 HR0_8.out x6_3 (of_eq_true p388) (of_eq_true q388)
             cases e388
             replace hx388_0 := bc HB.out hx388_0
             replace hx388_1 := bc HB.out hx388_1
             obtain ⟨hcz60_0, hcz60_1, hcz60_2, hcz60_3, hcz60_4, hcz60_5, hcz60_6, hcz60_7, hcz60_8, hfz60_0, hfz60_1, hfz60_2, hfz60_3, hfz60_4, hfz60_5, hfz60_6, hfz60_7, hfz60_8⟩ := cz9 BK385.out
             have p389 := pz x6_3
             have q389 := pl x6_3 (l1_8.length : Int)
             obtain ⟨ad389, e389, hx389_0, hx389_1⟩ := at_T61 HR1_8.out x6_3 (of_eq_true p389) (of_eq_true q389)
             cases e389
             replace hx389_0 := bc HB.out hx389_0
             replace hx389_1 := bc HB.out hx389_1
             go_wp2
             repeat (go_quiet (fail); try go_wp2)
             go_ret
             exact ⟨rf, bws HB.out⟩
            ·
             rw [if_neg c57] at H
             have c57b0 : (!(((rd_T61 l0_8 x6_3).f0) == ((rd_T61 l1_8 x6_3).f0)) || (!((((rd_T61 l0_8 x6_3).f1).toList) == (((rd_T61 l1_8 x6_3).f1).toList)))) = false := by simpa using c57
             clear c57
             have H' := am H
             clear H
             have hnb61 := NB384_385.out
             have hnc61 := NB385_384.out
             obtain ⟨hcz62_0, hcz62_1, hcz62_2, hcz62_3, hcz62_4, hcz62_5, hcz62_6, hcz62_7, hcz62_8, hfz62_0, hfz62_1, hfz62_2, hfz62_3, hfz62_4, hfz62_5, hfz62_6, hfz62_7, hfz62_8⟩ := cz9 BK384.out
             have p388 := pz x6_3
             have q388 := pl x6_3 (l0_8.length : Int)
             obtain ⟨ad388, e388, hx388_0, hx388_1⟩ := at_T61 HR0_8.out x6_3 (of_eq_true p388) (of_eq_true q388)
             cases e388
             replace hx388_0 := bc HB.out hx388_0
             replace hx388_1 := bc HB.out hx388_1
             obtain ⟨hcz63_0, hcz63_1, hcz63_2, hcz63_3, hcz63_4, hcz63_5, hcz63_6, hcz63_7, hcz63_8, hfz63_0, hfz63_1, hfz63_2, hfz63_3, hfz63_4, hfz63_5, hfz63_6, hfz63_7, hfz63_8⟩ := cz9 BK385.out
             have p389 := pz x6_3
             have q389 := pl x6_3 (l1_8.length : Int)
             obtain ⟨ad389, e389, hx389_0, hx389_1⟩ := at_T61 HR1_8.out x6_3 (of_eq_true p389) (of_eq_true q389)
             cases e389
             replace hx389_0 := bc HB.out hx389_0
             replace hx389_1 := bc HB.out hx389_1
             go_wp2
             repeat (go_quiet (fail); try go_wp2)
             go_roundg k3
             case measure => have := HJ2.out; have := HK2.out; have := HK3.out; omega
             case rel => exact ⟨(wrap64 (x6_3 + 1)), rs, H', ⟨by have := HJ2.out; have := HK2.out; have := HK3.out; omega⟩, ⟨bk BK384.out⟩, ⟨bk BK385.out⟩, ⟨bws HB.out⟩⟩
           ·
            exact absurd H (by simp)
          ·
           exact absurd H (by simp)
         ·
          obtain rfl := Option.some.inj H
          have hnb64 := NB384_385.out
          have hnc64 := NB385_384.out
          obtain ⟨hcz65_0, hcz65_1, hcz65_2, hcz65_3, hcz65_4, hcz65_5, hcz65_6, hcz65_7, hcz65_8, hfz65_0, hfz65_1, hfz65_2, hfz65_3, hfz65_4, hfz65_5, hfz65_6, hfz65_7, hfz65_8⟩ := cz9 BK384.out
          go_wp2
          repeat (go_quiet (fail); try go_wp2)
          go_ret
          exact ⟨rf, bws HB.out⟩
end Go.Proofs.YtdidopoalmkhlaaDoor.Or
end
section
namespace Go.Proofs.YtdidopoalmkhlaaDoor.Or
open Go.RowKit Go.Proofs.YtdidopoalmkhlaaDoorW.PrintWords Go.Proofs.YtdidopoalmkhlaaDoorW.PrintLast Go.Proofs.YtdidopoalmkhlaaDoorW.PrintMore
set_option linter.unusedVariables false
set_option linter.unusedSimpArgs false
def stowagelaw16_CmdReads.F (k : Nat) (s : ByteArray) : Prop :=
 ∃ d0 d1 d2 d3 d4 d5 d6 d7 d8 g q0 q1 q2 q3 q4 q5 q6 q7 q8 u0 u1 u2 u3 u4 u5 u6 u7 u8, cmd_Decode.f k s = some (d0, d1, d2, d3, d4, d5, d6, d7, d8, g) ∧ stowageref16_Decode.f k s = some (u0, u1, u2, u3, u4, u5, u6, u7, u8, g) ∧ stowagelaw16_awake.f k = some true ∧
  stowagelaw16_Ref.f k d0 d1 d2 d3 d4 d5 d6 d7 d8 = some (q0, q1, q2, q3, q4, q5, q6, q7, q8) ∧ stowageref16_Same.f k q0 q1 q2 q3 q4 q5 q6 q7 q8 u0 u1 u2 u3 u4 u5 u6 u7 u8 = some true
open Classical in
noncomputable def stowagelaw16_CmdReads.f (k : Nat) (s : ByteArray) : Option Bool :=
 if stowagelaw16_CmdReads.F k s then some true else none
theorem vaway_ {W W' : World} {g : Nat} {α : Type} {d : Kd α} {e base : Nat} {v : Value} {xs : List α} (h : Kd.V d e W base (fun _ => True) v xs) (hg : W.heap.size ≤ g) (hb : Below W.heap.size W W') : Kd.V d e W' base (fun k => k ≠ g) v xs := by
 refine Kd.V_map h (fun A hf => ?_)
 have h1 := Kd.F_bound hf
 have h2 := Kd.F_mono h1 (fun k hk => (by have := hk.2; omega : k ≠ g))
 exact Kd.F_below h2 hb
theorem vrows_ {W W' : World} {g : Nat} {u0 u1 u2 u3 u4 u5 u6 u7 u8 : Value} {α β : Type} {d : Kd α} {d' : Kd β} {e e' base base' : Nat} {v v' : Value} {xs : List α} {ys : List β}
  (e0 : (((((((((W.setCell ⟨g, 0, none⟩ u0).setCell ⟨g, 1, none⟩ u1).setCell ⟨g, 2, none⟩ u2).setCell ⟨g, 3, none⟩ u3).setCell ⟨g, 4, none⟩ u4).setCell ⟨g, 5, none⟩ u5).setCell ⟨g, 6, none⟩ u6).setCell ⟨g, 7, none⟩ u7).setCell ⟨g, 8, none⟩ u8) = W')
  (h1 : Kd.V d e W base (fun k => k ≠ g) v xs) (h2 : Kd.V d' e' W base' (fun k => k ≠ g) v' ys) : Kd.V d e W' base (fun _ => True) v xs ∧ Kd.V d' e' W' base' (fun _ => True) v' ys := by
 have hk : ∀ k, k ≠ g → W'.heap[k]? = W.heap[k]? := by
  subst e0
  intro k hk
  rw [Below.heap_setCell _ _ _ _ hk, Below.heap_setCell _ _ _ _ hk, Below.heap_setCell _ _ _ _ hk, Below.heap_setCell _ _ _ _ hk, Below.heap_setCell _ _ _ _ hk, Below.heap_setCell _ _ _ _ hk, Below.heap_setCell _ _ _ _ hk, Below.heap_setCell _ _ _ _ hk, Below.heap_setCell _ _ _ _ hk]
 exact ⟨Kd.V_mono (Kd.V_map h1 (fun _ hf => Kd.F_step hf (fun k ok _ => hk k ok))) (fun _ _ => trivial), Kd.V_mono (Kd.V_map h2 (fun _ hf => Kd.F_step hf (fun k ok _ => hk k ok))) (fun _ _ => trivial)⟩
set_option maxHeartbeats 8000000 in
set_option maxRecDepth 100000 in
theorem stowagelaw16_CmdReads_go (k : Nat) (s : ByteArray) (w : World) (h : stowagelaw16_CmdReads.F k s) (hG : GG w) :
  Calls Tryd.prog 4 #[.string s] w fun e w' => e = .returned (.bool true) ∧ Below w.heap.size w w' := by
 have HG := am hG
 clear hG
 have HB := am (Below.refl w.heap.size w)
 obtain ⟨d0, d1, d2, d3, d4, d5, d6, d7, d8, g, q0, q1, q2, q3, q4, q5, q6, q7, q8, u0, u1, u2, u3, u4, u5, u6, u7, u8, A1, A2, AW, A3, A4⟩ := h
 replace A1 := am A1
 replace A2 := am A2
 replace AW := am AW
 replace A3 := am A3
 replace A4 := am A4
 go_enter Tryd.func4, Tryd.ntmps4
 go_upto_region 2 with (first
  | (go_at_call 16; (with_reducible refine (cmd_Decode.calls k s d0 d1 d2 d3 d4 d5 d6 d7 d8 g _ A1.out ?sideG).mono ?_); (case sideG => exact gg_below HG.out HB.out); rintro q w1 ⟨v7, v8, rfl, ho7, ho8, hb⟩; (try dsimp only); obtain ⟨dA, da, rfl⟩ := Kd.R_slice ho7; obtain ⟨dB, db, rfl⟩ := Kd.R_slice ho8; have HD7 := am (Kd.R_V (base' := 0) ho7); have HD8 := am (Kd.R_V (base' := 0) ho8); replace HB := am (below_step HB.out hb); clear hb ho7 ho8)
  | ((with_reducible refine gate_dst (N := 3) rfl ?_); (try (refine gate_guard (by rfl) ?_; dsimp only)); refine bx 3 #[.int .i64 0, .string (⟨#[]⟩ : ByteArray), .string (⟨#[]⟩ : ByteArray), .string (⟨#[]⟩ : ByteArray), .int .i64 0, .int .i64 0, .string (⟨#[]⟩ : ByteArray), .slice none 0 0, .slice none 0 0] 25 ?_; intro gd hg w2 hbox hb; have BKgd := am (hbox); have GEgd := am ((by rw [hg]; exact HB.out.size : w.heap.size ≤ gd)); have hgd := hg; replace HD7 := am (vaway_ HD7.out (Nat.le_of_eq hgd.symm) hb); replace HD8 := am (vaway_ HD8.out (Nat.le_of_eq hgd.symm) hb); clear hgd; replace HB := am (below_step HB.out hb); clear hb hbox hg; obtain ⟨zd0, zd1, zd2, zd3, zd4, zd5, zd6, zd7, zd8⟩ := c9_ BKgd.out; obtain ⟨yd0, yd1, yd2, yd3, yd4, yd5, yd6, yd7, yd8⟩ := f9_ BKgd.out))
 generalize hW : ((((((((w2.setCell ⟨gd, 0, none⟩ (.int .i64 d0)).setCell ⟨gd, 1, none⟩ (.string d1)).setCell ⟨gd, 2, none⟩ (.string d2)).setCell ⟨gd, 3, none⟩ (.string d3)).setCell ⟨gd, 4, none⟩ (.int .i64 d4)).setCell ⟨gd, 5, none⟩ (.int .i64 d5)).setCell ⟨gd, 6, none⟩ (.string d6)).setCell ⟨gd, 7, none⟩ (.slice dA d7.length da)).setCell ⟨gd, 8, none⟩ (.slice dB d8.length db) = W
 have ST : W.heap[gd]? = some (.cells #[.int .i64 d0, .string d1, .string d2, .string d3, .int .i64 d4, .int .i64 d5, .string d6, .slice dA d7.length da, .slice dB d8.length db] 25 (0, 0)) ∧ (Below w.heap.size w W) := by
  obtain ⟨q1, q2, q3⟩ := st9_ BKgd.out _ _ _ _ _ _ _ _ _ hW
  exact ⟨q1, q2 _ HB.out GEgd.out⟩
 have SV := vrows_ hW HD7.out HD8.out
 replace BKgd := am ST.1
 replace HB := am ST.2
 replace HD7 := am SV.1
 replace HD8 := am SV.2
 clear ST SV hW zd0 zd1 zd2 zd3 zd4 zd5 zd6 zd7 zd8 yd0 yd1 yd2 yd3 yd4 yd5 yd6 yd7 yd8 w2
 go_upto_region 3 with (first
  | (go_at_call 17; (with_reducible refine (stowageref16_Decode.calls k s u0 u1 u2 u3 u4 u5 u6 u7 u8 g _ A2.out).mono ?_); rintro q w3 ⟨v7, v8, rfl, ho7, ho8, hb⟩; (try dsimp only); obtain ⟨uA, ua, rfl⟩ := Kd.R_slice ho7; obtain ⟨uB, ub, rfl⟩ := Kd.R_slice ho8; have HU7 := am (Kd.R_V (base' := 0) ho7); have HU8 := am (Kd.R_V (base' := 0) ho8); replace HD7 := am (Kd.V_below HD7.out hb); replace HD8 := am (Kd.V_below HD8.out hb); replace BKgd := am (blk_below BKgd.out hb); replace HB := am (below_step HB.out hb); clear hb ho7 ho8)
  | ((with_reducible refine gate_dst (N := 5) rfl ?_); (try (refine gate_guard (by rfl) ?_; dsimp only)); refine bx 5 #[.int .i64 0, .string (⟨#[]⟩ : ByteArray), .string (⟨#[]⟩ : ByteArray), .string (⟨#[]⟩ : ByteArray), .int .i64 0, .int .i64 0, .string (⟨#[]⟩ : ByteArray), .slice none 0 0, .slice none 0 0] 34 ?_; intro gu hg w4 hbox hb; have BKgu := am (hbox); have GEgu := am ((by rw [hg]; exact HB.out.size : w.heap.size ≤ gu)); have hgd := hg; have NE := am ((by rw [hg]; exact Nat.ne_of_lt (blk_lt BKgd.out) : gd ≠ gu)); replace BKgd := am (blk_below BKgd.out hb); replace HD7 := am (vaway_ HD7.out (Nat.le_of_eq hgd.symm) hb); replace HD8 := am (vaway_ HD8.out (Nat.le_of_eq hgd.symm) hb); replace HU7 := am (vaway_ HU7.out (Nat.le_of_eq hgd.symm) hb); replace HU8 := am (vaway_ HU8.out (Nat.le_of_eq hgd.symm) hb); clear hgd; replace HB := am (below_step HB.out hb); clear hb hbox hg; obtain ⟨zu0, zu1, zu2, zu3, zu4, zu5, zu6, zu7, zu8⟩ := c9_ BKgu.out; obtain ⟨yu0, yu1, yu2, yu3, yu4, yu5, yu6, yu7, yu8⟩ := f9_ BKgu.out))
 generalize hW : ((((((((w4.setCell ⟨gu, 0, none⟩ (.int .i64 u0)).setCell ⟨gu, 1, none⟩ (.string u1)).setCell ⟨gu, 2, none⟩ (.string u2)).setCell ⟨gu, 3, none⟩ (.string u3)).setCell ⟨gu, 4, none⟩ (.int .i64 u4)).setCell ⟨gu, 5, none⟩ (.int .i64 u5)).setCell ⟨gu, 6, none⟩ (.string u6)).setCell ⟨gu, 7, none⟩ (.slice uA u7.length ua)).setCell ⟨gu, 8, none⟩ (.slice uB u8.length ub) = W2
 have ST : W2.heap[gu]? = some (.cells #[.int .i64 u0, .string u1, .string u2, .string u3, .int .i64 u4, .int .i64 u5, .string u6, .slice uA u7.length ua, .slice uB u8.length ub] 34 (0, 0)) ∧ (Below w.heap.size w W2) ∧ W2.heap[gd]? = some (.cells #[.int .i64 d0, .string d1, .string d2, .string d3, .int .i64 d4, .int .i64 d5, .string d6, .slice dA d7.length da, .slice dB d8.length db] 25 (0, 0)) := by
  obtain ⟨q1, q2, q3⟩ := st9_ BKgu.out _ _ _ _ _ _ _ _ _ hW
  exact ⟨q1, q2 _ HB.out GEgu.out, q3 _ _ _ NE.out BKgd.out⟩
 have SV := vrows_ hW HD7.out HD8.out
 have SU := vrows_ hW HU7.out HU8.out
 replace BKgu := am ST.1
 replace HB := am ST.2.1
 replace BKgd := am ST.2.2
 replace HD7 := am SV.1
 replace HD8 := am SV.2
 replace HU7 := am SU.1
 replace HU8 := am SU.2
 clear ST SV SU hW zu0 zu1 zu2 zu3 zu4 zu5 zu6 zu7 zu8 yu0 yu1 yu2 yu3 yu4 yu5 yu6 yu7 yu8 w4
 have SH : ∀ V : World, V.heap[gd]? = some (.cells #[.int .i64 d0, .string d1, .string d2, .string d3, .int .i64 d4, .int .i64 d5, .string d6, .slice dA d7.length da, .slice dB d8.length db] 25 (0, 0)) → V.heap[gu]? = some (.cells #[.int .i64 u0, .string u1, .string u2, .string u3, .int .i64 u4, .int .i64 u5, .string u6, .slice uA u7.length ua, .slice uB u8.length ub] 34 (0, 0)) → (V.cell? ⟨gd, 0, none⟩ = some (.int .i64 d0) ∧ V.cell? ⟨gd, 1, none⟩ = some (.string d1) ∧ V.cell? ⟨gd, 2, none⟩ = some (.string d2) ∧ V.cell? ⟨gd, 3, none⟩ = some (.string d3) ∧ V.cell? ⟨gd, 4, none⟩ = some (.int .i64 d4) ∧ V.cell? ⟨gd, 5, none⟩ = some (.int .i64 d5) ∧ V.cell? ⟨gd, 6, none⟩ = some (.string d6) ∧ V.cell? ⟨gd, 7, none⟩ = some (.slice dA d7.length da) ∧ V.cell? ⟨gd, 8, none⟩ = some (.slice dB d8.length db) ∧ V.cell? ⟨gu, 0, none⟩ = some (.int .i64 u0) ∧ V.cell? ⟨gu, 1, none⟩ = some (.string u1) ∧ V.cell? ⟨gu, 2, none⟩ = some (.string u2) ∧ V.cell? ⟨gu, 3, none⟩ = some (.string u3) ∧ V.cell? ⟨gu, 4, none⟩ = some (.int .i64 u4) ∧ V.cell? ⟨gu, 5, none⟩ = some (.int .i64 u5) ∧ V.cell? ⟨gu, 6, none⟩ = some (.string u6) ∧ V.cell? ⟨gu, 7, none⟩ = some (.slice uA u7.length ua) ∧ V.cell? ⟨gu, 8, none⟩ = some (.slice uB u8.length ub)) := fun V h h' => by
  obtain ⟨h0, h1, h2, h3, h4, h5, h6, h7, h8⟩ := c9_ h
  exact ⟨h0, h1, h2, h3, h4, h5, h6, h7, h8, c9_ h'⟩
 have SH := am SH
 clear A1 A2
 refine start_ (n := 13) (S := fun w' => w'.cell? ⟨gd, 0, none⟩ = some (.int .i64 d0) ∧ w'.cell? ⟨gd, 1, none⟩ = some (.string d1) ∧ w'.cell? ⟨gd, 2, none⟩ = some (.string d2) ∧ w'.cell? ⟨gd, 3, none⟩ = some (.string d3) ∧ w'.cell? ⟨gd, 4, none⟩ = some (.int .i64 d4) ∧ w'.cell? ⟨gd, 5, none⟩ = some (.int .i64 d5) ∧ w'.cell? ⟨gd, 6, none⟩ = some (.string d6) ∧ w'.cell? ⟨gd, 7, none⟩ = some (.slice dA d7.length da) ∧ w'.cell? ⟨gd, 8, none⟩ = some (.slice dB d8.length db) ∧ w'.cell? ⟨gu, 0, none⟩ = some (.int .i64 u0) ∧ w'.cell? ⟨gu, 1, none⟩ = some (.string u1) ∧ w'.cell? ⟨gu, 2, none⟩ = some (.string u2) ∧ w'.cell? ⟨gu, 3, none⟩ = some (.string u3) ∧ w'.cell? ⟨gu, 4, none⟩ = some (.int .i64 u4) ∧ w'.cell? ⟨gu, 5, none⟩ = some (.int .i64 u5) ∧ w'.cell? ⟨gu, 6, none⟩ = some (.string u6) ∧ w'.cell? ⟨gu, 7, none⟩ = some (.slice uA u7.length ua) ∧ w'.cell? ⟨gu, 8, none⟩ = some (.slice uB u8.length ub)) (ds := []) #[false, false, false, false, false, false, false, false, false, false, false, false, false] (by kernel_rfl) rfl rfl (SH.out _ BKgd.out BKgu.out) (fun hHeld => ?_)
 replace BKgd := am (blk_drew BKgd.out)
 replace BKgu := am (blk_drew BKgu.out)
 replace HB := am HB.out.drew
 replace HD7 := am (Kd.V_drew HD7.out)
 replace HD8 := am (Kd.V_drew HD8.out)
 replace HU7 := am (Kd.V_drew HU7.out)
 replace HU8 := am (Kd.V_drew HU8.out)
 generalize W2.drew = V0 at BKgd BKgu HB HD7 HD8 HU7 HU8 hHeld ⊢
 refine hcall 0 (some 17) 13 #[] (stowagelaw16_awake.calls k true V0 AW.out (gg_below HG.out HB.out)) ?_
 rintro e1 V1 ⟨rfl, hb⟩
 replace BKgd := am (blk_below BKgd.out hb)
 replace BKgu := am (blk_below BKgu.out hb)
 replace HB := am (below_step HB.out hb)
 replace HU7 := am (Kd.V_below HU7.out hb)
 replace HU8 := am (Kd.V_below HU8.out hb)
 replace HD7 := am (Kd.V_below HD7.out hb)
 replace HD8 := am (Kd.V_below HD8.out hb)
 clear hb hHeld
 have hHeld := SH.out _ BKgd.out BKgu.out
 refine ⟨_, _, rfl, hHeld, by simp only [Act.put, List.setIfInBounds_toArray, List.set_cons_zero, List.set_cons_succ]; rfl, ?_⟩
 refine hp 1 (some 18) ?_
 refine ht 2 (some 19) hHeld ?_
 refine ht 4 (some 21) hHeld ?_
 refine hcall 3 (some 20) 10 #[.agg #[.int .i64 d0, .string d1, .string d2, .string d3, .int .i64 d4, .int .i64 d5, .string d6, .slice dA d7.length da, .slice dB d8.length db]] (stowagelaw16_Ref.calls k d0 d1 d2 d3 d4 d5 d6 dA da d7 dB db d8 q0 q1 q2 q3 q4 q5 q6 q7 q8 V1 (Kd.V_reads' HD7.out).2.2 (Kd.V_reads' HD7.out).2.1 (Kd.V_reads' HD8.out).2.2 (Kd.V_reads' HD8.out).2.1 A3.out) ?_
 rintro e1 V2 ⟨v7, v8, rfl, ho7, ho8, hb⟩
 obtain ⟨qA, qa, rfl⟩ := Kd.R_slice ho7
 obtain ⟨qB, qb, rfl⟩ := Kd.R_slice ho8
 have HQ7 := am (Kd.R_V (base' := 0) ho7)
 have HQ8 := am (Kd.R_V (base' := 0) ho8)
 replace BKgd := am (blk_below BKgd.out hb)
 replace BKgu := am (blk_below BKgu.out hb)
 replace HB := am (below_step HB.out hb)
 replace HU7 := am (Kd.V_below HU7.out hb)
 replace HU8 := am (Kd.V_below HU8.out hb)
 clear hb ho7 ho8 hHeld HD7 HD8
 refine ⟨_, _, rfl, SH.out _ BKgd.out BKgu.out, by simp only [Act.put, List.setIfInBounds_toArray, List.set_cons_zero, List.set_cons_succ]; rfl, ?_⟩
 refine hcall 5 (some 22) 18 #[.agg #[.int .i64 q0, .string q1, .string q2, .string q3, .int .i64 q4, .int .i64 q5, .string q6, .slice qA q7.length qa, .slice qB q8.length qb], .agg #[.int .i64 u0, .string u1, .string u2, .string u3, .int .i64 u4, .int .i64 u5, .string u6, .slice uA u7.length ua, .slice uB u8.length ub]] (stowageref16_Same.calls k q0 q1 q2 q3 q4 q5 q6 qA qa q7 qB qb q8 u0 u1 u2 u3 u4 u5 u6 uA ua u7 uB ub u8 true V2 (Kd.V_reads' HQ7.out).2.2 (Kd.V_reads' HQ7.out).2.1 (Kd.V_reads' HQ8.out).2.2 (Kd.V_reads' HQ8.out).2.1 (Kd.V_reads' HU7.out).2.2 (Kd.V_reads' HU7.out).2.1 (Kd.V_reads' HU8.out).2.2 (Kd.V_reads' HU8.out).2.1 A4.out) ?_
 rintro e1 V3 ⟨rfl, hb⟩
 replace BKgd := am (blk_below BKgd.out hb)
 replace BKgu := am (blk_below BKgu.out hb)
 replace HB := am (below_step HB.out hb)
 replace HU7 := am (Kd.V_below HU7.out hb)
 replace HU8 := am (Kd.V_below HU8.out hb)
 clear hb HQ7 HQ8 HU7 HU8
 refine ⟨_, _, rfl, SH.out _ BKgd.out BKgu.out, by simp only [Act.put, List.setIfInBounds_toArray, List.set_cons_zero, List.set_cons_succ]; rfl, ?_⟩
 refine hp 6 (some 23) ?_
 refine hp 7 (some 24) ?_
 refine hp 8 (some 25) ?_
 refine hp 9 (some 26) ?_
 refine hp 10 (some 27) (v := .bool true) ?_ (hy := by intro w'; go_simp; try rfl)
 refine hp 11 (some 28) ?_
 refine hp 12 (some 2) ?_
 refine done_ (by kernel_rfl) ?_
 go_wp2
 go_ret
 exact ⟨rf, HB.out⟩
theorem stowagelaw16_CmdReads.calls (k : Nat) (s : ByteArray) (r : Bool) (w : World) (h : stowagelaw16_CmdReads.f k s = some r) (hG : GG w) :
  Calls Tryd.prog 4 #[.string s] w fun e w' => e = .returned (.bool r) ∧ Below w.heap.size w w' := by
 unfold stowagelaw16_CmdReads.f at h
 split at h
 ·
  rename_i hc
  obtain rfl := Option.some.inj h
  exact stowagelaw16_CmdReads_go k s w hc hG
 ·
  cases h
end Go.Proofs.YtdidopoalmkhlaaDoor.Or
end
section
namespace Go.Proofs.YtdidopoalmkhlaaDoor.Pure
open Go.RowKit Go.Proofs.YtdidopoalmkhlaaDoor.Or Go.Proofs.YtdidopoalmkhlaaDoorW.PrintWords Go.Proofs.YtdidopoalmkhlaaDoorW.PrintLast Go.Proofs.YtdidopoalmkhlaaDoorW.PrintMore
set_option linter.unusedVariables false
set_option linter.unusedSimpArgs false
theorem up {α : Type} {f : Nat → Option α} (h : ∀ k, LeO (f k) (f (k + 1))) {r : α} {k : Nat} (h0 : f k = some r) : ∀ n, f (k + n) = some r
 | 0 => h0
 | n + 1 => h (k + n) r (up h h0 n)
theorem up_to {α : Type} {f : Nat → Option α} (h : ∀ k, LeO (f k) (f (k + 1))) {r : α} {k m : Nat} (h0 : f k = some r) (hm : k ≤ m) : f m = some r := by
 have := up h h0 (m - k)
 rwa [Nat.add_sub_cancel' hm] at this
theorem w1 (i : Nat) (h : i ≤ 4611686018427387904) : wrap64 ((i : Int) + 1) = ((i + 1 : Nat) : Int) := by
 rw [IntWalk.wrap64_in _ (by omega)]
 omega
theorem len_eq (a : ByteArray) : a.data.toList.length = a.size := Array.length_toList (xs := a.data)
theorem bt_get (a : ByteArray) (i : Nat) (h : i < a.size) : ∃ c, a.data.toList.drop i = c :: a.data.toList.drop (i + 1) ∧ bt a (i : Int) = (c.toNat : Int) := by
 have hl : i < a.data.toList.length := by rw [len_eq]; exact h
 refine ⟨a.data.toList[i], List.drop_eq_getElem_cons hl, ?_⟩
 unfold bt
 rw [dif_pos (by rw [Int.toNat_natCast]; exact h)]
 simp only [Int.toNat_natCast, Array.getElem_toList]
 rfl
theorem bt_rng (s : ByteArray) (i : Int) : 0 ≤ bt s i ∧ bt s i ≤ 255 := by
 unfold bt
 split
 ·
  rename_i h
  have := (s.get i.toNat h).toNat_lt
  constructor
  ·
   omega
  ·
   show ((s.get i.toNat h).toNat : Int) ≤ 255
   omega
 ·
  omega
def nl : Nat → Int → List Int
 | 0, n => [n]
 | d + 1, n => if n < 128 then [n] else (n % 128 + 128) :: nl d (n / 128)
def num (n : Int) : ByteArray := strOfNums (nl 9 n)
def txt (a : ByteArray) : ByteArray := num (a.size : Int) ++ a
theorem and127 (m : Int) (h0 : 0 ≤ m) (h1 : m < 256) : Go.bits .and .u8 m 127 = m % 128 := by
 obtain ⟨n, rfl⟩ : ∃ n : Nat, m = (n : Int) := ⟨m.toNat, by omega⟩
 have h : ∀ n, n < 256 → Go.bits .and .u8 ((n : Nat) : Int) 127 = ((n : Nat) : Int) % 128 := by decide +kernel
 exact h n (by omega)
def rn (s : ByteArray) (a : Nat) : Nat → Nat → Int → Int × Int × Int
 | 0, _, _ => (0, 0, 3)
 | n + 1, i, x => if s.size ≤ a + i then (0, 0, 5) else if (i = 9 ∧ bt s ((a + i : Nat) : Int) > 1) ∨ (0 < i ∧ bt s ((a + i : Nat) : Int) = 0) then (0, 0, 3)
  else if bt s ((a + i : Nat) : Int) < 128 then (x + bt s ((a + i : Nat) : Int) % 128 * 128 ^ i, ((a + i + 1 : Nat) : Int), 0) else rn s a n (i + 1) (x + bt s ((a + i : Nat) : Int) % 128 * 128 ^ i)
theorem or_add (x d : Nat) (i : Nat) (hx : x < 128 ^ i) : x ||| (d * 128 ^ i) = x + d * 128 ^ i := by
 have h : (128 : Nat) ^ i = 2 ^ (7 * i) := by rw [Nat.pow_mul]
 rw [h] at hx ⊢
 rw [Nat.or_comm, Nat.mul_comm d, ← Nat.two_pow_add_eq_or_of_lt hx d, Nat.add_comm]
theorem step_bits (x b : Int) (i : Nat) (h0 : 0 ≤ x) (hx : x < 128 ^ i) (hb0 : 0 ≤ b) (hb : b < 256) (hi : i < 9 ∨ (i = 9 ∧ b ≤ 1)) :
  Go.bits .or .u64 x (shl .u64 (IntKind.u64.wrap (Go.bits .and .u8 b 127)) (7 * (i : Int))) = x + b % 128 * 128 ^ i ∧ 0 ≤ x + b % 128 * 128 ^ i ∧ x + b % 128 * 128 ^ i < 128 ^ (i + 1) ∧ x + b % 128 * 128 ^ i ≤ 18446744073709551615 := by
 obtain ⟨n, rfl⟩ : ∃ n : Nat, x = (n : Int) := ⟨x.toNat, by omega⟩
 obtain ⟨d, hd⟩ : ∃ d : Nat, b % 128 = (d : Int) := ⟨(b % 128).toNat, by omega⟩
 have hd1 : d < 128 := by omega
 have hn : n < 128 ^ i := by exact_mod_cast hx
 have hpow : (128 : Nat) ^ i = 2 ^ (7 * i) := by rw [Nat.pow_mul]
 have hlt : n + d * 128 ^ i < 128 ^ (i + 1) := by
  have h1 : d * 128 ^ i ≤ 127 * 128 ^ i := Nat.mul_le_mul_right _ (by omega)
  rw [Nat.pow_succ]; omega
 have hmax : n + d * 128 ^ i < 18446744073709551616 := by
  rcases hi with hi | ⟨rfl, hb1⟩
  ·
   have h2 : (128 : Nat) ^ (i + 1) ≤ 128 ^ 9 := Nat.pow_le_pow_right (by decide) (by omega)
   have h3 : (128 : Nat) ^ 9 = 9223372036854775808 := by decide
   omega
  ·
   have h3 : (128 : Nat) ^ 9 = 9223372036854775808 := by decide
   have h4 : d ≤ 1 := by omega
   rw [h3] at hn ⊢
   rcases (show d = 0 ∨ d = 1 by omega) with rfl | rfl <;> omega
 have hpi : (0 : Nat) < 128 ^ i := Nat.pow_pos (by decide)
 have hdm : d * 128 ^ i < 18446744073709551616 := by omega
 have hi9 : i ≤ 9 := by omega
 have hshl : shl .u64 (IntKind.u64.wrap (Go.bits .and .u8 b 127)) (7 * (i : Int)) = ((d * 128 ^ i : Nat) : Int) := by
  rw [and127 b hb0 hb, hd, IntWalk.u64_in _ (by omega)]
  unfold shl
  have hbits : IntKind.u64.bits = 64 := rfl
  rw [hbits, show (7 * (i : Int)).toNat = 7 * i by omega, Nat.min_eq_left (by omega), hpow]
  rw [hpow] at hdm
  have hc : ((d : Int) * 2 ^ (7 * i)) = ((d * 2 ^ (7 * i) : Nat) : Int) := by rw [Int.natCast_mul, Int.natCast_pow]; rfl
  rw [hc, IntWalk.u64_in _ (by omega)]
 have hc2 : (n : Int) + b % 128 * 128 ^ i = ((n + d * 128 ^ i : Nat) : Int) := by rw [hd, Int.natCast_add, Int.natCast_mul, Int.natCast_pow]; rfl
 rw [hshl, bits_or_u64_nat n _ (by omega) hdm, or_add n d i hn, hc2]
 refine ⟨rfl, by omega, ?_, by omega⟩
 have : ((128 : Int) ^ (i + 1)) = ((128 ^ (i + 1) : Nat) : Int) := by rw [Int.natCast_pow]; rfl
 rw [this]
 omega
theorem oct_rn (s : ByteArray) (a : Nat) (hs : s.size ≤ 1073741824) (ha : a ≤ s.size) : ∀ (n i k : Nat) (x : Int), i + n = 10 → 2 * n < k → 0 ≤ x → x < 128 ^ i → octet_ReadNumber.l0 k s (a : Int) x (i : Int) = some (rn s a n i x) := by
 intro n
 induction n with
 | zero =>
  intro i k x hi hk h0 hx
  obtain ⟨k, rfl⟩ : ∃ j, k = j + 1 := ⟨k - 1, by omega⟩
  rw [octet_ReadNumber.l0, if_neg (by omega)]
  rfl
 | succ n ih =>
  intro i k x hi hk h0 hx
  obtain ⟨k, rfl⟩ : ∃ j, k = j + 1 + 1 := ⟨k - 2, by omega⟩
  have hbr := bt_rng s ((a + i : Nat) : Int)
  rw [octet_ReadNumber.l0, if_pos (by omega), IntWalk.wrap64_in ((a : Int) + (i : Int)) (by omega), show ((a : Int) + (i : Int)) = ((a + i : Nat) : Int) by omega, rn]
  obtain ⟨b, hb⟩ : ∃ b, bt s ((a + i : Nat) : Int) = b := ⟨_, rfl⟩
  rw [hb] at hbr ⊢
  by_cases he : s.size ≤ a + i
  ·
   rw [if_pos (by omega), if_pos he]
  ·
   rw [if_neg (by omega), if_neg he, if_pos (by omega), if_pos (by omega)]
   have tail : ∀ c : Bool, (c = true ↔ ((i = 9 ∧ b > 1) ∨ (0 < i ∧ b = 0))) → octet_ReadNumber.j2 (k + 1) s (a : Int) x (i : Int) b (i : Int) c = some (if (i = 9 ∧ b > 1) ∨ (0 < i ∧ b = 0) then (0, 0, 3) else if b < 128 then (x + b % 128 * 128 ^ i, ((a + i + 1 : Nat) : Int), 0) else rn s a n (i + 1) (x + b % 128 * 128 ^ i)) := by
    intro c hc
    rw [octet_ReadNumber.j2]
    by_cases hq : (i = 9 ∧ b > 1) ∨ (0 < i ∧ b = 0)
    ·
     rw [if_pos (hc.2 hq), if_pos hq]
    ·
     rw [if_neg (fun h => hq (hc.1 h)), if_neg hq, IntWalk.wrap64_in (7 * (i : Int)) (by omega), if_pos (by omega)]
     obtain ⟨e1, e2, e3, e4⟩ := step_bits x b i h0 hx hbr.1 (by omega) (by omega)
     rw [e1]
     by_cases hlt : b < 128
     ·
      rw [if_pos hlt, if_pos hlt, IntWalk.wrap64_in ((a : Int) + (i : Int)) (by omega), IntWalk.wrap64_in _ (by omega)]
      rfl
     ·
      rw [if_neg hlt, if_neg hlt, IntWalk.wrap64_in ((i : Int) + 1) (by omega), show ((i : Int) + 1) = ((i + 1 : Nat) : Int) by omega]
      exact ih (i + 1) k _ (by omega) (by omega) e2 e3
   by_cases h9 : i = 9
   ·
    rw [if_pos (by omega)]
    by_cases hb1 : b > 1
    ·
     rw [if_pos hb1]; exact tail true (by simp; omega)
    ·
     rw [if_neg hb1, if_pos (by omega)]; exact tail _ (by simp; omega)
   ·
    rw [if_neg (by omega)]
    by_cases hi0 : i = 0
    ·
     rw [if_neg (by omega)]; exact tail false (by simp; omega)
    ·
     rw [if_pos (by omega)]; exact tail _ (by simp; omega)
theorem ref_rn (s : ByteArray) (a : Nat) (hs : s.size ≤ 1073741824) (ha : a ≤ s.size) : ∀ (n i k : Nat) (x w : Int), i + n = 10 → 0 < n → 2 * n < k → 0 ≤ x → x < 128 ^ i → (i < 10 → w = 128 ^ i) → stowageref01_ReadNumber.l0 k s (a : Int) x w ((a + i : Nat) : Int) = some (rn s a n i x) := by
 intro n
 induction n with
 | zero => intro i k x w hi hn; omega
 | succ n ih =>
  intro i k x w hi hn hk h0 hx hw
  obtain ⟨k, rfl⟩ : ∃ j, k = j + 1 + 1 := ⟨k - 2, by omega⟩
  have hbr := bt_rng s ((a + i : Nat) : Int)
  obtain rfl := hw (by omega)
  rw [stowageref01_ReadNumber.l0, rn]
  obtain ⟨b, hb⟩ : ∃ b, bt s ((a + i : Nat) : Int) = b := ⟨_, rfl⟩
  rw [hb] at hbr ⊢
  by_cases he : s.size ≤ a + i
  ·
   rw [if_pos (by omega), if_pos he]
  ·
   rw [if_neg (by omega), if_neg he, if_pos (by omega), if_pos (by omega), IntWalk.u64_in b (by omega), IntWalk.wrap64_in (((a + i : Nat) : Int) - (a : Int)) (by omega)]
   have tail : ∀ c : Bool, (c = true ↔ ((i = 9 ∧ b > 1) ∨ (0 < i ∧ b = 0))) → stowageref01_ReadNumber.j2 (k + 1) s (a : Int) x (128 ^ i) ((a + i : Nat) : Int) b c = some (if (i = 9 ∧ b > 1) ∨ (0 < i ∧ b = 0) then (0, 0, 3) else if b < 128 then (x + b % 128 * 128 ^ i, ((a + i + 1 : Nat) : Int), 0) else rn s a n (i + 1) (x + b % 128 * 128 ^ i)) := by
    intro c hc
    rw [stowageref01_ReadNumber.j2]
    by_cases hq : (i = 9 ∧ b > 1) ∨ (0 < i ∧ b = 0)
    ·
     rw [if_pos (hc.2 hq), if_pos hq]
    ·
     obtain ⟨e1, e2, e3, e4⟩ := step_bits x b i h0 hx hbr.1 (by omega) (by omega)
     have h5 : 0 ≤ b % 128 * 128 ^ i := Int.mul_nonneg (by omega) (Int.pow_nonneg (by omega))
     rw [if_neg (fun h => hq (hc.1 h)), if_neg hq, Int.tmod_eq_emod_of_nonneg hbr.1, IntWalk.u64_in (b % 128 * 128 ^ i) ⟨h5, by omega⟩, IntWalk.u64_in _ ⟨e2, e4⟩, IntWalk.wrap64_in (((a + i : Nat) : Int) + 1) (by omega)]
     by_cases hlt : b < 128
     ·
      rw [if_pos hlt, if_pos hlt]
      rfl
     ·
      have hn0 : 0 < n := by
       rcases Nat.eq_zero_or_pos n with h | h
       ·
        omega
       ·
        exact h
      rw [if_neg hlt, if_neg hlt, show (((a + i : Nat) : Int) + 1) = ((a + (i + 1) : Nat) : Int) by omega]
      refine ih (i + 1) k _ _ (by omega) hn0 (by omega) e2 e3 (fun hi10 => ?_)
      have h6 : (128 : Int) ^ i * 128 = 128 ^ (i + 1) := (Int.pow_succ _ _).symm
      have h7 : (128 : Int) ^ (i + 1) ≤ 18446744073709551615 := by
       have h8 : (128 : Nat) ^ (i + 1) ≤ 128 ^ 9 := Nat.pow_le_pow_right (by decide) (by omega)
       have h9 : (128 : Nat) ^ 9 = 9223372036854775808 := by decide
       have h10 : ((128 : Int) ^ (i + 1)) = ((128 ^ (i + 1) : Nat) : Int) := by rw [Int.natCast_pow]; rfl
       rw [h10]; omega
      rw [h6, IntWalk.u64_in _ ⟨Int.pow_nonneg (by omega), h7⟩]
   by_cases h9 : i = 9
   ·
    rw [if_pos (by omega)]
    by_cases hb1 : b > 1
    ·
     rw [if_pos hb1]; exact tail true (by simp; omega)
    ·
     rw [if_neg hb1, if_pos (by omega)]; exact tail _ (by simp; omega)
   ·
    rw [if_neg (by omega)]
    by_cases hi0 : i = 0
    ·
     rw [if_neg (by omega)]; exact tail false (by simp; omega)
    ·
     rw [if_pos (by omega)]; exact tail _ (by simp; omega)
theorem rn_spec (s : ByteArray) (a : Nat) : ∀ (n i : Nat) (x : Int), i + n = 10 → 0 ≤ x → x < 128 ^ i → (rn s a n i x).2.2 = 0 → 0 ≤ (rn s a n i x).1 ∧ (rn s a n i x).1 ≤ 18446744073709551615 ∧ ∃ m : Nat, (rn s a n i x).2.1 = (m : Int) ∧ a ≤ m ∧ m ≤ s.size
 | 0, _, _, _, _, _, h => by simp [rn] at h
 | n + 1, i, x, hi, h0, hx, h => by
  have hbr := bt_rng s ((a + i : Nat) : Int)
  rw [rn] at h ⊢
  split at h
  ·
   simp at h
  ·
   rename_i he
   split at h
   ·
    simp at h
   ·
    rename_i hq
    obtain ⟨e1, e2, e3, e4⟩ := step_bits x _ i h0 hx hbr.1 (by omega) (by omega)
    rw [if_neg he, if_neg hq]
    split at h
    ·
     rename_i hlt
     rw [if_pos hlt]
     exact ⟨e2, e4, a + i + 1, rfl, by omega, by omega⟩
    ·
     rename_i hlt
     rw [if_neg hlt]
     exact rn_spec s a n (i + 1) _ (by omega) e2 e3 h
def rd0 (s : ByteArray) (a : Nat) : Int × Int × Int := rn s a 10 0 0
theorem oct_ReadNumber (s : ByteArray) (a : Nat) (hs : s.size ≤ 1073741824) (ha : a ≤ s.size) (k : Nat) (hk : 25 ≤ k) : octet_ReadNumber.f k s (a : Int) = some (rd0 s a) := by
 unfold octet_ReadNumber.f
 obtain ⟨k, rfl⟩ : ∃ j, k = j + 1 := ⟨k - 1, by omega⟩
 rw [if_neg (by omega), decide_eq_false (by omega), octet_ReadNumber.j0, if_neg (by simp)]
 exact oct_rn s a hs ha 10 0 k 0 (by omega) (by omega) (by omega) (by decide)
theorem ref_ReadNumber (s : ByteArray) (a : Nat) (hs : s.size ≤ 1073741824) (ha : a ≤ s.size) (k : Nat) (hk : 25 ≤ k) : stowageref01_ReadNumber.f k s (a : Int) = some (rd0 s a) := by
 unfold stowageref01_ReadNumber.f
 obtain ⟨k, rfl⟩ : ∃ j, k = j + 1 := ⟨k - 1, by omega⟩
 rw [if_neg (by omega), decide_eq_false (by omega), stowageref01_ReadNumber.j0, if_neg (by simp)]
 exact ref_rn s a hs ha 10 0 k 0 1 (by omega) (by omega) (by omega) (by omega) (by decide) (fun _ => by decide)
theorem rd0_spec (s : ByteArray) (a : Nat) (h : (rd0 s a).2.2 = 0) : 0 ≤ (rd0 s a).1 ∧ (rd0 s a).1 ≤ 18446744073709551615 ∧ ∃ m : Nat, (rd0 s a).2.1 = (m : Int) ∧ a ≤ m ∧ m ≤ s.size :=
 rn_spec s a 10 0 0 (by omega) (by omega) (by decide) h
def xn (s : ByteArray) (a : Nat) (e : Int) (most : Int) : Int × Int × Int :=
 if e = 0 then (if (rd0 s a).2.2 = 0 then (if (rd0 s a).1 > most then (0, (a : Int), 2) else ((rd0 s a).1, (rd0 s a).2.1, 0)) else (0, (a : Int), (rd0 s a).2.2)) else (0, (a : Int), e)
theorem oct_RNumber (s : ByteArray) (a : Nat) (hs : s.size ≤ 1073741824) (ha : a ≤ s.size) (e most : Int) (k : Nat) (hk : 30 ≤ k) :
  octet_Reader_Number.f k s (a : Int) e most = some ((xn s a e most).1, s, (xn s a e most).2.1, (xn s a e most).2.2) := by
 unfold octet_Reader_Number.f octet_Reader_Err.f xn
 obtain ⟨k, rfl⟩ : ∃ j, k = j + 1 := ⟨k - 1, by omega⟩
 rw [Option.bind_some]
 by_cases he : e = 0
 ·
  rw [if_pos he, if_pos he, oct_ReadNumber s a hs ha (k + 1) (by omega), Option.bind_some]
  by_cases h0 : (rd0 s a).2.2 = 0
  ·
   rw [if_pos h0, if_pos h0, octet_Reader_Number.j0]
   by_cases hm : (rd0 s a).1 > most
   ·
    rw [if_pos (decide_eq_true hm), if_neg (by omega), if_pos hm]
   ·
    rw [if_neg (by simpa using hm), if_pos h0, if_neg hm, he]
  ·
   rw [if_neg h0, if_neg h0, octet_Reader_Number.j0, if_neg (by simp), if_neg h0]
 ·
  rw [if_neg he, if_neg he]
theorem ref_RNumber (s : ByteArray) (a : Nat) (hs : s.size ≤ 1073741824) (ha : a ≤ s.size) (e most : Int) (k : Nat) (hk : 30 ≤ k) :
  stowageref01_Reader_Number.f k s (a : Int) e most = some (s, (xn s a e most).2.1, (xn s a e most).2.2, (xn s a e most).1) := by
 unfold stowageref01_Reader_Number.f xn
 by_cases he : e = 0
 ·
  rw [if_pos he, if_pos he, ref_ReadNumber s a hs ha k (by omega), Option.bind_some]
  by_cases h0 : (rd0 s a).2.2 = 0
  ·
   rw [if_pos h0, if_pos h0]
   by_cases hm : (rd0 s a).1 > most
   ·
    rw [if_pos hm, if_pos hm]
   ·
    rw [if_neg hm, if_neg hm, he]
  ·
   rw [if_neg h0, if_neg h0]
 ·
  rw [if_neg he, if_neg he]
theorem xn_at (s : ByteArray) (a : Nat) (ha : a ≤ s.size) (e most : Int) (hm : 0 ≤ most) : 0 ≤ (xn s a e most).1 ∧ (xn s a e most).1 ≤ most ∧ ∃ m : Nat, (xn s a e most).2.1 = (m : Int) ∧ a ≤ m ∧ m ≤ s.size := by
 unfold xn
 by_cases he : e = 0
 ·
  rw [if_pos he]
  by_cases h0 : (rd0 s a).2.2 = 0
  ·
   rw [if_pos h0]
   obtain ⟨g1, g2, m, g3, g4, g5⟩ := rd0_spec s a h0
   by_cases hmm : (rd0 s a).1 > most
   ·
    rw [if_pos hmm]; exact ⟨Int.le_refl _, hm, a, rfl, Nat.le_refl _, ha⟩
   ·
    rw [if_neg hmm]; exact ⟨g1, by omega, m, g3, g4, g5⟩
  ·
   rw [if_neg h0]; exact ⟨Int.le_refl _, hm, a, rfl, Nat.le_refl _, ha⟩
 ·
  rw [if_neg he]; exact ⟨Int.le_refl _, hm, a, rfl, Nat.le_refl _, ha⟩
theorem oct_RInt (s : ByteArray) (a : Nat) (hs : s.size ≤ 1073741824) (ha : a ≤ s.size) (e most : Int) (hm : 0 ≤ most) (hm2 : most ≤ 9223372036854775807) (k : Nat) (hk : 30 ≤ k) :
  octet_Reader_Int.f k s (a : Int) e most = some ((xn s a e most).1, s, (xn s a e most).2.1, (xn s a e most).2.2) := by
 unfold octet_Reader_Int.f
 obtain ⟨h1, h2, _⟩ := xn_at s a ha e most hm
 rw [if_neg (by omega), IntWalk.u64_in most (by omega), oct_RNumber s a hs ha e most k hk, Option.bind_some]
 show some (wrap64 ((xn s a e most).1), s, (xn s a e most).2.1, (xn s a e most).2.2) = _
 rw [IntWalk.wrap64_in _ (by omega)]
theorem ref_RInt (s : ByteArray) (a : Nat) (hs : s.size ≤ 1073741824) (ha : a ≤ s.size) (e most : Int) (hm : 0 ≤ most) (hm2 : most ≤ 9223372036854775807) (k : Nat) (hk : 30 ≤ k) :
  stowageref01_Reader_Int.f k s (a : Int) e most = some (s, (xn s a e most).2.1, (xn s a e most).2.2, (xn s a e most).1) := by
 unfold stowageref01_Reader_Int.f
 obtain ⟨h1, h2, _⟩ := xn_at s a ha e most hm
 rw [if_pos (by omega), IntWalk.u64_in most (by omega), ref_RNumber s a hs ha e most k hk, Option.bind_some]
 show some (s, (xn s a e most).2.1, (xn s a e most).2.2, wrap64 ((xn s a e most).1)) = _
 rw [IntWalk.wrap64_in _ (by omega)]
def rt (s : ByteArray) (a : Nat) : ByteArray × Int × Int :=
 if (rd0 s a).2.2 = 0 then (if (rd0 s a).1 > (s.size : Int) - (rd0 s a).2.1 then ((⟨#[]⟩ : ByteArray), 0, 5) else (s.extract (rd0 s a).2.1.toNat ((rd0 s a).2.1 + (rd0 s a).1).toNat, (rd0 s a).2.1 + (rd0 s a).1, 0)) else ((⟨#[]⟩ : ByteArray), 0, (rd0 s a).2.2)
theorem oct_ReadText (s : ByteArray) (a : Nat) (hs : s.size ≤ 1073741824) (ha : a ≤ s.size) (k : Nat) (hk : 25 ≤ k) : octet_ReadText.f k s (a : Int) = some (rt s a) := by
 unfold octet_ReadText.f rt
 rw [oct_ReadNumber s a hs ha k hk, Option.bind_some]
 by_cases h0 : (rd0 s a).2.2 = 0
 ·
  obtain ⟨g1, g2, m, g3, g4, g5⟩ := rd0_spec s a h0
  rw [if_pos h0, if_pos h0, g3, IntWalk.wrap64_in ((s.size : Int) - (m : Int)) (by omega), IntWalk.u64_in _ (by omega)]
  by_cases hm : (rd0 s a).1 > (s.size : Int) - (m : Int)
  ·
   rw [if_pos hm, if_pos hm]
  ·
   rw [if_neg hm, if_neg hm, IntWalk.wrap64_in (rd0 s a).1 (by omega), IntWalk.wrap64_in _ (by omega), if_pos (by omega), if_pos (by omega), if_pos (by omega)]
 ·
  rw [if_neg h0, if_neg h0]
theorem ref_ReadText (s : ByteArray) (a : Nat) (hs : s.size ≤ 1073741824) (ha : a ≤ s.size) (k : Nat) (hk : 25 ≤ k) : stowageref01_ReadText.f k s (a : Int) = some (rt s a) := by
 unfold stowageref01_ReadText.f rt
 rw [ref_ReadNumber s a hs ha k hk, Option.bind_some]
 by_cases h0 : (rd0 s a).2.2 = 0
 ·
  obtain ⟨g1, g2, m, g3, g4, g5⟩ := rd0_spec s a h0
  rw [if_pos h0, if_pos h0, g3, IntWalk.u64_in (s.size : Int) (by omega)]
  by_cases hb : (rd0 s a).1 > (s.size : Int)
  ·
   rw [if_pos hb, if_pos (by omega)]
  ·
   rw [if_neg hb, IntWalk.wrap64_in (rd0 s a).1 (by omega), IntWalk.wrap64_in ((s.size : Int) - (m : Int)) (by omega)]
   by_cases hm : (rd0 s a).1 > (s.size : Int) - (m : Int)
   ·
    rw [if_pos hm, if_pos hm]
   ·
    rw [if_neg hm, if_neg hm, IntWalk.wrap64_in _ (by omega), if_pos (by omega), if_pos (by omega), if_pos (by omega)]
 ·
  rw [if_neg h0, if_neg h0]
theorem rt_spec (s : ByteArray) (a : Nat) (h : (rt s a).2.2 = 0) : ∃ m : Nat, (rt s a).2.1 = (m : Int) ∧ a ≤ m ∧ m ≤ s.size := by
 unfold rt at h ⊢
 by_cases h0 : (rd0 s a).2.2 = 0
 ·
  obtain ⟨g1, g2, m, g3, g4, g5⟩ := rd0_spec s a h0
  rw [if_pos h0] at h ⊢
  by_cases hm : (rd0 s a).1 > (s.size : Int) - (rd0 s a).2.1
  ·
   rw [if_pos hm] at h; simp at h
  ·
   rw [if_neg hm]
   exact ⟨m + (rd0 s a).1.toNat, by show (rd0 s a).2.1 + (rd0 s a).1 = _; omega, by omega, by omega⟩
 ·
  rw [if_neg h0] at h
  exact absurd h h0
def xt (s : ByteArray) (a : Nat) (e : Int) (most : Int) : ByteArray × Int × Int :=
 if e = 0 then (if (rt s a).2.2 = 0 then (if ((rt s a).1.size : Int) > most then ((⟨#[]⟩ : ByteArray), (a : Int), 2) else ((rt s a).1, (rt s a).2.1, 0)) else ((⟨#[]⟩ : ByteArray), (a : Int), (rt s a).2.2)) else ((⟨#[]⟩ : ByteArray), (a : Int), e)
theorem oct_RText (s : ByteArray) (a : Nat) (hs : s.size ≤ 1073741824) (ha : a ≤ s.size) (e most : Int) (k : Nat) (hk : 30 ≤ k) :
  octet_Reader_Text.f k s (a : Int) e most = some ((xt s a e most).1, s, (xt s a e most).2.1, (xt s a e most).2.2) := by
 unfold octet_Reader_Text.f octet_Reader_Err.f xt
 obtain ⟨k, rfl⟩ : ∃ j, k = j + 1 := ⟨k - 1, by omega⟩
 rw [Option.bind_some]
 by_cases he : e = 0
 ·
  rw [if_pos he, if_pos he, oct_ReadText s a hs ha (k + 1) (by omega), Option.bind_some]
  by_cases h0 : (rt s a).2.2 = 0
  ·
   rw [if_pos h0, if_pos h0, octet_Reader_Text.j0]
   by_cases hm : ((rt s a).1.size : Int) > most
   ·
    rw [if_pos (decide_eq_true hm), if_neg (by omega), if_pos hm]
   ·
    rw [if_neg (by simpa using hm), if_pos h0, if_neg hm, he]
  ·
   rw [if_neg h0, if_neg h0, octet_Reader_Text.j0, if_neg (by simp), if_neg h0]
 ·
  rw [if_neg he, if_neg he]
theorem ref_RText (s : ByteArray) (a : Nat) (hs : s.size ≤ 1073741824) (ha : a ≤ s.size) (e most : Int) (k : Nat) (hk : 30 ≤ k) :
  stowageref01_Reader_Text.f k s (a : Int) e most = some (s, (xt s a e most).2.1, (xt s a e most).2.2, (xt s a e most).1) := by
 unfold stowageref01_Reader_Text.f xt
 by_cases he : e = 0
 ·
  rw [if_pos he, if_pos he, ref_ReadText s a hs ha k (by omega), Option.bind_some]
  by_cases h0 : (rt s a).2.2 = 0
  ·
   rw [if_pos h0, if_pos h0]
   by_cases hm : ((rt s a).1.size : Int) > most
   ·
    rw [if_pos hm, if_pos hm]
   ·
    rw [if_neg hm, if_neg hm, he]
  ·
   rw [if_neg h0, if_neg h0]
 ·
  rw [if_neg he, if_neg he]
theorem xt_at (s : ByteArray) (a : Nat) (ha : a ≤ s.size) (e most : Int) (hm : 0 ≤ most) : ((xt s a e most).1.size : Int) ≤ most ∧ ∃ m : Nat, (xt s a e most).2.1 = (m : Int) ∧ a ≤ m ∧ m ≤ s.size := by
 have hz : (((⟨#[]⟩ : ByteArray).size : Nat) : Int) = 0 := rfl
 unfold xt
 by_cases he : e = 0
 ·
  rw [if_pos he]
  by_cases h0 : (rt s a).2.2 = 0
  ·
   rw [if_pos h0]
   by_cases hmm : ((rt s a).1.size : Int) > most
   ·
    rw [if_pos hmm]; exact ⟨by show (((⟨#[]⟩ : ByteArray).size : Nat) : Int) ≤ most; omega, a, rfl, Nat.le_refl _, ha⟩
   ·
    rw [if_neg hmm]; exact ⟨by show ((rt s a).1.size : Int) ≤ most; omega, rt_spec s a h0⟩
  ·
   rw [if_neg h0]; exact ⟨by show (((⟨#[]⟩ : ByteArray).size : Nat) : Int) ≤ most; omega, a, rfl, Nat.le_refl _, ha⟩
 ·
  rw [if_neg he]; exact ⟨by show (((⟨#[]⟩ : ByteArray).size : Nat) : Int) ≤ most; omega, a, rfl, Nat.le_refl _, ha⟩
def by_ (l : List Int) : List UInt8 := l.map fun n => UInt8.ofNat n.toNat
end Go.Proofs.YtdidopoalmkhlaaDoor.Pure
end
section
namespace Go.Proofs.YtdidopoalmkhlaaDoor.Pure
open Go.RowKit Go.Proofs.YtdidopoalmkhlaaDoor.Or Go.Proofs.YtdidopoalmkhlaaDoorW.PrintWords Go.Proofs.YtdidopoalmkhlaaDoorW.PrintLast Go.Proofs.YtdidopoalmkhlaaDoorW.PrintMore
set_option linter.unusedVariables false
set_option linter.unusedSimpArgs false
set_option maxRecDepth 100000
abbrev Piece := S82
abbrev Pick := S62
def dig (s : ByteArray) : ByteArray := Sha.ofB (Sha.hexL (Sha.ofB (Sha.sha (Sha.tagB (BitVec.ofInt 8 67) [s]))).data.toList)
theorem sum_size (ss : List ByteArray) : (Sha.ofB (Sha.sha (Sha.tagB (BitVec.ofInt 8 67) ss))).size = 32 := by
 rw [Sha.ofB_size, Sha.sha, Sha.out_length]
theorem dig_size (s : ByteArray) : (dig s).size = 64 := by
 unfold dig
 rw [Sha.ofB_size, Sha.two_length, len_eq, sum_size]
theorem tag_one (s : ByteArray) : (Sha.tagB (BitVec.ofInt 8 67) [s]).length = 9 + s.size := by
 unfold Sha.tagB
 rw [List.length_append, List.flatMap_cons, List.length_append, Sha.partB_length, List.flatMap_nil]
 simp only [List.length_cons, List.length_nil]
 omega
theorem dig_tag (s : ByteArray) (h : s.size ≤ 1073741824) : digest_Tagged.f 67 [s] = some (Sha.ofB (Sha.sha (Sha.tagB (BitVec.ofInt 8 67) [s]))) := by
 show Sha.tagF 67 [s] = _
 unfold Sha.tagF
 rw [if_pos ⟨by decide, by decide, by rw [tag_one]; omega⟩]
theorem dig_hex (s : ByteArray) : digest_Hex.f (Sha.ofB (Sha.sha (Sha.tagB (BitVec.ofInt 8 67) [s]))) = some (dig s) := by
 show Sha.hexF _ = _
 unfold Sha.hexF
 rw [if_pos (by rw [sum_size]; decide)]
 rfl
def B0 : ByteArray := ⟨#[]⟩
def B1 : ByteArray := ⟨#[111, 110, 101]⟩
def B2 : ByteArray := ⟨#[1, 0, 3, 111, 110, 101]⟩
def B3 : ByteArray := ⟨#[116]⟩
theorem aw_chk1 : cmd_Check.f 200 1 (⟨#[]⟩ : ByteArray) (⟨#[111, 110, 101]⟩ : ByteArray) (⟨#[]⟩ : ByteArray) 0 0 (⟨#[]⟩ : ByteArray) ([] : List Piece) ([] : List Pick) = some 0 := by kernel_rfl
theorem aw_chk2 : cmd_Check.f 200 1 (⟨#[116]⟩ : ByteArray) (⟨#[111, 110, 101]⟩ : ByteArray) (⟨#[]⟩ : ByteArray) 0 0 (⟨#[]⟩ : ByteArray) ([] : List Piece) ([] : List Pick) = some 0 := by kernel_rfl
theorem aw_told : cmd_told.f 200 1 (⟨#[]⟩ : ByteArray) (⟨#[111, 110, 101]⟩ : ByteArray) (⟨#[]⟩ : ByteArray) 0 0 (⟨#[]⟩ : ByteArray) ([] : List Piece) ([] : List Pick) = some B2 := by kernel_rfl
theorem aw_dec : cmd_Decode.f 200 B2 = some (1, B0, B1, B0, 0, 0, B0, ([] : List Piece), ([] : List Pick), 0) := by kernel_rfl
theorem awake_true (k : Nat) (hk : 200 ≤ k) : stowagelaw16_awake.f k = some true := by
 have h1 := up_to (f := fun k => cmd_Check.f k 1 (⟨#[]⟩ : ByteArray) (⟨#[111, 110, 101]⟩ : ByteArray) (⟨#[]⟩ : ByteArray) 0 0 (⟨#[]⟩ : ByteArray) ([] : List Piece) ([] : List Pick)) (fun k => cmd_Check.mono _ _ _ _ _ _ _ _ _ k) aw_chk1 hk
 have h2 := up_to (f := fun k => cmd_Check.f k 1 (⟨#[116]⟩ : ByteArray) (⟨#[111, 110, 101]⟩ : ByteArray) (⟨#[]⟩ : ByteArray) 0 0 (⟨#[]⟩ : ByteArray) ([] : List Piece) ([] : List Pick)) (fun k => cmd_Check.mono _ _ _ _ _ _ _ _ _ k) aw_chk2 hk
 have h3 := up_to (f := fun k => cmd_told.f k 1 (⟨#[]⟩ : ByteArray) (⟨#[111, 110, 101]⟩ : ByteArray) (⟨#[]⟩ : ByteArray) 0 0 (⟨#[]⟩ : ByteArray) ([] : List Piece) ([] : List Pick)) (fun k => cmd_told.mono _ _ _ _ _ _ _ _ _ k) aw_told hk
 have h4 := up_to (f := fun k => cmd_Decode.f k B2) (fun k => cmd_Decode.mono _ k) aw_dec hk
 have h5 := dig_tag B2 (by decide +kernel)
 have h6 := dig_hex B2
 unfold stowagelaw16_awake.f cmd_Encode.f cmd_Digest.f
 simp only [h1, h2, h3, h4, h5, h6, Option.bind_some, if_true]
 rw [if_pos (by kernel_rfl), if_pos (by kernel_rfl)]
 have h7 : ((((dig B2).size : Nat) : Int) == 64) = true := by rw [dig_size]; rfl
 rw [h7]
end Go.Proofs.YtdidopoalmkhlaaDoor.Pure
end
section
namespace Go.Proofs.YtdidopoalmkhlaaDoor.Pure
open Go.RowKit Go.Proofs.YtdidopoalmkhlaaDoor.Or Go.Proofs.YtdidopoalmkhlaaDoorW.PrintWords Go.Proofs.YtdidopoalmkhlaaDoorW.PrintLast Go.Proofs.YtdidopoalmkhlaaDoorW.PrintMore
set_option linter.unusedVariables false
set_option linter.unusedSimpArgs false
def tokC (c : UInt8) : Bool := decide (33 ≤ c.toNat) && decide (c.toNat ≤ 126)
def tokOk (a : ByteArray) : Bool := a.data.toList.all tokC && (decide (1 ≤ a.size) && decide (a.size ≤ 64))
theorem toList_nil (a : ByteArray) : a.toList = ([] : List UInt8) ↔ a.size = 0 := by
 rw [ByteArray.toList_eq, ← len_eq, List.length_eq_zero_iff]
theorem names_tok (a : ByteArray) (hs : a.size ≤ 9223372036854775807) : ∀ n i k, i + n = a.size → n < k → names_Token.l0 k a (a.size : Int) (i : Int) = some ((a.data.toList.drop i).all tokC && (decide (1 ≤ a.size) && decide (a.size ≤ 64))) := by
 intro n
 induction n with
 | zero =>
  intro i k hi hk
  obtain ⟨k, rfl⟩ : ∃ j, k = j + 1 := ⟨k - 1, by omega⟩
  rw [names_Token.l0, if_neg (by omega), List.drop_of_length_le (by rw [len_eq]; omega)]
  by_cases h0 : a.size = 0
  ·
   rw [if_pos ((toList_nil a).2 h0)]; simp [h0]
  ·
   rw [if_neg (fun h => h0 ((toList_nil a).1 h))]
   have h1 : decide (1 ≤ a.size) = true := decide_eq_true (by omega)
   rw [h1]
   simp only [List.all_nil, Bool.true_and]
   congr 1
   exact decide_eq_decide.2 (by omega)
 | succ n ih =>
  intro i k hi hk
  obtain ⟨k, rfl⟩ : ∃ j, k = j + 1 := ⟨k - 1, by omega⟩
  obtain ⟨c, hd, hb⟩ := bt_get a i (by omega)
  rw [names_Token.l0, if_pos (by omega), if_pos (by omega), if_pos (by omega), hb, hd, List.all_cons]
  by_cases h1 : (c.toNat : Int) < 33
  ·
   rw [if_pos h1]; simp [tokC, show ¬ 33 ≤ c.toNat by omega]
  ·
   rw [if_neg h1]
   by_cases h2 : (c.toNat : Int) > 126
   ·
    rw [if_pos h2]; simp [tokC, show ¬ c.toNat ≤ 126 by omega]
   ·
    rw [if_neg h2, IntWalk.wrap64_in _ (by omega), show ((i : Int) + 1) = ((i + 1 : Nat) : Int) by omega, ih (i + 1) k (by omega) (by omega)]
    have h3 : tokC c = true := by simp [tokC]; omega
    rw [h3, Bool.true_and]
theorem names_Token_eq (a : ByteArray) (hs : a.size ≤ 1073741824) (k : Nat) (hk : 1073741825 ≤ k) : names_Token.f k a = some (tokOk a) :=
 names_tok a (by omega) a.size 0 k (by omega) (by omega)
theorem ref_tok (a : ByteArray) (hs : a.size ≤ 9223372036854775807) : ∀ n i k, i + n = a.size → n < k → stowageref12_Token.l0 k a (i : Int) = some ((a.data.toList.drop i).all tokC && (decide (1 ≤ a.size) && decide (a.size ≤ 64))) := by
 intro n
 induction n with
 | zero =>
  intro i k hi hk
  obtain ⟨k, rfl⟩ : ∃ j, k = j + 1 := ⟨k - 1, by omega⟩
  rw [stowageref12_Token.l0, if_neg (by omega), List.drop_of_length_le (by rw [len_eq]; omega)]
  by_cases h0 : a.size = 0
  ·
   rw [if_neg (by omega)]; simp [h0]
  ·
   rw [if_pos (by omega)]
   have h1 : decide (1 ≤ a.size) = true := decide_eq_true (by omega)
   rw [h1]
   simp only [List.all_nil, Bool.true_and]
   congr 1
   exact decide_eq_decide.2 (by omega)
 | succ n ih =>
  intro i k hi hk
  obtain ⟨k, rfl⟩ : ∃ j, k = j + 1 := ⟨k - 1, by omega⟩
  obtain ⟨c, hd, hb⟩ := bt_get a i (by omega)
  rw [stowageref12_Token.l0, if_pos (by omega), if_pos (by omega), hb, hd, List.all_cons]
  by_cases h1 : (c.toNat : Int) < 33
  ·
   rw [if_pos h1]; simp [tokC, show ¬ 33 ≤ c.toNat by omega]
  ·
   rw [if_neg h1]
   by_cases h2 : (c.toNat : Int) > 126
   ·
    rw [if_pos h2]; simp [tokC, show ¬ c.toNat ≤ 126 by omega]
   ·
    rw [if_neg h2, IntWalk.wrap64_in _ (by omega), show ((i : Int) + 1) = ((i + 1 : Nat) : Int) by omega, ih (i + 1) k (by omega) (by omega)]
    have h3 : tokC c = true := by simp [tokC]; omega
    rw [h3, Bool.true_and]
theorem ref_Token_eq (a : ByteArray) (hs : a.size ≤ 9223372036854775807) (k : Nat) (hk : 9223372036854775808 ≤ k) : stowageref12_Token.f k a = some (tokOk a) :=
 ref_tok a hs a.size 0 k (by omega) (by omega)
def keyOk (a : ByteArray) : Bool := a.data.toList.all (fun c => !(c == 0)) && (decide (1 ≤ a.size) && decide (a.size ≤ 1024))
theorem ref_key (a : ByteArray) (hs : a.size ≤ 9223372036854775807) : ∀ n i k, i + n = a.size → n < k → stowageref12_Key.l0 k a (i : Int) = some ((a.data.toList.drop i).all (fun c => !(c == 0)) && (decide (1 ≤ a.size) && decide (a.size ≤ 1024))) := by
 intro n
 induction n with
 | zero =>
  intro i k hi hk
  obtain ⟨k, rfl⟩ : ∃ j, k = j + 1 := ⟨k - 1, by omega⟩
  rw [stowageref12_Key.l0, if_neg (by omega), List.drop_of_length_le (by rw [len_eq]; omega)]
  by_cases h0 : a.size = 0
  ·
   rw [if_neg (by omega)]; simp [h0]
  ·
   rw [if_pos (by omega)]
   have h1 : decide (1 ≤ a.size) = true := decide_eq_true (by omega)
   rw [h1]
   simp only [List.all_nil, Bool.true_and]
   congr 1
   exact decide_eq_decide.2 (by omega)
 | succ n ih =>
  intro i k hi hk
  obtain ⟨k, rfl⟩ : ∃ j, k = j + 1 := ⟨k - 1, by omega⟩
  obtain ⟨c, hd, hb⟩ := bt_get a i (by omega)
  rw [stowageref12_Key.l0, if_pos (by omega), if_pos (by omega), hb, hd, List.all_cons]
  by_cases h1 : (c.toNat : Int) = 0
  ·
   have hc : c = 0 := UInt8.toNat_inj.1 (by rw [show c.toNat = 0 by omega]; rfl)
   rw [if_pos h1, hc]; rfl
  ·
   have hc : (c == 0) = false := beq_eq_false_iff_ne.2 (fun e => h1 (by rw [e]; rfl))
   rw [if_neg h1, IntWalk.wrap64_in _ (by omega), show ((i : Int) + 1) = ((i + 1 : Nat) : Int) by omega, ih (i + 1) k (by omega) (by omega), hc, Bool.not_false, Bool.true_and]
theorem ref_Key_eq (a : ByteArray) (hs : a.size ≤ 9223372036854775807) (k : Nat) (hk : 9223372036854775808 ≤ k) : stowageref12_Key.f k a = some (keyOk a) :=
 ref_key a hs a.size 0 k (by omega) (by omega)
theorem contains_cons (b : UInt8) (l sub : List UInt8) : Lib.contains (b :: l) sub = (sub.isPrefixOf (b :: l) || Lib.contains l sub) := by
 unfold Lib.contains
 rw [Lib.index]
 have hg := Lib.index_ge l sub
 cases h : sub.isPrefixOf (b :: l) with
 | true => simp
 | false =>
  simp only [Bool.false_eq_true, if_false, Bool.false_or]
  by_cases h1 : Lib.index l sub = -1
  ·
   rw [h1]; decide
  ·
   rw [if_neg (by simpa using h1)]
   exact decide_eq_decide.2 (by omega)
theorem contains_zero : ∀ l : List UInt8, Lib.contains l [0] = !(l.all fun c => !(c == 0))
 | [] => by decide
 | b :: l => by
  rw [contains_cons, contains_zero l, List.all_cons]
  have : List.isPrefixOf [0] (b :: l) = (b == 0) := by simp [List.isPrefixOf, eq_comm, Bool.beq_comm]
  rw [this]
  cases (b == 0) <;> simp
theorem names_Key_eq (a : ByteArray) (hs : a.size ≤ 9223372036854775807) : names_Key.f a = some (keyOk a) := by
 unfold names_Key.f keyOk
 by_cases h0 : a.size = 0
 ·
  rw [if_pos ((toList_nil a).2 h0)]; simp [h0]
 ·
  rw [if_neg (fun h => h0 ((toList_nil a).1 h))]
  have h1 : decide (1 ≤ a.size) = true := decide_eq_true (by omega)
  by_cases h2 : a.size ≤ 1024
  ·
   rw [if_pos (by omega)]
   unfold strings_Contains.f
   rw [if_pos (by omega), Option.bind_some, show (⟨#[0]⟩ : ByteArray).data.toList = [0] from rfl, contains_zero, h1]
   simp [h2]
  ·
   rw [if_neg (by omega)]; simp [h2]
def plainC (c : UInt8) : Bool := (decide (97 ≤ c.toNat) && decide (c.toNat ≤ 122)) || (decide (48 ≤ c.toNat) && decide (c.toNat ≤ 57))
def okC (c : UInt8) : Bool := plainC c || (c == 46 || c == 45)
def dd : List UInt8 → Bool
 | a :: b :: l => (a == 46 && b == 46) || dd (b :: l)
 | _ => false
def endOk : List UInt8 → Bool
 | [] => true
 | [c] => plainC c
 | _ :: b :: l => endOk (b :: l)
def R : Option UInt8 → List UInt8 → Bool
 | _, [] => true
 | p, c :: l => (plainC c || ((c == 45 || c == 46) && (p.isSome && (!l.isEmpty && !(c == 46 && p == some 46))))) && R (some c) l
theorem plain_ne (c : UInt8) (h : plainC c = true) : (c == 46) = false ∧ (c == 45) = false := by
 refine ⟨beq_eq_false_iff_ne.2 ?_, beq_eq_false_iff_ne.2 ?_⟩ <;> (rintro rfl; exact absurd h (by decide))
theorem R_some : ∀ (l : List UInt8) (q : UInt8), R (some q) l = (endOk l && (!dd (q :: l) && l.all okC))
 | [], q => by simp [R, endOk, dd]
 | [c], q => by
  have hp := plain_ne c
  simp only [R, endOk, dd, List.all_cons, List.all_nil, okC, List.isEmpty_nil, Option.isSome_some]
  cases h : plainC c with
  | true => obtain ⟨h1, h2⟩ := hp h; simp [h1, h2]
  | false => simp
 | c :: r :: l, q => by
  have hp := plain_ne c
  have ih := R_some (r :: l) c
  rw [R, ih]
  simp only [endOk, dd, List.all_cons, List.isEmpty_cons, Option.isSome_some, okC]
  have hq : (some q == some (46 : UInt8)) = (q == 46) := rfl
  rw [hq]
  generalize endOk (r :: l) = A
  generalize dd (r :: l) = B
  generalize l.all okC = C
  cases h : plainC c with
  | true => obtain ⟨h1, h2⟩ := hp h; simp [h1, h2, Bool.and_assoc]
  | false => cases (c == 45) <;> cases (c == 46) <;> cases (q == 46) <;> cases (r == 46) <;> cases A <;> cases B <;> cases C <;> simp
theorem R_none (c : UInt8) (l : List UInt8) : R none (c :: l) = (plainC c && (endOk (c :: l) && (!dd (c :: l) && (c :: l).all okC))) := by
 rw [R, R_some]
 have h1 : okC c = (plainC c || (c == 46 || c == 45)) := rfl
 cases h : plainC c with
 | false => simp
 | true =>
  cases l with
  | nil => simp [endOk, h, dd, h1]
  | cons r l => simp [endOk, h, h1]
def bucketOk (a : ByteArray) : Bool := decide (3 ≤ a.size) && (decide (a.size ≤ 63) && R none a.data.toList)
theorem names_plain_eq (c : UInt8) : names_plain.f (c.toNat : Int) = some (plainC c) := by
 have h : ∀ n, n < 256 → names_plain.f (((UInt8.ofNat n).toNat : Nat) : Int) = some (plainC (UInt8.ofNat n)) := by decide +kernel
 have h2 := h c.toNat (UInt8.toNat_lt c)
 rwa [UInt8.ofNat_toNat] at h2
theorem plain_1 (c : UInt8) (h1 : (c.toNat : Int) ≥ 97) (h2 : (c.toNat : Int) ≤ 122) : true = plainC c := by
 unfold plainC; rw [decide_eq_true (by omega : 97 ≤ c.toNat), decide_eq_true (by omega : c.toNat ≤ 122)]; rfl
theorem plain_2 (c : UInt8) (h : ¬ ((c.toNat : Int) ≥ 97 ∧ (c.toNat : Int) ≤ 122)) (h1 : (c.toNat : Int) ≥ 48) : decide ((c.toNat : Int) ≤ 57) = plainC c := by
 unfold plainC
 have h3 : (decide (97 ≤ c.toNat) && decide (c.toNat ≤ 122)) = false := by
  rw [Bool.eq_false_iff]; intro h3; simp only [Bool.and_eq_true, decide_eq_true_eq] at h3; omega
 rw [h3, decide_eq_true (by omega : 48 ≤ c.toNat), Bool.false_or, Bool.true_and]
 exact decide_eq_decide.2 (by omega)
theorem plain_3 (c : UInt8) (h : ¬ ((c.toNat : Int) ≥ 97 ∧ (c.toNat : Int) ≤ 122)) (h1 : ¬ (c.toNat : Int) ≥ 48) : false = plainC c := by
 unfold plainC
 have h3 : (decide (97 ≤ c.toNat) && decide (c.toNat ≤ 122)) = false := by
  rw [Bool.eq_false_iff]; intro h3; simp only [Bool.and_eq_true, decide_eq_true_eq] at h3; omega
 rw [h3, decide_eq_false (by omega : ¬ 48 ≤ c.toNat)]; rfl
def prev (a : ByteArray) (i : Nat) : Option UInt8 := if i = 0 then none else a.data.toList[i - 1]?
theorem prev_bt (a : ByteArray) (i : Nat) (h0 : 0 < i) (h : i ≤ a.size) : ∃ q, prev a i = some q ∧ bt a ((i : Int) - 1) = (q.toNat : Int) ∧ a.data.toList[i - 1]? = some q := by
 obtain ⟨c, hd, hb⟩ := bt_get a (i - 1) (by omega)
 have h1 : a.data.toList[i - 1]? = some c := by
  have := congrArg List.head? hd
  rw [List.head?_drop] at this
  simpa using this
 refine ⟨c, ?_, ?_, h1⟩
 ·
  unfold prev; rw [if_neg (by omega)]; exact h1
 ·
  rw [← hb]; congr 1; omega
theorem c_eq (c : UInt8) (n : Nat) (hn : n < 256) : ((c.toNat : Int) = (n : Int)) ↔ (c == UInt8.ofNat n) = true := by
 rw [beq_iff_eq]
 constructor
 ·
  intro h
  have : c.toNat = n := by omega
  rw [← this, UInt8.ofNat_toNat]
 ·
  intro h
  rw [h]
  have : (UInt8.ofNat n).toNat = n := by simp [UInt8.toNat_ofNat]; omega
  omega
theorem ref_bucket (a : ByteArray) (hs : a.size ≤ 63) : ∀ n i k, i + n = a.size → 2 * n < k → stowageref12_Bucket.l0 k a (a.size : Int) (i : Int) = some (R (prev a i) (a.data.toList.drop i)) := by
 intro n
 induction n with
 | zero =>
  intro i k hi hk
  obtain ⟨k, rfl⟩ : ∃ j, k = j + 1 := ⟨k - 1, by omega⟩
  rw [stowageref12_Bucket.l0, if_neg (by omega), List.drop_of_length_le (by rw [len_eq]; omega)]
  simp [R]
 | succ n ih =>
  intro i k hi hk
  obtain ⟨k, rfl⟩ : ∃ j, k = j + 1 + 1 := ⟨k - 2, by omega⟩
  obtain ⟨c, hd, hb⟩ := bt_get a i (by omega)
  have hnx := ih (i + 1) k (by omega) (by omega)
  have hpn : prev a (i + 1) = some c := by
   obtain ⟨q, h1, h2, h3⟩ := prev_bt a (i + 1) (by omega) (by omega)
   rw [h1]
   have := congrArg List.head? hd
   rw [List.head?_drop] at this
   rw [show i + 1 - 1 = i by omega] at h3
   rw [h3] at this
   simpa using this
  rw [hpn] at hnx
  have hw : (wrap64 ((i : Int) + 1)) = ((i + 1 : Nat) : Int) := by rw [IntWalk.wrap64_in _ (by omega)]; omega
  have hj : ∀ t : Bool, t = plainC c → stowageref12_Bucket.j2 (k + 1) a (a.size : Int) (i : Int) (c.toNat : Int) t = some (R (prev a i) (a.data.toList.drop i)) := by
   intro t ht
   rw [hd, R, stowageref12_Bucket.j2, hw, hnx, ht]
   have hl : (a.data.toList.drop (i + 1)).isEmpty = decide (i + 1 = a.size) := by
    cases hdr : a.data.toList.drop (i + 1) with
    | nil =>
     have h1 := congrArg List.length hdr
     rw [List.length_drop, len_eq] at h1
     simp only [List.length_nil] at h1
     rw [decide_eq_true (by omega)]; rfl
    | cons x l =>
     have h1 := congrArg List.length hdr
     rw [List.length_drop, len_eq] at h1
     simp only [List.length_cons] at h1
     rw [decide_eq_false (by omega)]; rfl
   have hw2 : wrap64 ((a.size : Int) - 1) = (a.size : Int) - 1 := IntWalk.wrap64_in _ (by omega)
   have h45 := c_eq c 45 (by omega)
   have h46 := c_eq c 46 (by omega)
   have e45 : UInt8.ofNat 45 = 45 := rfl
   have e46 : UInt8.ofNat 46 = 46 := rfl
   rw [e45] at h45
   rw [e46] at h46
   cases h : plainC c with
   | true => simp
   | false =>
    rw [if_neg (by simp), Bool.false_or, hl, hw2]
    have hp0 : (prev a i).isSome = decide (0 < i) := by
     by_cases h0 : i = 0
     ·
      rw [h0]; rfl
     ·
      obtain ⟨q, h1, _⟩ := prev_bt a i (by omega) (by omega)
      rw [h1, decide_eq_true (by omega)]; rfl
    rw [hp0]
    by_cases c45 : (c.toNat : Int) = 45
    ·
     have b45 : (c == 45) = true := h45.1 (by omega)
     have b46 : (c == 46) = false := by rw [beq_iff_eq] at b45; rw [b45]; rfl
     rw [if_pos c45, b45, b46]
     by_cases h0 : (i : Int) = 0
     ·
      rw [if_pos h0, decide_eq_false (by omega : ¬ 0 < i)]; rfl
     ·
      rw [if_neg h0, decide_eq_true (by omega : 0 < i)]
      by_cases h9 : (i : Int) = (a.size : Int) - 1
      ·
       rw [if_pos h9, decide_eq_true (by omega : i + 1 = a.size)]; rfl
      ·
       rw [if_neg h9, if_neg (by omega), decide_eq_false (by omega : ¬ i + 1 = a.size)]; rfl
    ·
     have b45 : (c == 45) = false := by
      rw [Bool.eq_false_iff]; intro hh; exact c45 (by have := h45.2 hh; omega)
     rw [if_neg c45, b45]
     by_cases c46 : (c.toNat : Int) = 46
     ·
      have b46 : (c == 46) = true := h46.1 (by omega)
      rw [if_pos c46, b46]
      by_cases h0 : (i : Int) = 0
      ·
       rw [if_pos h0, decide_eq_false (by omega : ¬ 0 < i)]; rfl
      ·
       rw [if_neg h0, decide_eq_true (by omega : 0 < i)]
       by_cases h9 : (i : Int) = (a.size : Int) - 1
       ·
        rw [if_pos h9, decide_eq_true (by omega : i + 1 = a.size)]; rfl
       ·
        have hw3 : wrap64 ((i : Int) - 1) = (i : Int) - 1 := IntWalk.wrap64_in _ (by omega)
        obtain ⟨q, h1, h2, _⟩ := prev_bt a i (by omega) (by omega)
        have hq := c_eq q 46 (by omega)
        rw [e46] at hq
        rw [if_neg h9, decide_eq_false (by omega : ¬ i + 1 = a.size), hw3, if_pos (by omega), if_pos (by omega), h2, h1]
        by_cases hq46 : (q.toNat : Int) = 46
        ·
         have b : (q == 46) = true := hq.1 (by omega)
         rw [if_pos hq46, beq_iff_eq.1 b]; rfl
        ·
         have b : (some q == some (46 : UInt8)) = false := by
          show (q == 46) = false
          rw [Bool.eq_false_iff]; intro hh; exact hq46 (by have := hq.2 hh; omega)
         rw [if_neg hq46, b]; rfl
     ·
      have b46 : (c == 46) = false := by
       rw [Bool.eq_false_iff]; intro hh; exact c46 (by have := h46.2 hh; omega)
      rw [if_neg c46, b46]; rfl
  rw [stowageref12_Bucket.l0, if_pos (by omega), if_pos (by omega), if_pos (by omega), hb]
  by_cases h1 : (c.toNat : Int) ≥ 97
  ·
   rw [if_pos h1]
   by_cases h2 : (c.toNat : Int) ≤ 122
   ·
    rw [if_pos h2]; exact hj _ (plain_1 c h1 h2)
   ·
    rw [if_neg h2, if_pos (by omega)]; exact hj _ (plain_2 c (by omega) (by omega))
  ·
   rw [if_neg h1]
   by_cases h2 : (c.toNat : Int) ≥ 48
   ·
    rw [if_pos h2]; exact hj _ (plain_2 c (by omega) h2)
   ·
    rw [if_neg h2]; exact hj _ (plain_3 c (by omega) h2)
theorem ref_Bucket_eq (a : ByteArray) (hs : a.size ≤ 9223372036854775807) (k : Nat) (hk : 1000 ≤ k) : stowageref12_Bucket.f k a = some (bucketOk a) := by
 obtain ⟨k, rfl⟩ : ∃ j, k = j + 1 := ⟨k - 1, by omega⟩
 unfold stowageref12_Bucket.f bucketOk
 by_cases h1 : a.size < 3
 ·
  rw [if_pos (by omega), stowageref12_Bucket.j0, if_pos rfl, decide_eq_false (by omega : ¬ 3 ≤ a.size)]; rfl
 ·
  rw [if_neg (by omega), stowageref12_Bucket.j0, decide_eq_true (by omega : 3 ≤ a.size)]
  by_cases h2 : a.size ≤ 63
  ·
   rw [if_neg (by simp; omega), decide_eq_true h2]
   have := ref_bucket a h2 a.size 0 k (by omega) (by omega)
   simpa [prev] using this
  ·
   rw [if_pos (by simp; omega), decide_eq_false h2]; rfl
theorem contains_two : ∀ l : List UInt8, Lib.contains l [46, 46] = dd l
 | [] => by decide
 | [a] => by
  rw [contains_cons, contains_two []]
  simp [List.isPrefixOf, dd]
 | a :: b :: l => by
  rw [contains_cons, contains_two (b :: l), dd]
  congr 1
  simp only [List.isPrefixOf, Bool.and_true]
  rw [Bool.beq_comm (a := a), Bool.beq_comm (a := b)]
theorem endOk_last : ∀ (l : List UInt8) (c : UInt8), l.getLast? = some c → endOk l = plainC c
 | [], _, h => by simp at h
 | [x], c, h => by simp at h; rw [endOk, h]
 | _ :: b :: l, c, h => by
  rw [List.getLast?_cons_cons] at h
  rw [endOk]
  exact endOk_last (b :: l) c h
theorem names_loop (a : ByteArray) (hs : a.size ≤ 63) : ∀ n i k, i + n = a.size → n < k → names_Bucket.l0 k a (a.size : Int) (i : Int) = some ((a.data.toList.drop i).all okC) := by
 intro n
 induction n with
 | zero =>
  intro i k hi hk
  obtain ⟨k, rfl⟩ : ∃ j, k = j + 1 := ⟨k - 1, by omega⟩
  rw [names_Bucket.l0, if_neg (by omega), List.drop_of_length_le (by rw [len_eq]; omega)]; rfl
 | succ n ih =>
  intro i k hi hk
  obtain ⟨k, rfl⟩ : ∃ j, k = j + 1 := ⟨k - 1, by omega⟩
  obtain ⟨c, hd, hb⟩ := bt_get a i (by omega)
  have h45 := c_eq c 45 (by omega)
  have h46 := c_eq c 46 (by omega)
  rw [show UInt8.ofNat 45 = 45 from rfl] at h45
  rw [show UInt8.ofNat 46 = 46 from rfl] at h46
  rw [names_Bucket.l0, if_pos (by omega), if_pos (by omega), if_pos (by omega), hb, names_plain_eq, Option.bind_some, hd, List.all_cons, IntWalk.wrap64_in ((i : Int) + 1) (by omega), show ((i : Int) + 1) = ((i + 1 : Nat) : Int) by omega, ih (i + 1) k (by omega) (by omega)]
  have ho : okC c = (plainC c || (c == 46 || c == 45)) := rfl
  rw [ho]
  cases h : plainC c with
  | true => simp
  | false =>
   rw [if_neg (by simp), Bool.false_or]
   by_cases c46 : (c.toNat : Int) = 46
   ·
    rw [if_pos c46, h46.1 (by omega)]; simp
   ·
    have b46 : (c == 46) = false := by rw [Bool.eq_false_iff]; intro hh; exact c46 (by have := h46.2 hh; omega)
    rw [if_neg c46, b46]
    by_cases c45 : (c.toNat : Int) = 45
    ·
     rw [if_pos c45, h45.1 (by omega)]; simp
    ·
     have b45 : (c == 45) = false := by rw [Bool.eq_false_iff]; intro hh; exact c45 (by have := h45.2 hh; omega)
     rw [if_neg c45, b45]; rfl
theorem names_Bucket_eq (a : ByteArray) (hs : a.size ≤ 9223372036854775807) (k : Nat) (hk : 1000 ≤ k) : names_Bucket.f k a = some (bucketOk a) := by
 obtain ⟨k, rfl⟩ : ∃ j, k = j + 1 := ⟨k - 1, by omega⟩
 unfold names_Bucket.f bucketOk
 by_cases h1 : a.size < 3
 ·
  rw [if_pos (by omega), names_Bucket.j0, if_pos rfl, decide_eq_false (by omega : ¬ 3 ≤ a.size)]; rfl
 rw [if_neg (by omega), decide_eq_true (by omega : 3 ≤ a.size)]
 by_cases h2 : a.size ≤ 63
 ·
  obtain ⟨c, hd, hb⟩ := bt_get a 0 (by omega)
  obtain ⟨z, hz1, hz2, hz3⟩ := prev_bt a a.size (by omega) (by omega)
  have hw2 : wrap64 ((a.size : Int) - 1) = (a.size : Int) - 1 := IntWalk.wrap64_in _ (by omega)
  have hl : a.data.toList = c :: a.data.toList.drop 1 := by simpa using hd
  have hzl : (c :: a.data.toList.drop 1).getLast? = some z := by
   rw [← hl, List.getLast?_eq_getElem?, len_eq]; exact hz3
  have hlo := names_loop a h2 a.size 0 k (by omega) (by omega)
  rw [if_neg (by omega), if_pos (by omega), show (bt a 0) = bt a ((0 : Nat) : Int) from rfl, hb, names_plain_eq, Option.bind_some, hw2, hz2, decide_eq_true h2]
  rw [show R none a.data.toList = R none (c :: a.data.toList.drop 1) by rw [← hl], R_none, endOk_last _ z hzl]
  cases hp : plainC c with
  | false => rw [if_neg (by simp), names_Bucket.j0, if_pos rfl]; rfl
  | true =>
   rw [if_pos rfl, if_pos (by omega), if_pos (by omega), names_plain_eq, Option.bind_some]
   cases hq : plainC z with
   | false => rw [if_neg (by simp), names_Bucket.j0, if_pos rfl]; rfl
   | true =>
    rw [if_pos rfl]
    unfold strings_Contains.f
    rw [if_pos (by omega), Option.bind_some, show (⟨#[46, 46]⟩ : ByteArray).data.toList = [46, 46] from rfl, contains_two, names_Bucket.j0]
    rw [← hl]
    cases hD : dd a.data.toList with
    | true => rw [if_pos rfl]; rfl
    | false =>
     rw [if_neg (by simp), show (0 : Int) = ((0 : Nat) : Int) from rfl, hlo]
     simp
 ·
  rw [if_pos (by omega), names_Bucket.j0, if_pos rfl, decide_eq_false h2]; rfl
abbrev rdC (l : List Piece) (i : Nat) : Piece := rd_T82 l (i : Int)
abbrev rdK (l : List Pick) (i : Nat) : Pick := rd_T62 l (i : Int)
theorem dropC (l : List Piece) (i : Nat) (h : i < l.length) : l.drop i = rdC l i :: l.drop (i + 1) := by
 rw [List.drop_eq_getElem_cons h]
 congr 1
 show l[i] = l.getD (i : Int).toNat _
 rw [Int.toNat_natCast, List.getD_eq_getElem?_getD, List.getElem?_eq_getElem h]
 rfl
theorem dropK (l : List Pick) (i : Nat) (h : i < l.length) : l.drop i = rdK l i :: l.drop (i + 1) := by
 rw [List.drop_eq_getElem_cons h]
 congr 1
 show l[i] = l.getD (i : Int).toNat _
 rw [Int.toNat_natCast, List.getD_eq_getElem?_getD, List.getElem?_eq_getElem h]
 rfl
theorem memC (l : List Piece) (i : Nat) (h : i < l.length) : rdC l i ∈ l := by
 have : rdC l i ∈ l.drop i := by rw [dropC l i h]; exact List.mem_cons_self
 exact List.mem_of_mem_drop this
theorem memK (l : List Pick) (i : Nat) (h : i < l.length) : rdK l i ∈ l := by
 have : rdK l i ∈ l.drop i := by rw [dropK l i h]; exact List.mem_cons_self
 exact List.mem_of_mem_drop this
def D (a : ByteArray) : Bool := a.data.toList.all Sha.hb && decide (a.size = 64)
theorem digits_go (a : ByteArray) (hs : a.size ≤ 1048576) : ∀ n i k, i + n = a.size → n < k → chain_digits.l0 k a (a.size : Int) (i : Int) = some ((a.data.toList.drop i).all Sha.hb && decide (a.size = 64)) := by
 intro n
 induction n with
 | zero =>
  intro i k hi hk
  obtain ⟨k, rfl⟩ : ∃ j, k = j + 1 := ⟨k - 1, by omega⟩
  rw [chain_digits.l0, if_neg (by omega), List.drop_of_length_le (by rw [len_eq]; omega)]
  simp only [List.all_nil, Bool.true_and]
  congr 1
  by_cases h : a.size = 64
  ·
   simp [h]
  ·
   rw [decide_eq_false h]
   simpa using (show ¬ (a.size : Int) = 64 by omega)
 | succ n ih =>
  intro i k hi hk
  obtain ⟨k, rfl⟩ : ∃ j, k = j + 1 := ⟨k - 1, by omega⟩
  obtain ⟨c, hd, hb⟩ := bt_get a i (by omega)
  rw [chain_digits.l0, if_pos (by omega), if_pos (by omega), if_pos (by omega), hb, hd, List.all_cons, w1 i (by omega), ih (i + 1) k (by omega) (by omega)]
  by_cases h1 : (c.toNat : Int) < 48
  ·
   rw [if_pos h1, if_pos (by omega)]
   have : Sha.hb c = false := by simp [Sha.hb]; omega
   rw [this, Bool.false_and, Bool.false_and]
  ·
   rw [if_neg h1]
   by_cases h2 : (c.toNat : Int) > 57
   ·
    rw [if_pos h2]
    by_cases h3 : (c.toNat : Int) < 97
    ·
     rw [if_pos h3]
     have : Sha.hb c = false := by simp [Sha.hb]; omega
     rw [this, Bool.false_and, Bool.false_and]
    ·
     rw [if_neg h3]
     by_cases h4 : (c.toNat : Int) > 102
     ·
      rw [if_pos h4]
      have : Sha.hb c = false := by simp [Sha.hb]; omega
      rw [this, Bool.false_and, Bool.false_and]
     ·
      rw [if_neg h4]
      have : Sha.hb c = true := by simp [Sha.hb]; omega
      rw [this, Bool.true_and]
   ·
    rw [if_neg h2]
    have : Sha.hb c = true := by simp [Sha.hb]; omega
    rw [this, Bool.true_and]
theorem digits_eq (a : ByteArray) (hs : a.size ≤ 1048576) (k : Nat) (hk : 1048577 ≤ k) : chain_digits.f k a = some (D a) := digits_go a hs a.size 0 k (by omega) (by omega)
def pcs : List Piece → Int → Int × Int
 | [], s => (s, 0)
 | y :: r, s => if D y.f0 = true ∧ 1 ≤ y.f1 ∧ y.f1 ≤ 4096 then pcs r (s + y.f1) else (0, 1)
def Pc (l : List Piece) : Int × Int := if 512 < l.length then (0, 1) else pcs l 0
theorem pieces_go (l : List Piece) (hl : l.length ≤ 512) (hs : ∀ y ∈ l, y.f0.size ≤ 1048576) : ∀ n i k (s : Int), i + n = l.length → n + 1048577 < k → 0 ≤ s → s ≤ 4096 * i → chain_Pieces.l0 k s l (l.length : Int) (i : Int) = some (pcs (l.drop i) s) := by
 intro n
 induction n with
 | zero =>
  intro i k s hi hk h0 h1
  obtain ⟨k, rfl⟩ : ∃ j, k = j + 1 := ⟨k - 1, by omega⟩
  rw [chain_Pieces.l0, if_neg (by omega), List.drop_of_length_le (by omega)]
  rfl
 | succ n ih =>
  intro i k s hi hk h0 h1
  obtain ⟨k, rfl⟩ : ∃ j, k = j + 1 := ⟨k - 1, by omega⟩
  rw [chain_Pieces.l0, if_pos (by omega), if_pos (by omega), if_pos (by omega), digits_eq _ (hs _ (memC l i (by omega))) k (by omega), Option.bind_some, dropC l i (by omega), pcs, w1 i (by omega)]
  show (if D (rdC l i).f0 = true then (if (rdC l i).f1 < 1 then some (0, 1) else (if (rdC l i).f1 > 4096 then some (0, 1) else chain_Pieces.l0 k (wrap64 (s + (rdC l i).f1)) l (l.length : Int) ((i + 1 : Nat) : Int))) else some (0, 1)) = _
  by_cases hd : D (rdC l i).f0 = true
  ·
   rw [if_pos hd]
   by_cases h2 : (rdC l i).f1 < 1
   ·
    rw [if_pos h2, if_neg (by omega)]
   ·
    rw [if_neg h2]
    by_cases h3 : (rdC l i).f1 > 4096
    ·
     rw [if_pos h3, if_neg (by omega)]
    ·
     rw [if_neg h3, if_pos ⟨hd, by omega, by omega⟩, IntWalk.wrap64_in _ (by omega), ih (i + 1) k _ (by omega) (by omega) (by omega) (by omega)]
  ·
   rw [if_neg hd, if_neg (by intro h; exact hd h.1)]
theorem pieces_eq (l : List Piece) (hs : ∀ y ∈ l, y.f0.size ≤ 1048576) (k : Nat) (hk : 1049100 ≤ k) : chain_Pieces.f k l = some (Pc l) := by
 unfold chain_Pieces.f Pc
 by_cases h : 512 < l.length
 ·
  rw [if_pos (by omega), if_pos h]
 ·
  rw [if_neg (by omega), if_neg h]
  exact pieces_go l (by omega) hs l.length 0 k 0 (by omega) (by omega) (by omega) (by omega)
theorem unhex_some : ∀ l : List UInt8, l.length % 2 = 0 → (Sha.unhexL l).isSome = l.all Sha.hb
 | [], _ => rfl
 | [_], h => by simp at h
 | a :: b :: r, h => by
  have ih := unhex_some r (by simp at h; omega)
  rw [Sha.unhexL, List.all_cons, List.all_cons]
  cases h1 : Sha.hb a
  ·
   simp
  ·
   cases h2 : Sha.hb b
   ·
    simp
   ·
    simp [ih]
theorem unhex_len : ∀ (l : List UInt8) (r : List (BitVec 8)), Sha.unhexL l = some r → l.length = 2 * r.length
 | [], r, h => by
  rw [Sha.unhexL] at h
  cases h
  rfl
 | [_], r, h => by rw [Sha.unhexL] at h; cases h
 | a :: b :: l, r, h => by
  rw [Sha.unhexL] at h
  split at h
  ·
   cases hq : Sha.unhexL l with
   | none => rw [hq] at h; cases h
   | some q =>
    rw [hq] at h
    cases h
    have := unhex_len l q hq
    simp only [List.length_cons]
    omega
  ·
   cases h
theorem cd_eq (a : ByteArray) (hs : a.size ≤ 1073741824) : cmd_digits.f a = some (D a) := by
 unfold cmd_digits.f
 have hU : digest_Unhex.f a = some (Sha.unhexR (Sha.unhexL a.data.toList)) := by
  show Sha.unhexF a = _
  unfold Sha.unhexF
  rw [if_pos (by omega)]
 rw [hU, Option.bind_some]
 unfold D
 cases h : Sha.unhexL a.data.toList with
 | none =>
  show (if (3 : Int) = 0 then _ else some false) = _
  rw [if_neg (by decide)]
  by_cases h6 : a.size = 64
  ·
   have hi := unhex_some a.data.toList (by rw [len_eq, h6])
   rw [h] at hi
   rw [← hi]
   rfl
  ·
   rw [decide_eq_false h6, Bool.and_false]
 | some r =>
  show (if (0 : Int) = 0 then some ((((Sha.ofB r).size : Nat) : Int) == 32) else _) = _
  have hl := unhex_len _ _ h
  rw [len_eq] at hl
  rw [if_pos rfl, Sha.ofB_size]
  by_cases h6 : a.size = 64
  ·
   have hi := unhex_some a.data.toList (by rw [len_eq, h6])
   rw [h] at hi
   rw [← hi, decide_eq_true h6, show r.length = 32 by omega]
   rfl
  ·
   rw [decide_eq_false h6, Bool.and_false]
   congr 1
   exact beq_eq_false_iff_ne.2 (by omega)
def fb (n : Int) : Int := if n = 1 ∨ n = 2 then 3 else if n = 3 then 103 else if n = 4 ∨ n = 6 then 7 else if n = 5 ∨ n = 9 then 15 else if n = 7 then 127 else if n = 8 then 143 else if n = 10 then 8 else 0
theorem fields_eq (n : Int) (k : Nat) (hk : 10 ≤ k) : cmd_fields.f k n = some (fb n) := by
 have go : ∀ m, cmd_fields.f 10 m = some (fb m) → n = m → cmd_fields.f k n = some (fb n) := by
  intro m h1 h3
  subst h3
  exact up_to (f := fun k => cmd_fields.f k n) (fun k => cmd_fields.mono _ k) h1 hk
 by_cases h1 : n = 1
 ·
  exact go 1 (by kernel_rfl) h1
 by_cases h2 : n = 2
 ·
  exact go 2 (by kernel_rfl) h2
 by_cases h3 : n = 3
 ·
  exact go 3 (by kernel_rfl) h3
 by_cases h4 : n = 4
 ·
  exact go 4 (by kernel_rfl) h4
 by_cases h5 : n = 5
 ·
  exact go 5 (by kernel_rfl) h5
 by_cases h6 : n = 6
 ·
  exact go 6 (by kernel_rfl) h6
 by_cases h7 : n = 7
 ·
  exact go 7 (by kernel_rfl) h7
 by_cases h8 : n = 8
 ·
  exact go 8 (by kernel_rfl) h8
 by_cases h9 : n = 9
 ·
  exact go 9 (by kernel_rfl) h9
 by_cases h10 : n = 10
 ·
  exact go 10 (by kernel_rfl) h10
 obtain ⟨k, rfl⟩ : ∃ j, k = j + 1 + 1 + 1 := ⟨k - 3, by omega⟩
 have e : ∀ m : Int, n ≠ m → (n == m) = false := fun m h => beq_eq_false_iff_ne.2 h
 unfold cmd_fields.f fb
 rw [if_neg h1, e 2 h2, cmd_fields.j0, if_neg (by decide), if_neg h3, if_neg h4, e 6 h6, cmd_fields.j1, if_neg (by decide), if_neg h5, e 9 h9, cmd_fields.j2, if_neg (by decide), if_neg h7, if_neg h8, if_neg h10]
 rw [if_neg (by omega), if_neg h3, if_neg (by omega), if_neg (by omega), if_neg h7, if_neg h8, if_neg h10]
theorem fb_kind (n : Int) (h : fb n ≠ 0) : n = 1 ∨ n = 2 ∨ n = 3 ∨ n = 4 ∨ n = 5 ∨ n = 6 ∨ n = 7 ∨ n = 8 ∨ n = 9 ∨ n = 10 := by
 unfold fb at h
 omega
abbrev ba (f bit : Int) : Int := Go.bits .and .i64 f bit
def pk (p : Pick) : Bool := decide (0 ≤ p.f0 ∧ p.f0 ≤ 100) && D p.f1
theorem ck_l0 (l : List Pick) (hl : l.length ≤ 1073741824) (hs : ∀ y ∈ l, y.f1.size ≤ 1073741824) : ∀ n i k (b : Bool), i + n = l.length → n < k → cmd_Check.l0 k b l (l.length : Int) (i : Int) = some (if b = false ∧ (l.drop i).all pk = true then 0 else 1) := by
 intro n
 induction n with
 | zero =>
  intro i k b hi hk
  obtain ⟨k, rfl⟩ : ∃ j, k = j + 1 := ⟨k - 1, by omega⟩
  rw [cmd_Check.l0, if_neg (by omega), List.drop_of_length_le (by omega)]
  cases b <;> rfl
 | succ n ih =>
  intro i k b hi hk
  obtain ⟨k, rfl⟩ : ∃ j, k = j + 1 := ⟨k - 1, by omega⟩
  have IH := fun b => ih (i + 1) k b (by omega) (by omega)
  rw [cmd_Check.l0, if_pos (by omega), if_pos (by omega), if_pos (by omega), w1 i (by omega), dropK l i (by omega), List.all_cons]
  show (if b = true then _ else if (rdK l i).f0 < 0 then _ else if (rdK l i).f0 > 100 then _ else (cmd_digits.f (rdK l i).f1).bind _) = _
  rw [cd_eq _ (hs _ (memK l i (by omega))), Option.bind_some, IH, IH]
  have hpk : pk (rdK l i) = (decide (0 ≤ (rdK l i).f0 ∧ (rdK l i).f0 ≤ 100) && D (rdK l i).f1) := rfl
  rw [hpk]
  cases b with
  | true => simp
  | false =>
   rw [if_neg (by decide)]
   by_cases h1 : (rdK l i).f0 < 0
   ·
    rw [if_pos h1, decide_eq_false (by omega)]; simp
   ·
    rw [if_neg h1]
    by_cases h2 : (rdK l i).f0 > 100
    ·
     rw [if_pos h2, decide_eq_false (by omega)]; simp
    ·
     rw [if_neg h2, decide_eq_true (by omega)]
     cases D (rdK l i).f1 <;> simp
theorem ck_j2 (b : Bool) (a0 : Int) (a1 a2 a3 : ByteArray) (a4 a5 : Int) (a6 : ByteArray) (ps : List Piece) (l : List Pick) (hl : l.length ≤ 1073741824) (hs : ∀ y ∈ l, y.f1.size ≤ 1073741824) (k : Nat) (hk : 1073741826 ≤ k) :
  cmd_Check.j2 k b a0 a1 a2 a3 a4 a5 a6 ps l = some (if b = false ∧ l.all pk = true then 0 else 1) := by
 obtain ⟨k, rfl⟩ : ∃ j, k = j + 1 := ⟨k - 1, by omega⟩
 rw [cmd_Check.j2]
 exact ck_l0 l hl hs l.length 0 k b (by omega) (by omega)
def Q (f a0 a4 a5 : Int) (n : Nat) : Prop := 0 ≤ a4 ∧ a4 ≤ 1099511627776 ∧ (ba f 8 ≠ 0 → a4 = 0 → a0 = 10) ∧ 0 ≤ a5 ∧ a5 ≤ 100 ∧ (ba f 16 ≠ 0 → a5 ≠ 0) ∧ n ≤ 100
instance (f a0 a4 a5 : Int) (n : Nat) : Decidable (Q f a0 a4 a5 n) := by unfold Q; infer_instance
theorem ck_j1 (f : Int) (b : Bool) (a0 : Int) (a1 a2 a3 : ByteArray) (a4 a5 : Int) (a6 : ByteArray) (ps : List Piece) (l : List Pick) (hl : l.length ≤ 1073741824) (hs : ∀ y ∈ l, y.f1.size ≤ 1073741824) (k : Nat) (hk : 1073741827 ≤ k) :
  cmd_Check.j1 k f b a0 a1 a2 a3 a4 a5 a6 ps l = some (if b = false ∧ Q f a0 a4 a5 l.length ∧ l.all pk = true then 0 else 1) := by
 obtain ⟨k, rfl⟩ : ∃ j, k = j + 1 := ⟨k - 1, by omega⟩
 have J := fun c => ck_j2 c a0 a1 a2 a3 a4 a5 a6 ps l hl hs k (by omega)
 have no : ¬ Q f a0 a4 a5 l.length → cmd_Check.j2 k true a0 a1 a2 a3 a4 a5 a6 ps l = some (if b = false ∧ Q f a0 a4 a5 l.length ∧ l.all pk = true then 0 else 1) := fun h => by
  rw [J, if_neg (by simp), if_neg (fun g => h g.2.1)]
 have yes : b = false → (l.length ≤ 100 → Q f a0 a4 a5 l.length) → cmd_Check.j2 k (decide ((l.length : Int) > 100)) a0 a1 a2 a3 a4 a5 a6 ps l = some (if b = false ∧ Q f a0 a4 a5 l.length ∧ l.all pk = true then 0 else 1) := fun hb h => by
  rw [J]
  by_cases hn : l.length ≤ 100
  ·
   rw [decide_eq_false (by omega)]
   simp only [hb, h hn, true_and]
  ·
   rw [decide_eq_true (by omega), if_neg (by simp), if_neg (fun g => hn g.2.1.2.2.2.2.2.2)]
 rw [cmd_Check.j1]
 cases b with
 | true => rw [if_pos rfl, J, if_neg (by simp), if_neg (by simp)]
 | false =>
  rw [if_neg (by decide)]
  unfold Q ba at no yes ⊢
  repeat' (first | exact no (by omega) | exact yes rfl (by intro hn; omega) | split)
def R_ (f : Int) (a2 a3 a6 : ByteArray) (ps : List Piece) : Prop := (ba f 2 ≠ 0 → bucketOk a2 = true) ∧ (ba f 4 ≠ 0 → keyOk a3 = true) ∧ (ba f 32 ≠ 0 → D a6 = true) ∧ (Pc ps).2 = 0 ∧ (Pc ps).1 ≤ 1048576
instance (f : Int) (a2 a3 a6 : ByteArray) (ps : List Piece) : Decidable (R_ f a2 a3 a6 ps) := by unfold R_; infer_instance
structure SmallCmd (a1 a2 a3 a6 : ByteArray) (ps : List Piece) (l : List Pick) : Prop where
 s1 : a1.size ≤ 1073741824
 s2 : a2.size ≤ 1073741824
 s3 : a3.size ≤ 1073741824
 s6 : a6.size ≤ 1073741824
 hp : ps.length ≤ 1048576
 sp : ∀ y ∈ ps, y.f0.size ≤ 1048576
 hl : l.length ≤ 1048576
 sl : ∀ y ∈ l, y.f1.size ≤ 1073741824
theorem ck_j0 (f : Int) (b : Bool) (a0 : Int) (a1 a2 a3 : ByteArray) (a4 a5 : Int) (a6 : ByteArray) (ps : List Piece) (l : List Pick) (h : SmallCmd a1 a2 a3 a6 ps l) (k : Nat) (hk : 1073741828 ≤ k) :
  cmd_Check.j0 k f b a0 a1 a2 a3 a4 a5 a6 ps l = some (if b = false ∧ R_ f a2 a3 a6 ps ∧ Q f a0 a4 a5 l.length ∧ l.all pk = true then 0 else 1) := by
 obtain ⟨k, rfl⟩ : ∃ j, k = j + 1 := ⟨k - 1, by omega⟩
 have J := fun c => ck_j1 f c a0 a1 a2 a3 a4 a5 a6 ps l (by have := h.hl; omega) h.sl k (by omega)
 cases b with
 | true => rw [cmd_Check.j0, if_pos rfl, if_neg (by simp)]
 | false =>
  obtain ⟨X, hX⟩ : ∃ X, X = some (if false = false ∧ R_ f a2 a3 a6 ps ∧ Q f a0 a4 a5 l.length ∧ l.all pk = true then (0 : Int) else 1) := ⟨_, rfl⟩
  rw [← hX]
  have no : ¬ R_ f a2 a3 a6 ps → cmd_Check.j1 k f true a0 a1 a2 a3 a4 a5 a6 ps l = X := fun h => by
   rw [hX, J, if_neg (by simp), if_neg (fun g => h g.2.1)]
  have yes : ((Pc ps).1 ≤ 1048576 → R_ f a2 a3 a6 ps) → cmd_Check.j1 k f (decide ((Pc ps).1 > 1048576)) a0 a1 a2 a3 a4 a5 a6 ps l = X := fun h => by
   rw [hX, J]
   by_cases hn : (Pc ps).1 ≤ 1048576
   ·
    rw [decide_eq_false (by omega)]
    simp only [h hn, true_and]
   ·
    rw [decide_eq_true (by omega), if_neg (by simp), if_neg (fun g => hn g.2.1.2.2.2.2)]
  rw [cmd_Check.j0, if_neg (by decide), pieces_eq ps h.sp k (by omega), Option.bind_some, names_Bucket_eq a2 (by have := h.s2; omega) k (by omega), names_Key_eq a3 (by have := h.s3; omega), cd_eq a6 h.s6]
  simp only [Option.bind_some]
  clear J h hk hX
  unfold R_ ba at no yes
  generalize bucketOk a2 = B2 at no yes ⊢
  generalize keyOk a3 = B3 at no yes ⊢
  generalize D a6 = B6 at no yes ⊢
  generalize (Pc ps).1 = P1 at no yes ⊢
  generalize (Pc ps).2 = P2 at no yes ⊢
  generalize Go.bits .and .i64 f 2 = f2 at no yes ⊢
  generalize Go.bits .and .i64 f 4 = f4 at no yes ⊢
  generalize Go.bits .and .i64 f 32 = f32 at no yes ⊢
  repeat' (first | exact no (by clear no yes; simp_all) | exact yes (by clear no yes; intro hn; simp_all) | split)
theorem ba_ext (a b : ByteArray) : a.toList = b.toList ↔ a = b := by
 rw [ByteArray.toList_eq, ByteArray.toList_eq]
 exact ⟨fun h => ByteArray.ext (Array.ext' h), fun h => by rw [h]⟩
theorem ba_nil (a : ByteArray) : (⟨#[]⟩ : ByteArray) = a ↔ a.size = 0 := by
 constructor
 ·
  rintro rfl; rfl
 ·
  intro h
  apply ByteArray.ext
  apply Array.ext'
  have : a.data.toList = [] := List.length_eq_zero_iff.1 (by rw [len_eq]; exact h)
  rw [this]
theorem pieces_self (l : List Piece) (hl : l.length ≤ 1073741824) : ∀ n i k, i + n = l.length → n < k → api_Piece_68.l0 k l l (l.length : Int) (i : Int) = some true := by
 intro n
 induction n with
 | zero =>
  intro i k hi hk
  obtain ⟨k, rfl⟩ : ∃ j, k = j + 1 := ⟨k - 1, by omega⟩
  rw [api_Piece_68.l0, if_neg (by omega)]
 | succ n ih =>
  intro i k hi hk
  obtain ⟨k, rfl⟩ : ∃ j, k = j + 1 := ⟨k - 1, by omega⟩
  rw [api_Piece_68.l0, if_pos (by omega), if_pos (by omega), if_pos (by omega), if_pos (by omega), if_neg (by simp), w1 i (by omega)]
  exact ih (i + 1) k (by omega) (by omega)
theorem picks_self (l : List Pick) (hl : l.length ≤ 1073741824) : ∀ n i k, i + n = l.length → n < k → api_Pick_69.l0 k l l (l.length : Int) (i : Int) = some true := by
 intro n
 induction n with
 | zero =>
  intro i k hi hk
  obtain ⟨k, rfl⟩ : ∃ j, k = j + 1 := ⟨k - 1, by omega⟩
  rw [api_Pick_69.l0, if_neg (by omega)]
 | succ n ih =>
  intro i k hi hk
  obtain ⟨k, rfl⟩ : ∃ j, k = j + 1 := ⟨k - 1, by omega⟩
  rw [api_Pick_69.l0, if_pos (by omega), if_pos (by omega), if_pos (by omega), if_pos (by omega), if_neg (by simp), w1 i (by omega)]
  exact ih (i + 1) k (by omega) (by omega)
def Z (f : Int) (a1 a2 a3 : ByteArray) (a4 a5 : Int) (a6 : ByteArray) (ps : List Piece) (l : List Pick) : Prop :=
 (ba f 1 = 0 → a1.size = 0) ∧ (ba f 2 = 0 → a2.size = 0) ∧ (ba f 4 = 0 → a3.size = 0) ∧ (ba f 8 = 0 → a4 = 0) ∧ (ba f 16 = 0 → a5 = 0) ∧ (ba f 32 = 0 → a6.size = 0) ∧ (ba f 64 = 0 → ps.length = 0) ∧ (ba f 128 = 0 → l.length = 0)
instance (f : Int) (a1 a2 a3 : ByteArray) (a4 a5 : Int) (a6 : ByteArray) (ps : List Piece) (l : List Pick) : Decidable (Z f a1 a2 a3 a4 a5 a6 ps l) := by unfold Z; infer_instance
theorem cut_t_eq (f bit : Int) (s : ByteArray) : (cmd_cut_t f bit s).toList = s.toList ↔ (ba f bit = 0 → s.size = 0) := by
 unfold cmd_cut_t
 rw [ba_ext]
 by_cases h : ba f bit = 0
 ·
  have : (Go.bits .and .i64 f bit != 0) = false := bne_eq_false_iff_eq.2 h
  rw [this, if_neg (by decide), ba_nil]
  exact ⟨fun g _ => g, fun g => g h⟩
 ·
  have : (Go.bits .and .i64 f bit != 0) = true := bne_iff_ne.2 h
  rw [this, if_pos rfl]
  exact ⟨fun _ g => absurd g h, fun _ => rfl⟩
theorem cut_n_eq (f bit n : Int) : cmd_cut_n f bit n = n ↔ (ba f bit = 0 → n = 0) := by
 unfold cmd_cut_n
 by_cases h : ba f bit = 0
 ·
  have : (Go.bits .and .i64 f bit != 0) = false := bne_eq_false_iff_eq.2 h
  rw [this, if_neg (by decide)]
  exact ⟨fun g _ => g.symm, fun g => (g h).symm⟩
 ·
  have : (Go.bits .and .i64 f bit != 0) = true := bne_iff_ne.2 h
  rw [this, if_pos rfl]
  exact ⟨fun _ g => absurd g h, fun _ => rfl⟩
theorem pieces_cut (f : Int) (ps : List Piece) (hp : ps.length ≤ 1048576) (k : Nat) (hk : 1048580 ≤ k) : ∃ q, (if (Go.bits .and .i64 f 64 != 0) = true then api_Piece_70.f ps else some []) = some q ∧ api_Piece_68.f k q ps = some (decide (ba f 64 = 0 → ps.length = 0)) := by
 by_cases h : ba f 64 = 0
 ·
  have : (Go.bits .and .i64 f 64 != 0) = false := bne_eq_false_iff_eq.2 h
  rw [this, if_neg (by decide)]
  refine ⟨[], rfl, ?_⟩
  unfold api_Piece_68.f
  by_cases h0 : ps.length = 0
  ·
   obtain rfl := List.length_eq_zero_iff.1 h0
   rw [if_pos rfl]
   exact (pieces_self [] (by decide) 0 0 k rfl (by omega)).trans (congrArg some (decide_eq_true (fun _ => rfl)).symm)
  ·
   rw [if_neg (by show ¬ (((0 : Nat) : Int) = _); omega), decide_eq_false (fun g => h0 (g h))]
 ·
  have : (Go.bits .and .i64 f 64 != 0) = true := bne_iff_ne.2 h
  rw [this, if_pos rfl]
  refine ⟨ps, ?_, ?_⟩
  ·
   unfold api_Piece_70.f
   rw [if_pos (by omega)]
  ·
   unfold api_Piece_68.f
   rw [if_pos rfl, decide_eq_true (fun g => absurd g h)]
   exact pieces_self ps (by omega) ps.length 0 k (by omega) (by omega)
theorem picks_cut (f : Int) (l : List Pick) (hp : l.length ≤ 1048576) (k : Nat) (hk : 1048580 ≤ k) : ∃ q, (if (Go.bits .and .i64 f 128 != 0) = true then api_Pick_71.f l else some []) = some q ∧ api_Pick_69.f k q l = some (decide (ba f 128 = 0 → l.length = 0)) := by
 by_cases h : ba f 128 = 0
 ·
  have : (Go.bits .and .i64 f 128 != 0) = false := bne_eq_false_iff_eq.2 h
  rw [this, if_neg (by decide)]
  refine ⟨[], rfl, ?_⟩
  unfold api_Pick_69.f
  by_cases h0 : l.length = 0
  ·
   obtain rfl := List.length_eq_zero_iff.1 h0
   rw [if_pos rfl]
   exact (picks_self [] (by decide) 0 0 k rfl (by omega)).trans (congrArg some (decide_eq_true (fun _ => rfl)).symm)
  ·
   rw [if_neg (by show ¬ (((0 : Nat) : Int) = _); omega), decide_eq_false (fun g => h0 (g h))]
 ·
  have : (Go.bits .and .i64 f 128 != 0) = true := bne_iff_ne.2 h
  rw [this, if_pos rfl]
  refine ⟨l, ?_, ?_⟩
  ·
   unfold api_Pick_71.f
   rw [if_pos (by omega)]
  ·
   unfold api_Pick_69.f
   rw [if_pos rfl, decide_eq_true (fun g => absurd g h)]
   exact picks_self l (by omega) l.length 0 k (by omega) (by omega)
theorem cut_same (f a0 : Int) (a1 a2 a3 : ByteArray) (a4 a5 : Int) (a6 : ByteArray) (ps : List Piece) (l : List Pick) (hp : ps.length ≤ 1048576) (hl : l.length ≤ 1048576) (k : Nat) (hk : 1048580 ≤ k) :
  ∃ c, cmd_cut.f a0 a1 a2 a3 a4 a5 a6 ps l f = some c ∧ cmd_same.f k c.1 c.2.1 c.2.2.1 c.2.2.2.1 c.2.2.2.2.1 c.2.2.2.2.2.1 c.2.2.2.2.2.2.1 c.2.2.2.2.2.2.2.1 c.2.2.2.2.2.2.2.2 a0 a1 a2 a3 a4 a5 a6 ps l = some (decide (Z f a1 a2 a3 a4 a5 a6 ps l)) := by
 obtain ⟨q1, h1, g1⟩ := pieces_cut f ps hp k hk
 obtain ⟨q2, h2, g2⟩ := picks_cut f l hl k hk
 refine ⟨_, by unfold cmd_cut.f; rw [h1, Option.bind_some, h2, Option.bind_some], ?_⟩
 unfold cmd_same.f
 show (if a0 = a0 then (if (cmd_cut_t f 1 a1).toList = a1.toList then (if (cmd_cut_t f 2 a2).toList = a2.toList then (if (cmd_cut_t f 4 a3).toList = a3.toList then (if cmd_cut_n f 8 a4 = a4 then (if cmd_cut_n f 16 a5 = a5 then (if (cmd_cut_t f 32 a6).toList = a6.toList then ((api_Piece_68.f k q1 ps).bind fun t107 => (if t107 = true then ((api_Pick_69.f k q2 l).bind fun t108 => (some t108)) else (some false))) else (some false)) else (some false)) else (some false)) else (some false)) else (some false)) else (some false)) else (some false)) = _
 rw [g1, g2, if_pos rfl]
 simp only [Option.bind_some, cut_t_eq, cut_n_eq, decide_eq_true_eq]
 by_cases e1 : ba f 1 = 0 → a1.size = 0
 ·
  rw [if_pos e1]
  by_cases e2 : ba f 2 = 0 → a2.size = 0
  ·
   rw [if_pos e2]
   by_cases e3 : ba f 4 = 0 → a3.size = 0
   ·
    rw [if_pos e3]
    by_cases e4 : ba f 8 = 0 → a4 = 0
    ·
     rw [if_pos e4]
     by_cases e5 : ba f 16 = 0 → a5 = 0
     ·
      rw [if_pos e5]
      by_cases e6 : ba f 32 = 0 → a6.size = 0
      ·
       rw [if_pos e6]
       by_cases e7 : ba f 64 = 0 → ps.length = 0
       ·
        rw [if_pos e7]
        congr 1
        exact decide_eq_decide.2 ⟨fun g => ⟨e1, e2, e3, e4, e5, e6, e7, g⟩, fun g => g.2.2.2.2.2.2.2⟩
       ·
        rw [if_neg e7, decide_eq_false (fun g => e7 g.2.2.2.2.2.2.1)]
      ·
       rw [if_neg e6, decide_eq_false (fun g => e6 g.2.2.2.2.2.1)]
     ·
      rw [if_neg e5, decide_eq_false (fun g => e5 g.2.2.2.2.1)]
    ·
     rw [if_neg e4, decide_eq_false (fun g => e4 g.2.2.2.1)]
   ·
    rw [if_neg e3, decide_eq_false (fun g => e3 g.2.2.1)]
  ·
   rw [if_neg e2, decide_eq_false (fun g => e2 g.2.1)]
 ·
  rw [if_neg e1, decide_eq_false (fun g => e1 g.1)]
def CK (a0 : Int) (a1 a2 a3 : ByteArray) (a4 a5 : Int) (a6 : ByteArray) (ps : List Piece) (l : List Pick) : Prop :=
 fb a0 ≠ 0 ∧ Z (fb a0) a1 a2 a3 a4 a5 a6 ps l ∧ (a1.size ≠ 0 → tokOk a1 = true) ∧ R_ (fb a0) a2 a3 a6 ps ∧ Q (fb a0) a0 a4 a5 l.length ∧ l.all pk = true
instance (a0 : Int) (a1 a2 a3 : ByteArray) (a4 a5 : Int) (a6 : ByteArray) (ps : List Piece) (l : List Pick) : Decidable (CK a0 a1 a2 a3 a4 a5 a6 ps l) := by unfold CK; infer_instance
theorem check_eq (a0 : Int) (a1 a2 a3 : ByteArray) (a4 a5 : Int) (a6 : ByteArray) (ps : List Piece) (l : List Pick) (h : SmallCmd a1 a2 a3 a6 ps l) (k : Nat) (hk : 1073741828 ≤ k) :
  cmd_Check.f k a0 a1 a2 a3 a4 a5 a6 ps l = some (if CK a0 a1 a2 a3 a4 a5 a6 ps l then 0 else 1) := by
 have J := fun b => ck_j0 (fb a0) b a0 a1 a2 a3 a4 a5 a6 ps l h k hk
 have J1 : cmd_Check.j0 k (fb a0) true a0 a1 a2 a3 a4 a5 a6 ps l = some 1 := by rw [J true, if_neg (by simp)]
 unfold cmd_Check.f
 rw [fields_eq a0 k (by omega), Option.bind_some, J1]
 by_cases h0 : fb a0 = 0
 ·
  rw [if_pos h0, if_neg (fun g => g.1 h0)]
 ·
  rw [if_neg h0]
  obtain ⟨c, g1, g2⟩ := cut_same (fb a0) a0 a1 a2 a3 a4 a5 a6 ps l h.hp h.hl k (by omega)
  rw [g1, Option.bind_some, g2, Option.bind_some]
  by_cases hz : Z (fb a0) a1 a2 a3 a4 a5 a6 ps l
  ·
   rw [if_pos (decide_eq_true hz)]
   by_cases h1 : a1.size = 0
   ·
    rw [if_pos ((toList_nil a1).2 h1), J false]
    congr 1
    by_cases hr : R_ (fb a0) a2 a3 a6 ps ∧ Q (fb a0) a0 a4 a5 l.length ∧ l.all pk = true
    ·
     rw [if_pos ⟨rfl, hr⟩, if_pos ⟨h0, hz, fun g => absurd h1 g, hr⟩]
    ·
     rw [if_neg (fun g => hr g.2), if_neg (fun g => hr g.2.2.2)]
   ·
    rw [if_neg (fun g => h1 ((toList_nil a1).1 g)), names_Token_eq a1 h.s1 k (by omega), Option.bind_some]
    cases ht : tokOk a1 with
    | false =>
     rw [Bool.not_false, J1, if_neg (fun g => by have := g.2.2.1 h1; rw [ht] at this; cases this)]
    | true =>
     rw [Bool.not_true, J false]
     congr 1
     by_cases hr : R_ (fb a0) a2 a3 a6 ps ∧ Q (fb a0) a0 a4 a5 l.length ∧ l.all pk = true
     ·
      rw [if_pos ⟨rfl, hr⟩, if_pos ⟨h0, hz, fun _ => ht, hr⟩]
     ·
      rw [if_neg (fun g => hr g.2), if_neg (fun g => hr g.2.2.2)]
  ·
   rw [if_neg (by simpa using hz), if_neg (fun g => hz g.2.1)]
structure Bd (a0 : Int) (a1 a2 a3 : ByteArray) (a4 a5 : Int) (a6 : ByteArray) (ps : List Piece) (l : List Pick) : Prop where
 k0 : 1 ≤ a0 ∧ a0 ≤ 10
 b1 : a1.size ≤ 64
 b2 : a2.size ≤ 63
 b3 : a3.size ≤ 1024
 b4 : 0 ≤ a4 ∧ a4 ≤ 1099511627776
 b5 : 0 ≤ a5 ∧ a5 ≤ 100
 b6 : a6.size ≤ 64
 hp : ps.length ≤ 512
 bp : ∀ y ∈ ps, y.f0.size ≤ 64 ∧ 1 ≤ y.f1 ∧ y.f1 ≤ 4096
 hl : l.length ≤ 100
 bl : ∀ y ∈ l, y.f1.size ≤ 64 ∧ 0 ≤ y.f0 ∧ y.f0 ≤ 100
theorem D_size (a : ByteArray) (h : D a = true) : a.size = 64 := by
 unfold D at h
 rw [Bool.and_eq_true, decide_eq_true_eq] at h
 exact h.2
theorem pcs_all : ∀ (l : List Piece) (s : Int), (pcs l s).2 = 0 → ∀ y ∈ l, y.f0.size ≤ 64 ∧ 1 ≤ y.f1 ∧ y.f1 ≤ 4096
 | [], _, _, y, hy => by cases hy
 | x :: r, s, h, y, hy => by
  rw [pcs] at h
  by_cases hc : D x.f0 = true ∧ 1 ≤ x.f1 ∧ x.f1 ≤ 4096
  ·
   rw [if_pos hc] at h
   rcases List.mem_cons.1 hy with rfl | hy
   ·
    exact ⟨Nat.le_of_eq (D_size _ hc.1), hc.2⟩
   ·
    exact pcs_all r _ h y hy
  ·
   rw [if_neg hc] at h; exact absurd h (by decide)
theorem CK_bd {a0 : Int} {a1 a2 a3 : ByteArray} {a4 a5 : Int} {a6 : ByteArray} {ps : List Piece} {l : List Pick} (h : CK a0 a1 a2 a3 a4 a5 a6 ps l) : Bd a0 a1 a2 a3 a4 a5 a6 ps l := by
 obtain ⟨h0, ⟨z1, z2, z3, z4, z5, z6, z7, z8⟩, ht, ⟨r1, r2, r3, r4, r5⟩, ⟨q1, q2, q3, q4, q5, q6, q7⟩, hk⟩ := h
 have hpl : ps.length ≤ 512 ∧ (pcs ps 0).2 = 0 := by
  unfold Pc at r4
  by_cases hl : 512 < ps.length
  ·
   rw [if_pos hl] at r4; exact absurd r4 (by decide)
  ·
   rw [if_neg hl] at r4; exact ⟨by omega, r4⟩
 refine ⟨by have := fb_kind a0 h0; omega, ?_, ?_, ?_, ⟨q1, q2⟩, ⟨q4, q5⟩, ?_, hpl.1, pcs_all ps 0 hpl.2, q7, ?_⟩
 ·
  by_cases e : a1.size = 0
  ·
   omega
  ·
   have := ht e; unfold tokOk at this; simp only [Bool.and_eq_true, decide_eq_true_eq] at this; omega
 ·
  by_cases e : ba (fb a0) 2 = 0
  ·
   have := z2 e; omega
  ·
   have := r1 e; unfold bucketOk at this; simp only [Bool.and_eq_true, decide_eq_true_eq] at this; omega
 ·
  by_cases e : ba (fb a0) 4 = 0
  ·
   have := z3 e; omega
  ·
   have := r2 e; unfold keyOk at this; simp only [Bool.and_eq_true, decide_eq_true_eq] at this; omega
 ·
  by_cases e : ba (fb a0) 32 = 0
  ·
   have := z6 e; omega
  ·
   have := D_size _ (r3 e); omega
 ·
  intro y hy
  have := List.all_eq_true.1 hk y hy
  unfold pk at this
  simp only [Bool.and_eq_true, decide_eq_true_eq] at this
  exact ⟨Nat.le_of_eq (D_size _ this.2), this.1⟩
def ot (b : Bool) (t : ByteArray) : ByteArray := if b = true then txt t else ⟨#[]⟩
def on (b : Bool) (n : Int) : ByteArray := if b = true then num n else ⟨#[]⟩
def tpB : List Piece → ByteArray
 | [] => ⟨#[]⟩
 | y :: r => (txt y.f0 ++ num y.f1) ++ tpB r
def tkB : List Pick → ByteArray
 | [] => ⟨#[]⟩
 | y :: r => (num y.f0 ++ txt y.f1) ++ tkB r
abbrev nb (f bit : Int) : Bool := Go.bits .and .i64 f bit != 0
def toldB (a0 : Int) (a1 a2 a3 : ByteArray) (a4 a5 : Int) (a6 : ByteArray) (ps : List Piece) (l : List Pick) : ByteArray :=
 num a0 ++ ot (nb (fb a0) 1) a1 ++ ot (nb (fb a0) 2) a2 ++ ot (nb (fb a0) 4) a3 ++ on (nb (fb a0) 8) a4 ++ on (nb (fb a0) 16) a5 ++ ot (nb (fb a0) 32) a6 ++ on (nb (fb a0) 64) (ps.length : Int) ++ tpB ps ++ on (nb (fb a0) 128) (l.length : Int) ++ tkB l
end Go.Proofs.YtdidopoalmkhlaaDoor.Pure
end
