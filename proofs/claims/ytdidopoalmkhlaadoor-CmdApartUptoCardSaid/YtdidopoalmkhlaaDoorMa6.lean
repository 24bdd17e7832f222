/- Merged of several texts of this session's by merge.py. -/
import Derived.Test.YtdidopoalmkhlaaDoorMa3
import Derived.Test.YtdidopoalmkhlaaDoorMa5
import Derived.Test.YtdidopoalmkhlaaDoorMa4
import Derived.IntWalk
import Derived.Laws.Bits64b
import Derived.Lib.IndexMore
section
namespace Go.Proofs.YtdidopoalmkhlaaDoor.Od
open Go.RowKit Go.Proofs.YtdidopoalmkhlaaDoorW.PrintWords Go.Proofs.YtdidopoalmkhlaaDoorW.PrintLast Go.Proofs.YtdidopoalmkhlaaDoorW.PrintMore
attribute [local go_sem] max2_int min2_int max_two min_two max_three min_three max_four min_four
set_option linter.unusedVariables false
set_option linter.unusedSimpArgs false
mutual
def stowageref16_Check.j0 : Nat → Bool → Int → ByteArray → ByteArray → ByteArray → Int → Int → ByteArray → List (S95) → List (S61) → Option (Int)
 | 0, _, _, _, _, _, _, _, _, _, _ => none
 | k + 1, x13, x241000, x241001, x241002, x241003, x241004, x241005, x241006, x241007, x241008 => if x13 = true then (some 1) else (if x241001.toList = ([] : List UInt8) then (stowageref16_Check.j1 k false x241000 x241001 x241002 x241003 x241004 x241005 x241006 x241007 x241008) else (if x241000 = 10 then (stowageref16_Check.j1 k true x241000 x241001 x241002 x241003 x241004 x241005 x241006 x241007 x241008) else ((stowageref12_Token.f k x241001).bind fun t241 => (stowageref16_Check.j1 k (!t241) x241000 x241001 x241002 x241003 x241004 x241005 x241006 x241007 x241008))))
def stowageref16_Check.j1 : Nat → Bool → Int → ByteArray → ByteArray → ByteArray → Int → Int → ByteArray → List (S95) → List (S61) → Option (Int)
 | 0, _, _, _, _, _, _, _, _, _, _ => none
 | k + 1, x27, x241000, x241001, x241002, x241003, x241004, x241005, x241006, x241007, x241008 => if x27 = true then (some 1) else (if x241000 = 10 then (if x241002.toList = ([] : List UInt8) then (if x241000 < 10 then ((stowageref12_Bucket.f k x241002).bind fun t242 => (stowageref16_Check.j2 k (!t242) x241000 x241001 x241002 x241003 x241004 x241005 x241006 x241007 x241008)) else (stowageref16_Check.j2 k false x241000 x241001 x241002 x241003 x241004 x241005 x241006 x241007 x241008)) else (stowageref16_Check.j2 k true x241000 x241001 x241002 x241003 x241004 x241005 x241006 x241007 x241008)) else (if x241000 < 10 then ((stowageref12_Bucket.f k x241002).bind fun t243 => (stowageref16_Check.j2 k (!t243) x241000 x241001 x241002 x241003 x241004 x241005 x241006 x241007 x241008)) else (stowageref16_Check.j2 k false x241000 x241001 x241002 x241003 x241004 x241005 x241006 x241007 x241008)))
def stowageref16_Check.j2 : Nat → Bool → Int → ByteArray → ByteArray → ByteArray → Int → Int → ByteArray → List (S95) → List (S61) → Option (Int)
 | 0, _, _, _, _, _, _, _, _, _, _ => none
 | k + 1, x46, x241000, x241001, x241002, x241003, x241004, x241005, x241006, x241007, x241008 => if x46 = true then (some 1) else ((stowageref16_HasKey.f x241000).bind fun t244 => (if t244 = true then ((stowageref12_Key.f k x241003).bind fun t245 => (if t245 = true then ((stowageref16_HasKey.f x241000).bind fun t246 => (if t246 = true then (stowageref16_Check.j3 k false x241000 x241001 x241002 x241003 x241004 x241005 x241006 x241007 x241008) else (stowageref16_Check.j3 k (x241003.toList != ([] : List UInt8)) x241000 x241001 x241002 x241003 x241004 x241005 x241006 x241007 x241008))) else (stowageref16_Check.j3 k true x241000 x241001 x241002 x241003 x241004 x241005 x241006 x241007 x241008))) else ((stowageref16_HasKey.f x241000).bind fun t247 => (if t247 = true then (stowageref16_Check.j3 k false x241000 x241001 x241002 x241003 x241004 x241005 x241006 x241007 x241008) else (stowageref16_Check.j3 k (x241003.toList != ([] : List UInt8)) x241000 x241001 x241002 x241003 x241004 x241005 x241006 x241007 x241008)))))
def stowageref16_Check.j3 : Nat → Bool → Int → ByteArray → ByteArray → ByteArray → Int → Int → ByteArray → List (S95) → List (S61) → Option (Int)
 | 0, _, _, _, _, _, _, _, _, _, _ => none
 | k + 1, x66, x241000, x241001, x241002, x241003, x241004, x241005, x241006, x241007, x241008 => if x66 = true then (some 1) else (if x241004 < 0 then (stowageref16_Check.j4 k true x241000 x241001 x241002 x241003 x241004 x241005 x241006 x241007 x241008) else (if x241004 > 1099511627776 then (stowageref16_Check.j4 k true x241000 x241001 x241002 x241003 x241004 x241005 x241006 x241007 x241008) else ((stowageref16_hasID.f x241000).bind fun t248 => (if t248 = true then ((stowageref16_hasID.f x241000).bind fun t249 => (if t249 = true then (if x241000 < 10 then (stowageref16_Check.j4 k (x241004 == 0) x241000 x241001 x241002 x241003 x241004 x241005 x241006 x241007 x241008) else (stowageref16_Check.j4 k false x241000 x241001 x241002 x241003 x241004 x241005 x241006 x241007 x241008)) else (stowageref16_Check.j4 k false x241000 x241001 x241002 x241003 x241004 x241005 x241006 x241007 x241008))) else (if x241004 = 0 then ((stowageref16_hasID.f x241000).bind fun t250 => (if t250 = true then (if x241000 < 10 then (stowageref16_Check.j4 k (x241004 == 0) x241000 x241001 x241002 x241003 x241004 x241005 x241006 x241007 x241008) else (stowageref16_Check.j4 k false x241000 x241001 x241002 x241003 x241004 x241005 x241006 x241007 x241008)) else (stowageref16_Check.j4 k false x241000 x241001 x241002 x241003 x241004 x241005 x241006 x241007 x241008))) else (stowageref16_Check.j4 k true x241000 x241001 x241002 x241003 x241004 x241005 x241006 x241007 x241008))))))
def stowageref16_Check.j4 : Nat → Bool → Int → ByteArray → ByteArray → ByteArray → Int → Int → ByteArray → List (S95) → List (S61) → Option (Int)
 | 0, _, _, _, _, _, _, _, _, _, _ => none
 | k + 1, x100, x241000, x241001, x241002, x241003, x241004, x241005, x241006, x241007, x241008 => if x100 = true then (some 1) else (if x241000 = 7 then (if x241005 < 1 then (stowageref16_Check.j5 k true x241000 x241001 x241002 x241003 x241004 x241005 x241006 x241007 x241008) else (if x241005 > 100 then (stowageref16_Check.j5 k true x241000 x241001 x241002 x241003 x241004 x241005 x241006 x241007 x241008) else (stowageref16_Check.j5 k false x241000 x241001 x241002 x241003 x241004 x241005 x241006 x241007 x241008))) else (stowageref16_Check.j5 k (x241005 != 0) x241000 x241001 x241002 x241003 x241004 x241005 x241006 x241007 x241008))
def stowageref16_Check.j5 : Nat → Bool → Int → ByteArray → ByteArray → ByteArray → Int → Int → ByteArray → List (S95) → List (S61) → Option (Int)
 | 0, _, _, _, _, _, _, _, _, _, _ => none
 | k + 1, x123, x241000, x241001, x241002, x241003, x241004, x241005, x241006, x241007, x241008 => if x123 = true then (some 1) else ((stowageref13_Pieces.f k x241007).bind fun bt251 => ((stowageref16_hasSum.f x241000).bind fun t253 => (if t253 = true then ((stowageref06_May.f k x241006).bind fun t254 => (if t254 = true then (if bt251.2 = 0 then (if bt251.1 > 1048576 then (stowageref16_Check.j6 k true x241000 x241001 x241002 x241003 x241004 x241005 x241006 x241007 x241008) else ((stowageref16_hasSum.f x241000).bind fun t255 => (if t255 = true then (stowageref16_Check.j6 k false x241000 x241001 x241002 x241003 x241004 x241005 x241006 x241007 x241008) else (if x241006.toList = ([] : List UInt8) then (stowageref16_Check.j6 k (decide ((x241007.length : Int) > 0)) x241000 x241001 x241002 x241003 x241004 x241005 x241006 x241007 x241008) else (stowageref16_Check.j6 k true x241000 x241001 x241002 x241003 x241004 x241005 x241006 x241007 x241008))))) else (stowageref16_Check.j6 k true x241000 x241001 x241002 x241003 x241004 x241005 x241006 x241007 x241008)) else (stowageref16_Check.j6 k true x241000 x241001 x241002 x241003 x241004 x241005 x241006 x241007 x241008))) else ((stowageref16_hasSum.f x241000).bind fun t256 => (if t256 = true then (stowageref16_Check.j6 k false x241000 x241001 x241002 x241003 x241004 x241005 x241006 x241007 x241008) else (if x241006.toList = ([] : List UInt8) then (stowageref16_Check.j6 k (decide ((x241007.length : Int) > 0)) x241000 x241001 x241002 x241003 x241004 x241005 x241006 x241007 x241008) else (stowageref16_Check.j6 k true x241000 x241001 x241002 x241003 x241004 x241005 x241006 x241007 x241008)))))))
def stowageref16_Check.j6 : Nat → Bool → Int → ByteArray → ByteArray → ByteArray → Int → Int → ByteArray → List (S95) → List (S61) → Option (Int)
 | 0, _, _, _, _, _, _, _, _, _, _ => none
 | k + 1, x163, x241000, x241001, x241002, x241003, x241004, x241005, x241006, x241007, x241008 => if x163 = true then (some 1) else (if (x241008.length : Int) > 100 then (stowageref16_Check.j7 k true x241000 x241001 x241002 x241003 x241004 x241005 x241006 x241007 x241008) else (if x241000 = 8 then (stowageref16_Check.j7 k false x241000 x241001 x241002 x241003 x241004 x241005 x241006 x241007 x241008) else (stowageref16_Check.j7 k (decide ((x241008.length : Int) > 0)) x241000 x241001 x241002 x241003 x241004 x241005 x241006 x241007 x241008)))
def stowageref16_Check.j7 : Nat → Bool → Int → ByteArray → ByteArray → ByteArray → Int → Int → ByteArray → List (S95) → List (S61) → Option (Int)
 | 0, _, _, _, _, _, _, _, _, _, _ => none
 | k + 1, x178, x241000, x241001, x241002, x241003, x241004, x241005, x241006, x241007, x241008 => if x178 = true then (some 1) else (stowageref16_Check.l0 k 0 x241000 x241001 x241002 x241003 x241004 x241005 x241006 x241007 x241008)
def stowageref16_Check.l0 : Nat → Int → Int → ByteArray → ByteArray → ByteArray → Int → Int → ByteArray → List (S95) → List (S61) → Option (Int)
 | 0, _, _, _, _, _, _, _, _, _, _ => none
 | k + 1, x5, x241000, x241001, x241002, x241003, x241004, x241005, x241006, x241007, x241008 => if x5 < (x241008.length : Int) then (if 0 ≤ x5 then (if ((rd_T61 x241008 x5).f0) < 0 then (some 1) else (if ((rd_T61 x241008 x5).f0) > 100 then (some 1) else ((stowageref06_May.f k ((rd_T61 x241008 x5).f1)).bind fun t260 => (if t260 = true then (stowageref16_Check.l0 k (wrap64 (x5 + 1)) x241000 x241001 x241002 x241003 x241004 x241005 x241006 x241007 x241008) else (some 1))))) else (none)) else (some 0)
end
def stowageref16_Check.f (k : Nat) (a0_0 : Int) (a0_1 : ByteArray) (a0_2 : ByteArray) (a0_3 : ByteArray) (a0_4 : Int) (a0_5 : Int) (a0_6 : ByteArray) (l0_7 : List (S95)) (l0_8 : List (S61)) : Option (Int) := if a0_0 < 1 then (stowageref16_Check.j0 k true a0_0 a0_1 a0_2 a0_3 a0_4 a0_5 a0_6 l0_7 l0_8) else (stowageref16_Check.j0 k (decide (a0_0 > 10)) a0_0 a0_1 a0_2 a0_3 a0_4 a0_5 a0_6 l0_7 l0_8)
theorem stowageref16_Check.mono_l : ∀ k, (∀ y0 y1 y2 y3 y4 y5 y6 y7 y8 y9, LeO (stowageref16_Check.j0 k y0 y1 y2 y3 y4 y5 y6 y7 y8 y9) (stowageref16_Check.j0 (k + 1) y0 y1 y2 y3 y4 y5 y6 y7 y8 y9)) ∧ (∀ y0 y1 y2 y3 y4 y5 y6 y7 y8 y9, LeO (stowageref16_Check.j1 k y0 y1 y2 y3 y4 y5 y6 y7 y8 y9) (stowageref16_Check.j1 (k + 1) y0 y1 y2 y3 y4 y5 y6 y7 y8 y9)) ∧ (∀ y0 y1 y2 y3 y4 y5 y6 y7 y8 y9, LeO (stowageref16_Check.j2 k y0 y1 y2 y3 y4 y5 y6 y7 y8 y9) (stowageref16_Check.j2 (k + 1) y0 y1 y2 y3 y4 y5 y6 y7 y8 y9)) ∧ (∀ y0 y1 y2 y3 y4 y5 y6 y7 y8 y9, LeO (stowageref16_Check.j3 k y0 y1 y2 y3 y4 y5 y6 y7 y8 y9) (stowageref16_Check.j3 (k + 1) y0 y1 y2 y3 y4 y5 y6 y7 y8 y9)) ∧ (∀ y0 y1 y2 y3 y4 y5 y6 y7 y8 y9, LeO (stowageref16_Check.j4 k y0 y1 y2 y3 y4 y5 y6 y7 y8 y9) (stowageref16_Check.j4 (k + 1) y0 y1 y2 y3 y4 y5 y6 y7 y8 y9)) ∧ (∀ y0 y1 y2 y3 y4 y5 y6 y7 y8 y9, LeO (stowageref16_Check.j5 k y0 y1 y2 y3 y4 y5 y6 y7 y8 y9) (stowageref16_Check.j5 (k + 1) y0 y1 y2 y3 y4 y5 y6 y7 y8 y9)) ∧ (∀ y0 y1 y2 y3 y4 y5 y6 y7 y8 y9, LeO (stowageref16_Check.j6 k y0 y1 y2 y3 y4 y5 y6 y7 y8 y9) (stowageref16_Check.j6 (k + 1) y0 y1 y2 y3 y4 y5 y6 y7 y8 y9)) ∧ (∀ y0 y1 y2 y3 y4 y5 y6 y7 y8 y9, LeO (stowageref16_Check.j7 k y0 y1 y2 y3 y4 y5 y6 y7 y8 y9) (stowageref16_Check.j7 (k + 1) y0 y1 y2 y3 y4 y5 y6 y7 y8 y9)) ∧ (∀ y0 y1 y2 y3 y4 y5 y6 y7 y8 y9, LeO (stowageref16_Check.l0 k y0 y1 y2 y3 y4 y5 y6 y7 y8 y9) (stowageref16_Check.l0 (k + 1) y0 y1 y2 y3 y4 y5 y6 y7 y8 y9))
 | 0 => ⟨fun _ _ _ _ _ _ _ _ _ _ r h => by simp [stowageref16_Check.j0] at h, fun _ _ _ _ _ _ _ _ _ _ r h => by simp [stowageref16_Check.j1] at h, fun _ _ _ _ _ _ _ _ _ _ r h => by simp [stowageref16_Check.j2] at h, fun _ _ _ _ _ _ _ _ _ _ r h => by simp [stowageref16_Check.j3] at h, fun _ _ _ _ _ _ _ _ _ _ r h => by simp [stowageref16_Check.j4] at h, fun _ _ _ _ _ _ _ _ _ _ r h => by simp [stowageref16_Check.j5] at h, fun _ _ _ _ _ _ _ _ _ _ r h => by simp [stowageref16_Check.j6] at h, fun _ _ _ _ _ _ _ _ _ _ r h => by simp [stowageref16_Check.j7] at h, fun _ _ _ _ _ _ _ _ _ _ r h => by simp [stowageref16_Check.l0] at h⟩
 | k + 1 => by
  obtain ⟨ih0, ih1, ih2, ih3, ih4, ih5, ih6, ih7, ih8⟩ := stowageref16_Check.mono_l k
  refine ⟨?_, ?_, ?_, ?_, ?_, ?_, ?_, ?_, ?_⟩
  all_goals intros
  all_goals first | unfold stowageref16_Check.j0 | unfold stowageref16_Check.j1 | unfold stowageref16_Check.j2 | unfold stowageref16_Check.j3 | unfold stowageref16_Check.j4 | unfold stowageref16_Check.j5 | unfold stowageref16_Check.j6 | unfold stowageref16_Check.j7 | unfold stowageref16_Check.l0
  all_goals repeat' (with_reducible first | exact ih0 _ _ _ _ _ _ _ _ _ _ | exact ih1 _ _ _ _ _ _ _ _ _ _ | exact ih2 _ _ _ _ _ _ _ _ _ _ | exact ih3 _ _ _ _ _ _ _ _ _ _ | exact ih4 _ _ _ _ _ _ _ _ _ _ | exact ih5 _ _ _ _ _ _ _ _ _ _ | exact ih6 _ _ _ _ _ _ _ _ _ _ | exact ih7 _ _ _ _ _ _ _ _ _ _ | exact ih8 _ _ _ _ _ _ _ _ _ _ | exact stowageref06_May.mono _ _ | exact stowageref12_Bucket.mono _ _ | exact stowageref12_Key.mono _ _ | exact stowageref12_Token.mono _ _ | exact stowageref13_Pieces.mono _ _ | exact LeO.refl _ | exact LeO.none _ | refine LeO.ite ?_ ?_ | refine LeO.bind ?_ (fun _ => ?_))
theorem stowageref16_Check.mono : ∀ a0 a1 a2 a3 a4 a5 a6 a7 a8 k, LeO (stowageref16_Check.f k a0 a1 a2 a3 a4 a5 a6 a7 a8) (stowageref16_Check.f (k + 1) a0 a1 a2 a3 a4 a5 a6 a7 a8) := by
 intro a0 a1 a2 a3 a4 a5 a6 a7 a8 k
 obtain ⟨ih0, ih1, ih2, ih3, ih4, ih5, ih6, ih7, ih8⟩ := stowageref16_Check.mono_l k
 unfold stowageref16_Check.f
 repeat' (with_reducible first | exact ih0 _ _ _ _ _ _ _ _ _ _ | exact ih1 _ _ _ _ _ _ _ _ _ _ | exact ih2 _ _ _ _ _ _ _ _ _ _ | exact ih3 _ _ _ _ _ _ _ _ _ _ | exact ih4 _ _ _ _ _ _ _ _ _ _ | exact ih5 _ _ _ _ _ _ _ _ _ _ | exact ih6 _ _ _ _ _ _ _ _ _ _ | exact ih7 _ _ _ _ _ _ _ _ _ _ | exact ih8 _ _ _ _ _ _ _ _ _ _ | exact stowageref06_May.mono _ _ | exact stowageref12_Bucket.mono _ _ | exact stowageref12_Key.mono _ _ | exact stowageref12_Token.mono _ _ | exact stowageref13_Pieces.mono _ _ | exact LeO.refl _ | exact LeO.none _ | refine LeO.ite ?_ ?_ | refine LeO.bind ?_ (fun _ => ?_))
set_option maxHeartbeats 8000000 in
set_option maxRecDepth 100000 in
theorem stowageref16_Check.calls (k : Nat) (a0_0 : Int) (a0_1 : ByteArray) (a0_2 : ByteArray) (a0_3 : ByteArray) (a0_4 : Int) (a0_5 : Int) (a0_6 : ByteArray) (A0_7 : Option Addr) (c0_7 : Nat) (l0_7 : List (S95)) (A0_8 : Option Addr) (c0_8 : Nat) (l0_8 : List (S61)) (r : Int) (w : World) (hr0_7 : Kd.C k95 w A0_7 l0_7.length l0_7) (hc0_7 : l0_7.length ≤ c0_7) (hr0_8 : Kd.C k61 w A0_8 l0_8.length l0_8) (hc0_8 : l0_8.length ≤ c0_8) (h : stowageref16_Check.f k a0_0 a0_1 a0_2 a0_3 a0_4 a0_5 a0_6 l0_7 l0_8 = some r) :
  Calls Tryd.prog 15 #[.agg #[.int .i64 a0_0, .string a0_1, .string a0_2, .string a0_3, .int .i64 a0_4, .int .i64 a0_5, .string a0_6, .slice A0_7 l0_7.length c0_7, .slice A0_8 l0_8.length c0_8]] w fun e w' => e = .returned (.int .i64 r) ∧ Below w.heap.size w w' := by
 have hu34 := Tryd.underlying34
 have HR0_7 := am hr0_7
 have HC0_7 := am hc0_7
 clear hr0_7 hc0_7
 have HR0_8 := am hr0_8
 have HC0_8 := am hc0_8
 clear hr0_8 hc0_8
 have HB := am (Below.refl w.heap.size w)
 have H := h
 clear h
 unfold stowageref16_Check.f at H
 have HC2 := am H
 clear H
 go_enter Tryd.func15, Tryd.ntmps15
 go_upto_region 1 with (first | ((with_reducible refine gate_dst (N := 1) rfl ?_); (try (refine gate_guard (by rfl) ?_; dsimp only)); refine bx 1 #[.int .i64 a0_0, .string a0_1, .string a0_2, .string a0_3, .int .i64 a0_4, .int .i64 a0_5, .string a0_6, .slice A0_7 l0_7.length c0_7, .slice A0_8 l0_8.length c0_8] 34 ?_; intro gb240 hg w3 hbox hb; have BK240 := am (hbox); have GW240 := gsz hg HB.out; have GE240 := gsz hg HB.out; replace HB := am (below_step (bw HB.out) hb); clear hb hbox hg))
 (try simp only [Act.put, List.setIfInBounds_toArray, List.set_cons_zero, List.set_cons_succ])
 go_cut [13] (fun v13 wc => ∃ (kq : Nat) (x13_1 : Bool), v13 = .bool x13_1 ∧ Aside0 (stowageref16_Check.j0 kq x13_1 a0_0 a0_1 a0_2 a0_3 a0_4 a0_5 a0_6 l0_7 l0_8 = some r) ∧ Aside0 (kq ≤ k) ∧ Aside0 (wc.heap[gb240]? = some (.cells #[.int .i64 a0_0, .string a0_1, .string a0_2, .string a0_3, .int .i64 a0_4, .int .i64 a0_5, .string a0_6, (.slice A0_7 l0_7.length c0_7), (.slice A0_8 l0_8.length c0_8)] 34 (0, 0))) ∧ Aside0 (Below w.heap.size w wc))
 case first => as_aux_lemma =>
  have H := HC2.out
  clear HC2
  replace H := iteD H
  rcases H with ⟨c4b0, H⟩ | ⟨c4b0, H⟩
  ·
   (first | rw [c4b0] | (simp only [i64_w, i32_w]; rw [c4b0]) | skip)
   have H' := am H
   clear H
   obtain ⟨hcz5_0, hcz5_1, hcz5_2, hcz5_3, hcz5_4, hcz5_5, hcz5_6, hcz5_7, hcz5_8, hfz5_0, hfz5_1, hfz5_2, hfz5_3, hfz5_4, hfz5_5, hfz5_6, hfz5_7, hfz5_8⟩ := cz9 BK240.out
   go_wp2
   go_meet
   case rel => exact ⟨_, (true), rs, H', ⟨om⟩, ⟨bk BK240.out⟩, ⟨bws HB.out⟩⟩
  ·
   (first | rw [c4b0] | (simp only [i64_w, i32_w]; rw [c4b0]) | skip)
   have H' := am H
   clear H
   obtain ⟨hcz6_0, hcz6_1, hcz6_2, hcz6_3, hcz6_4, hcz6_5, hcz6_6, hcz6_7, hcz6_8, hfz6_0, hfz6_1, hfz6_2, hfz6_3, hfz6_4, hfz6_5, hfz6_6, hfz6_7, hfz6_8⟩ := cz9 BK240.out
   go_wp2
   go_meet
   case rel => exact ⟨_, (decide (a0_0 > 10)), rs, H', ⟨om⟩, ⟨bk BK240.out⟩, ⟨bws HB.out⟩⟩
 case rest => as_aux_lemma =>
  clear HC2
  obtain ⟨kq, x13_1, rfl, HA, HJ1, BK240, HB⟩ := hcut
  cases kq with
  | zero => exact absurd HA.out (by simp [stowageref16_Check.j0])
  | succ kj1 =>
   have H := HA.out
   clear HA
   simp only [stowageref16_Check.j0] at H
   by_cases c7 : x13_1 = true
   ·
    subst c7
    rw [if_pos rfl] at H
    obtain rfl := Option.some.inj H
    go_wp2
    go_ret
    exact ⟨rf, bws HB.out⟩
   · as_aux_lemma =>
    replace c7 := Bool.eq_false_iff.mpr c7
    subst c7
    rw [if_neg (show ¬ (false = true) by decide)] at H
    have HC8 := am H
    clear H
    go_upto_region 3 with (fail)
    go_cut [27] (fun v27 wc => ∃ (kq : Nat) (x27_7 : Bool), v27 = .bool x27_7 ∧ Aside0 (stowageref16_Check.j1 kq x27_7 a0_0 a0_1 a0_2 a0_3 a0_4 a0_5 a0_6 l0_7 l0_8 = some r) ∧ Aside0 (kq ≤ kj1) ∧ Aside0 (wc.heap[gb240]? = some (.cells #[.int .i64 a0_0, .string a0_1, .string a0_2, .string a0_3, .int .i64 a0_4, .int .i64 a0_5, .string a0_6, (.slice A0_7 l0_7.length c0_7), (.slice A0_8 l0_8.length c0_8)] 34 (0, 0))) ∧ Aside0 (Below w.heap.size w wc))
    case first => as_aux_lemma =>
     have H := HC8.out
     clear HC8
     by_cases c9 : a0_1.toList = ([] : List UInt8)
     ·
      rw [if_pos c9] at H
      have c9b0 := beq_iff_eq.mpr c9
      have c9b1 := bne_eq_false_iff_eq.mpr c9
      clear c9
      (first | rw [c9b0] | (simp only [i64_w, i32_w]; rw [c9b0]) | skip)
      have H' := am H
      clear H
      obtain ⟨hcz10_0, hcz10_1, hcz10_2, hcz10_3, hcz10_4, hcz10_5, hcz10_6, hcz10_7, hcz10_8, hfz10_0, hfz10_1, hfz10_2, hfz10_3, hfz10_4, hfz10_5, hfz10_6, hfz10_7, hfz10_8⟩ := cz9 BK240.out
      go_wp2
      go_meet
      case rel => exact ⟨_, (false), rs, H', ⟨by have := HJ1.out; first | omega | exact Nat.le_refl _⟩, ⟨bk BK240.out⟩, ⟨bws HB.out⟩⟩
     ·
      rw [if_neg c9] at H
      have c9b0 := beq_eq_false_iff_ne.mpr c9
      have c9b1 := bne_iff_ne.mpr c9
      (first | rw [c9b0] | (simp only [i64_w, i32_w]; rw [c9b0]) | skip)
      by_cases c11 : a0_0 = 10
      ·
       rw [if_pos c11] at H
       have c11b0 := beq_iff_eq.mpr c11
       have c11b1 := bne_eq_false_iff_eq.mpr c11
       clear c11
       have H' := am H
       clear H
       obtain ⟨hcz12_0, hcz12_1, hcz12_2, hcz12_3, hcz12_4, hcz12_5, hcz12_6, hcz12_7, hcz12_8, hfz12_0, hfz12_1, hfz12_2, hfz12_3, hfz12_4, hfz12_5, hfz12_6, hfz12_7, hfz12_8⟩ := cz9 BK240.out
       go_wp2
       go_meet
       case rel => exact ⟨_, (true), rs, H', ⟨by have := HJ1.out; first | omega | exact Nat.le_refl _⟩, ⟨bk BK240.out⟩, ⟨bws HB.out⟩⟩
      ·
       rw [if_neg c11] at H
       have c11b0 := beq_eq_false_iff_ne.mpr c11
       have c11b1 := bne_iff_ne.mpr c11
       replace H := obE H
       obtain ⟨t241, A13, H⟩ := H
       have H' := am H
       clear H
       obtain ⟨hcz14_0, hcz14_1, hcz14_2, hcz14_3, hcz14_4, hcz14_5, hcz14_6, hcz14_7, hcz14_8, hfz14_0, hfz14_1, hfz14_2, hfz14_3, hfz14_4, hfz14_5, hfz14_6, hfz14_7, hfz14_8⟩ := cz9 BK240.out
       go_wp2_with (first | (go_at_call 38; (with_reducible refine (stowageref12_Token.calls kj1 a0_1 t241 _ A13.out).mono ?_); rintro e w' ⟨rfl, ⟨nd, rfl⟩⟩))
       go_meet
       case rel => exact ⟨_, (!t241), rs, H', ⟨by have := HJ1.out; first | omega | exact Nat.le_refl _⟩, ⟨bk BK240.out⟩, ⟨bws HB.out⟩⟩
    case rest => as_aux_lemma =>
     clear HC8
     try clear c7
     obtain ⟨kq, x27_7, rfl, HA, HJ7, BK240, HB⟩ := hcut
     cases kq with
     | zero => exact absurd HA.out (by simp [stowageref16_Check.j1])
     | succ kj7 =>
      have H := HA.out
      clear HA
      simp only [stowageref16_Check.j1] at H
      by_cases c15 : x27_7 = true
      ·
       subst c15
       rw [if_pos rfl] at H
       obtain rfl := Option.some.inj H
       go_wp2
       go_ret
       exact ⟨rf, bws HB.out⟩
      · as_aux_lemma =>
       replace c15 := Bool.eq_false_iff.mpr c15
       subst c15
       rw [if_neg (show ¬ (false = true) by decide)] at H
       have HC16 := am H
       clear H
       go_upto_region 5 with (fail)
       go_cut [46] (fun v46 wc => ∃ (kq : Nat) (x46_15 : Bool), v46 = .bool x46_15 ∧ Aside0 (stowageref16_Check.j2 kq x46_15 a0_0 a0_1 a0_2 a0_3 a0_4 a0_5 a0_6 l0_7 l0_8 = some r) ∧ Aside0 (kq ≤ kj7) ∧ Aside0 (wc.heap[gb240]? = some (.cells #[.int .i64 a0_0, .string a0_1, .string a0_2, .string a0_3, .int .i64 a0_4, .int .i64 a0_5, .string a0_6, (.slice A0_7 l0_7.length c0_7), (.slice A0_8 l0_8.length c0_8)] 34 (0, 0))) ∧ Aside0 (Below w.heap.size w wc))
       case first => as_aux_lemma =>
        have H := HC16.out
        clear HC16
        by_cases c17 : a0_0 = 10
        ·
         rw [if_pos c17] at H
         have c17b0 := beq_iff_eq.mpr c17
         have c17b1 := bne_eq_false_iff_eq.mpr c17
         clear c17
         (first | rw [c17b0] | (simp only [i64_w, i32_w]; rw [c17b0]) | skip)
         by_cases c18 : a0_2.toList = ([] : List UInt8)
         ·
          rw [if_pos c18] at H
          have c18b0 := beq_iff_eq.mpr c18
          have c18b1 := bne_eq_false_iff_eq.mpr c18
          clear c18
          replace H := iteD H
          rcases H with ⟨c19b0, H⟩ | ⟨c19b0, H⟩
          ·
           replace H := obE H
           obtain ⟨t242, A20, H⟩ := H
           have H' := am H
           clear H
           obtain ⟨hcz21_0, hcz21_1, hcz21_2, hcz21_3, hcz21_4, hcz21_5, hcz21_6, hcz21_7, hcz21_8, hfz21_0, hfz21_1, hfz21_2, hfz21_3, hfz21_4, hfz21_5, hfz21_6, hfz21_7, hfz21_8⟩ := cz9 BK240.out
           go_wp2_with (first | (go_at_call 39; (with_reducible refine (stowageref12_Bucket.calls kj7 a0_2 t242 _ A20.out).mono ?_); rintro e w' ⟨rfl, ⟨nd, rfl⟩⟩))
           go_meet
           case rel => exact ⟨_, (!t242), rs, H', ⟨by have := HJ1.out; have := HJ7.out; first | omega | exact Nat.le_refl _⟩, ⟨bk BK240.out⟩, ⟨bws HB.out⟩⟩
          ·
           have H' := am H
           clear H
           obtain ⟨hcz22_0, hcz22_1, hcz22_2, hcz22_3, hcz22_4, hcz22_5, hcz22_6, hcz22_7, hcz22_8, hfz22_0, hfz22_1, hfz22_2, hfz22_3, hfz22_4, hfz22_5, hfz22_6, hfz22_7, hfz22_8⟩ := cz9 BK240.out
           go_wp2
           go_meet
           case rel => exact ⟨_, (false), rs, H', ⟨by have := HJ1.out; have := HJ7.out; first | omega | exact Nat.le_refl _⟩, ⟨bk BK240.out⟩, ⟨bws HB.out⟩⟩
         ·
          rw [if_neg c18] at H
          have c18b0 := beq_eq_false_iff_ne.mpr c18
          have c18b1 := bne_iff_ne.mpr c18
          have H' := am H
          clear H
          obtain ⟨hcz23_0, hcz23_1, hcz23_2, hcz23_3, hcz23_4, hcz23_5, hcz23_6, hcz23_7, hcz23_8, hfz23_0, hfz23_1, hfz23_2, hfz23_3, hfz23_4, hfz23_5, hfz23_6, hfz23_7, hfz23_8⟩ := cz9 BK240.out
          go_wp2
          go_meet
          case rel => exact ⟨_, (true), rs, H', ⟨by have := HJ1.out; have := HJ7.out; first | omega | exact Nat.le_refl _⟩, ⟨bk BK240.out⟩, ⟨bws HB.out⟩⟩
        ·
         rw [if_neg c17] at H
         have c17b0 := beq_eq_false_iff_ne.mpr c17
         have c17b1 := bne_iff_ne.mpr c17
         (first | rw [c17b0] | (simp only [i64_w, i32_w]; rw [c17b0]) | skip)
         replace H := iteD H
         rcases H with ⟨c24b0, H⟩ | ⟨c24b0, H⟩
         ·
          replace H := obE H
          obtain ⟨t243, A25, H⟩ := H
          have H' := am H
          clear H
          obtain ⟨hcz26_0, hcz26_1, hcz26_2, hcz26_3, hcz26_4, hcz26_5, hcz26_6, hcz26_7, hcz26_8, hfz26_0, hfz26_1, hfz26_2, hfz26_3, hfz26_4, hfz26_5, hfz26_6, hfz26_7, hfz26_8⟩ := cz9 BK240.out
          go_wp2_with (first | (go_at_call 39; (with_reducible refine (stowageref12_Bucket.calls kj7 a0_2 t243 _ A25.out).mono ?_); rintro e w' ⟨rfl, ⟨nd, rfl⟩⟩))
          go_meet
          case rel => exact ⟨_, (!t243), rs, H', ⟨by have := HJ1.out; have := HJ7.out; first | omega | exact Nat.le_refl _⟩, ⟨bk BK240.out⟩, ⟨bws HB.out⟩⟩
         ·
          have H' := am H
          clear H
          obtain ⟨hcz27_0, hcz27_1, hcz27_2, hcz27_3, hcz27_4, hcz27_5, hcz27_6, hcz27_7, hcz27_8, hfz27_0, hfz27_1, hfz27_2, hfz27_3, hfz27_4, hfz27_5, hfz27_6, hfz27_7, hfz27_8⟩ := cz9 BK240.out
          go_wp2
          go_meet
          case rel => exact ⟨_, (false), rs, H', ⟨by have := HJ1.out; have := HJ7.out; first | omega | exact Nat.le_refl _⟩, ⟨bk BK240.out⟩, ⟨bws HB.out⟩⟩
       case rest => as_aux_lemma =>
        clear HC16
        try clear c7
        try clear c15
        obtain ⟨kq, x46_15, rfl, HA, HJ15, BK240, HB⟩ := hcut
        cases kq with
        | zero => exact absurd HA.out (by simp [stowageref16_Check.j2])
        | succ kj15 =>
         have H := HA.out
         clear HA
         simp only [stowageref16_Check.j2] at H
         by_cases c28 : x46_15 = true
         ·
          subst c28
          rw [if_pos rfl] at H
          obtain rfl := Option.some.inj H
          go_wp2
          go_ret
          exact ⟨rf, bws HB.out⟩
         · as_aux_lemma =>
          replace c28 := Bool.eq_false_iff.mpr c28
          subst c28
          rw [if_neg (show ¬ (false = true) by decide)] at H
          have HC29 := am H
          clear H
          go_upto_region 7 with (fail)
          go_cut [66] (fun v66 wc => ∃ (kq : Nat) (x66_28 : Bool), v66 = .bool x66_28 ∧ Aside0 (stowageref16_Check.j3 kq x66_28 a0_0 a0_1 a0_2 a0_3 a0_4 a0_5 a0_6 l0_7 l0_8 = some r) ∧ Aside0 (kq ≤ kj15) ∧ Aside0 (wc.heap[gb240]? = some (.cells #[.int .i64 a0_0, .string a0_1, .string a0_2, .string a0_3, .int .i64 a0_4, .int .i64 a0_5, .string a0_6, (.slice A0_7 l0_7.length c0_7), (.slice A0_8 l0_8.length c0_8)] 34 (0, 0))) ∧ Aside0 (Below w.heap.size w wc))
          case first => as_aux_lemma =>
           have H := HC29.out
           clear HC29
           replace H := obE H
           obtain ⟨t244, A30, H⟩ := H
           by_cases c31 : t244 = true
           · as_aux_lemma =>
            subst c31
            rw [if_pos rfl] at H
            replace H := obE H
            obtain ⟨t245, A32, H⟩ := H
            by_cases c33 : t245 = true
            ·
             subst c33
             rw [if_pos rfl] at H
             replace H := obE H
             obtain ⟨t246, A34, H⟩ := H
             by_cases c35 : t246 = true
             ·
              subst c35
              rw [if_pos rfl] at H
              have H' := am H
              clear H
              obtain ⟨hcz36_0, hcz36_1, hcz36_2, hcz36_3, hcz36_4, hcz36_5, hcz36_6, hcz36_7, hcz36_8, hfz36_0, hfz36_1, hfz36_2, hfz36_3, hfz36_4, hfz36_5, hfz36_6, hfz36_7, hfz36_8⟩ := cz9 BK240.out
              go_wp2_with (first | ((with_reducible refine gate_callee (f := 40) rfl ?_); refine goesL_ (some 49) rfl rfl Tryd.func40 (by kernel_rfl) rfl #[.int .i64 a0_0] rfl gl ?_; (with_reducible refine (stowageref16_HasKey.calls a0_0 true _ A30.out).mono ?_); rintro e w' ⟨rfl, ⟨nd, rfl⟩⟩; refine ⟨_, rfl, ?_⟩) | (go_at_call 41; (with_reducible refine (stowageref12_Key.calls kj15 a0_3 true _ A32.out).mono ?_); rintro e w' ⟨rfl, ⟨nd, rfl⟩⟩) | (go_at_call 40; (with_reducible refine (stowageref16_HasKey.calls a0_0 true _ A34.out).mono ?_); rintro e w' ⟨rfl, ⟨nd, rfl⟩⟩))
              go_meet
              case rel => exact ⟨_, (false), rs, H', ⟨by have := HJ1.out; have := HJ7.out; have := HJ15.out; first | omega | exact Nat.le_refl _⟩, ⟨bk BK240.out⟩, ⟨bws HB.out⟩⟩
             ·
              replace c35 := Bool.eq_false_iff.mpr c35
              subst c35
              rw [if_neg (show ¬ (false = true) by decide)] at H
              have H' := am H
              clear H
              obtain ⟨hcz37_0, hcz37_1, hcz37_2, hcz37_3, hcz37_4, hcz37_5, hcz37_6, hcz37_7, hcz37_8, hfz37_0, hfz37_1, hfz37_2, hfz37_3, hfz37_4, hfz37_5, hfz37_6, hfz37_7, hfz37_8⟩ := cz9 BK240.out
              go_wp2_with (first | ((with_reducible refine gate_callee (f := 40) rfl ?_); refine goesL_ (some 49) rfl rfl Tryd.func40 (by kernel_rfl) rfl #[.int .i64 a0_0] rfl gl ?_; (with_reducible refine (stowageref16_HasKey.calls a0_0 true _ A30.out).mono ?_); rintro e w' ⟨rfl, ⟨nd, rfl⟩⟩; refine ⟨_, rfl, ?_⟩) | (go_at_call 41; (with_reducible refine (stowageref12_Key.calls kj15 a0_3 true _ A32.out).mono ?_); rintro e w' ⟨rfl, ⟨nd, rfl⟩⟩) | (go_at_call 40; (with_reducible refine (stowageref16_HasKey.calls a0_0 false _ A34.out).mono ?_); rintro e w' ⟨rfl, ⟨nd, rfl⟩⟩))
              go_meet
              case rel => exact ⟨_, ((a0_3.toList != ([] : List UInt8))), (by first | (simp; done) | (cases a0_3.toList <;> rfl) | (cases a0_3.toList <;> simp)), H', ⟨by have := HJ1.out; have := HJ7.out; have := HJ15.out; first | omega | exact Nat.le_refl _⟩, ⟨bk BK240.out⟩, ⟨bws HB.out⟩⟩
            ·
             replace c33 := Bool.eq_false_iff.mpr c33
             subst c33
             rw [if_neg (show ¬ (false = true) by decide)] at H
             have H' := am H
             clear H
             obtain ⟨hcz38_0, hcz38_1, hcz38_2, hcz38_3, hcz38_4, hcz38_5, hcz38_6, hcz38_7, hcz38_8, hfz38_0, hfz38_1, hfz38_2, hfz38_3, hfz38_4, hfz38_5, hfz38_6, hfz38_7, hfz38_8⟩ := cz9 BK240.out
             go_wp2_with (first | ((with_reducible refine gate_callee (f := 40) rfl ?_); refine goesL_ (some 49) rfl rfl Tryd.func40 (by kernel_rfl) rfl #[.int .i64 a0_0] rfl gl ?_; (with_reducible refine (stowageref16_HasKey.calls a0_0 true _ A30.out).mono ?_); rintro e w' ⟨rfl, ⟨nd, rfl⟩⟩; refine ⟨_, rfl, ?_⟩) | (go_at_call 41; (with_reducible refine (stowageref12_Key.calls kj15 a0_3 false _ A32.out).mono ?_); rintro e w' ⟨rfl, ⟨nd, rfl⟩⟩))
             go_meet
             case rel => exact ⟨_, (true), rs, H', ⟨by have := HJ1.out; have := HJ7.out; have := HJ15.out; first | omega | exact Nat.le_refl _⟩, ⟨bk BK240.out⟩, ⟨bws HB.out⟩⟩
           ·
            replace c31 := Bool.eq_false_iff.mpr c31
            subst c31
            rw [if_neg (show ¬ (false = true) by decide)] at H
            replace H := obE H
            obtain ⟨t247, A39, H⟩ := H
            by_cases c40 : t247 = true
            ·
             subst c40
             rw [if_pos rfl] at H
             have H' := am H
             clear H
             obtain ⟨hcz41_0, hcz41_1, hcz41_2, hcz41_3, hcz41_4, hcz41_5, hcz41_6, hcz41_7, hcz41_8, hfz41_0, hfz41_1, hfz41_2, hfz41_3, hfz41_4, hfz41_5, hfz41_6, hfz41_7, hfz41_8⟩ := cz9 BK240.out
             go_wp2_with (first | ((with_reducible refine gate_callee (f := 40) rfl ?_); refine goesL_ (some 49) rfl rfl Tryd.func40 (by kernel_rfl) rfl #[.int .i64 a0_0] rfl gl ?_; (with_reducible refine (stowageref16_HasKey.calls a0_0 false _ A30.out).mono ?_); rintro e w' ⟨rfl, ⟨nd, rfl⟩⟩; refine ⟨_, rfl, ?_⟩) | (go_at_call 40; (with_reducible refine (stowageref16_HasKey.calls a0_0 true _ A39.out).mono ?_); rintro e w' ⟨rfl, ⟨nd, rfl⟩⟩))
             go_meet
             case rel => exact ⟨_, (false), rs, H', ⟨by have := HJ1.out; have := HJ7.out; have := HJ15.out; first | omega | exact Nat.le_refl _⟩, ⟨bk BK240.out⟩, ⟨bws HB.out⟩⟩
            ·
             replace c40 := Bool.eq_false_iff.mpr c40
             subst c40
             rw [if_neg (show ¬ (false = true) by decide)] at H
             have H' := am H
             clear H
             obtain ⟨hcz42_0, hcz42_1, hcz42_2, hcz42_3, hcz42_4, hcz42_5, hcz42_6, hcz42_7, hcz42_8, hfz42_0, hfz42_1, hfz42_2, hfz42_3, hfz42_4, hfz42_5, hfz42_6, hfz42_7, hfz42_8⟩ := cz9 BK240.out
             go_wp2_with (first | ((with_reducible refine gate_callee (f := 40) rfl ?_); refine goesL_ (some 49) rfl rfl Tryd.func40 (by kernel_rfl) rfl #[.int .i64 a0_0] rfl gl ?_; (with_reducible refine (stowageref16_HasKey.calls a0_0 false _ A30.out).mono ?_); rintro e w' ⟨rfl, ⟨nd, rfl⟩⟩; refine ⟨_, rfl, ?_⟩) | (go_at_call 40; (with_reducible refine (stowageref16_HasKey.calls a0_0 false _ A39.out).mono ?_); rintro e w' ⟨rfl, ⟨nd, rfl⟩⟩))
             go_meet
             case rel => exact ⟨_, ((a0_3.toList != ([] : List UInt8))), (by first | (simp; done) | (cases a0_3.toList <;> rfl) | (cases a0_3.toList <;> simp)), H', ⟨by have := HJ1.out; have := HJ7.out; have := HJ15.out; first | omega | exact Nat.le_refl _⟩, ⟨bk BK240.out⟩, ⟨bws HB.out⟩⟩
          case rest => as_aux_lemma =>
           clear HC29
           try clear c7
           try clear c15
           try clear c28
           obtain ⟨kq, x66_28, rfl, HA, HJ28, BK240, HB⟩ := hcut
           cases kq with
           | zero => exact absurd HA.out (by simp [stowageref16_Check.j3])
           | succ kj28 =>
            have H := HA.out
            clear HA
            simp only [stowageref16_Check.j3] at H
            by_cases c43 : x66_28 = true
            ·
             subst c43
             rw [if_pos rfl] at H
             obtain rfl := Option.some.inj H
             go_wp2
             go_ret
             exact ⟨rf, bws HB.out⟩
            · as_aux_lemma =>
             replace c43 := Bool.eq_false_iff.mpr c43
             subst c43
             rw [if_neg (show ¬ (false = true) by decide)] at H
             have HC44 := am H
             clear H
             go_upto_region 9 with (fail)
             go_cut [100] (fun v100 wc => ∃ (kq : Nat) (x100_43 : Bool), v100 = .bool x100_43 ∧ Aside0 (stowageref16_Check.j4 kq x100_43 a0_0 a0_1 a0_2 a0_3 a0_4 a0_5 a0_6 l0_7 l0_8 = some r) ∧ Aside0 (kq ≤ kj28) ∧ Aside0 (wc.heap[gb240]? = some (.cells #[.int .i64 a0_0, .string a0_1, .string a0_2, .string a0_3, .int .i64 a0_4, .int .i64 a0_5, .string a0_6, (.slice A0_7 l0_7.length c0_7), (.slice A0_8 l0_8.length c0_8)] 34 (0, 0))) ∧ Aside0 (Below w.heap.size w wc))
             case first => as_aux_lemma =>
              have H := HC44.out
              clear HC44
              replace H := iteD H
              rcases H with ⟨c45b0, H⟩ | ⟨c45b0, H⟩
              ·
               (first | rw [c45b0] | (simp only [i64_w, i32_w]; rw [c45b0]) | skip)
               have H' := am H
               clear H
               obtain ⟨hcz46_0, hcz46_1, hcz46_2, hcz46_3, hcz46_4, hcz46_5, hcz46_6, hcz46_7, hcz46_8, hfz46_0, hfz46_1, hfz46_2, hfz46_3, hfz46_4, hfz46_5, hfz46_6, hfz46_7, hfz46_8⟩ := cz9 BK240.out
               go_wp2
               go_meet
               case rel => exact ⟨_, (true), rs, H', ⟨by have := HJ1.out; have := HJ7.out; have := HJ15.out; have := HJ28.out; first | omega | exact Nat.le_refl _⟩, ⟨bk BK240.out⟩, ⟨bws HB.out⟩⟩
              · as_aux_lemma =>
               (first | rw [c45b0] | (simp only [i64_w, i32_w]; rw [c45b0]) | skip)
               replace H := iteD H
               rcases H with ⟨c47b0, H⟩ | ⟨c47b0, H⟩
               ·
                have H' := am H
                clear H
                obtain ⟨hcz48_0, hcz48_1, hcz48_2, hcz48_3, hcz48_4, hcz48_5, hcz48_6, hcz48_7, hcz48_8, hfz48_0, hfz48_1, hfz48_2, hfz48_3, hfz48_4, hfz48_5, hfz48_6, hfz48_7, hfz48_8⟩ := cz9 BK240.out
                go_wp2
                go_meet
                case rel => exact ⟨_, (true), rs, H', ⟨by have := HJ1.out; have := HJ7.out; have := HJ15.out; have := HJ28.out; first | omega | exact Nat.le_refl _⟩, ⟨bk BK240.out⟩, ⟨bws HB.out⟩⟩
               · as_aux_lemma =>
                replace H := obE H
                obtain ⟨t248, A49, H⟩ := H
                by_cases c50 : t248 = true
                ·
                 subst c50
                 rw [if_pos rfl] at H
                 replace H := obE H
                 obtain ⟨t249, A51, H⟩ := H
                 by_cases c52 : t249 = true
                 ·
                  subst c52
                  rw [if_pos rfl] at H
                  replace H := iteD H
                  rcases H with ⟨c53b0, H⟩ | ⟨c53b0, H⟩
                  ·
                   have H' := am H
                   clear H
                   obtain ⟨hcz54_0, hcz54_1, hcz54_2, hcz54_3, hcz54_4, hcz54_5, hcz54_6, hcz54_7, hcz54_8, hfz54_0, hfz54_1, hfz54_2, hfz54_3, hfz54_4, hfz54_5, hfz54_6, hfz54_7, hfz54_8⟩ := cz9 BK240.out
                   go_wp2_with (first | (go_at_call 42; (with_reducible refine (stowageref16_hasID.calls a0_0 true _ A49.out).mono ?_); rintro e w' ⟨rfl, ⟨nd, rfl⟩⟩; clear A49) | (go_at_call 42; (with_reducible refine (stowageref16_hasID.calls a0_0 true _ A51.out).mono ?_); rintro e w' ⟨rfl, ⟨nd, rfl⟩⟩; clear A51))
                   go_meet
                   case rel => exact ⟨_, ((a0_4 == 0)), rs, H', ⟨by have := HJ1.out; have := HJ7.out; have := HJ15.out; have := HJ28.out; first | omega | exact Nat.le_refl _⟩, ⟨bk BK240.out⟩, ⟨bws HB.out⟩⟩
                  ·
                   have H' := am H
                   clear H
                   obtain ⟨hcz55_0, hcz55_1, hcz55_2, hcz55_3, hcz55_4, hcz55_5, hcz55_6, hcz55_7, hcz55_8, hfz55_0, hfz55_1, hfz55_2, hfz55_3, hfz55_4, hfz55_5, hfz55_6, hfz55_7, hfz55_8⟩ := cz9 BK240.out
                   go_wp2_with (first | (go_at_call 42; (with_reducible refine (stowageref16_hasID.calls a0_0 true _ A49.out).mono ?_); rintro e w' ⟨rfl, ⟨nd, rfl⟩⟩; clear A49) | (go_at_call 42; (with_reducible refine (stowageref16_hasID.calls a0_0 true _ A51.out).mono ?_); rintro e w' ⟨rfl, ⟨nd, rfl⟩⟩; clear A51))
                   go_meet
                   case rel => exact ⟨_, (false), rs, H', ⟨by have := HJ1.out; have := HJ7.out; have := HJ15.out; have := HJ28.out; first | omega | exact Nat.le_refl _⟩, ⟨bk BK240.out⟩, ⟨bws HB.out⟩⟩
                 ·
                  replace c52 := Bool.eq_false_iff.mpr c52
                  subst c52
                  rw [if_neg (show ¬ (false = true) by decide)] at H
                  have H' := am H
                  clear H
                  obtain ⟨hcz56_0, hcz56_1, hcz56_2, hcz56_3, hcz56_4, hcz56_5, hcz56_6, hcz56_7, hcz56_8, hfz56_0, hfz56_1, hfz56_2, hfz56_3, hfz56_4, hfz56_5, hfz56_6, hfz56_7, hfz56_8⟩ := cz9 BK240.out
                  go_wp2_with (first | (go_at_call 42; (with_reducible refine (stowageref16_hasID.calls a0_0 true _ A49.out).mono ?_); rintro e w' ⟨rfl, ⟨nd, rfl⟩⟩; clear A49) | (go_at_call 42; (with_reducible refine (stowageref16_hasID.calls a0_0 false _ A51.out).mono ?_); rintro e w' ⟨rfl, ⟨nd, rfl⟩⟩; clear A51))
                  go_meet
                  case rel => exact ⟨_, (false), rs, H', ⟨by have := HJ1.out; have := HJ7.out; have := HJ15.out; have := HJ28.out; first | omega | exact Nat.le_refl _⟩, ⟨bk BK240.out⟩, ⟨bws HB.out⟩⟩
                · as_aux_lemma =>
                 replace c50 := Bool.eq_false_iff.mpr c50
                 subst c50
                 rw [if_neg (show ¬ (false = true) by decide)] at H
                 by_cases c57 : a0_4 = 0
                 ·
                  rw [if_pos c57] at H
                  have c57b0 := beq_iff_eq.mpr c57
                  have c57b1 := bne_eq_false_iff_eq.mpr c57
                  clear c57
                  replace H := obE H
                  obtain ⟨t250, A58, H⟩ := H
                  by_cases c59 : t250 = true
                  ·
                   subst c59
                   rw [if_pos rfl] at H
                   replace H := iteD H
                   rcases H with ⟨c60b0, H⟩ | ⟨c60b0, H⟩
                   ·
                    have H' := am H
                    clear H
                    obtain ⟨hcz61_0, hcz61_1, hcz61_2, hcz61_3, hcz61_4, hcz61_5, hcz61_6, hcz61_7, hcz61_8, hfz61_0, hfz61_1, hfz61_2, hfz61_3, hfz61_4, hfz61_5, hfz61_6, hfz61_7, hfz61_8⟩ := cz9 BK240.out
                    go_wp2_with (first | (go_at_call 42; (with_reducible refine (stowageref16_hasID.calls a0_0 false _ A49.out).mono ?_); rintro e w' ⟨rfl, ⟨nd, rfl⟩⟩; clear A49) | (go_at_call 42; (with_reducible refine (stowageref16_hasID.calls a0_0 true _ A58.out).mono ?_); rintro e w' ⟨rfl, ⟨nd, rfl⟩⟩; clear A58))
                    go_meet
                    case rel => exact ⟨_, ((a0_4 == 0)), rs, H', ⟨by have := HJ1.out; have := HJ7.out; have := HJ15.out; have := HJ28.out; first | omega | exact Nat.le_refl _⟩, ⟨bk BK240.out⟩, ⟨bws HB.out⟩⟩
                   ·
                    have H' := am H
                    clear H
                    obtain ⟨hcz62_0, hcz62_1, hcz62_2, hcz62_3, hcz62_4, hcz62_5, hcz62_6, hcz62_7, hcz62_8, hfz62_0, hfz62_1, hfz62_2, hfz62_3, hfz62_4, hfz62_5, hfz62_6, hfz62_7, hfz62_8⟩ := cz9 BK240.out
                    go_wp2_with (first | (go_at_call 42; (with_reducible refine (stowageref16_hasID.calls a0_0 false _ A49.out).mono ?_); rintro e w' ⟨rfl, ⟨nd, rfl⟩⟩; clear A49) | (go_at_call 42; (with_reducible refine (stowageref16_hasID.calls a0_0 true _ A58.out).mono ?_); rintro e w' ⟨rfl, ⟨nd, rfl⟩⟩; clear A58))
                    go_meet
                    case rel => exact ⟨_, (false), rs, H', ⟨by have := HJ1.out; have := HJ7.out; have := HJ15.out; have := HJ28.out; first | omega | exact Nat.le_refl _⟩, ⟨bk BK240.out⟩, ⟨bws HB.out⟩⟩
                  ·
                   replace c59 := Bool.eq_false_iff.mpr c59
                   subst c59
                   rw [if_neg (show ¬ (false = true) by decide)] at H
                   have H' := am H
                   clear H
                   obtain ⟨hcz63_0, hcz63_1, hcz63_2, hcz63_3, hcz63_4, hcz63_5, hcz63_6, hcz63_7, hcz63_8, hfz63_0, hfz63_1, hfz63_2, hfz63_3, hfz63_4, hfz63_5, hfz63_6, hfz63_7, hfz63_8⟩ := cz9 BK240.out
                   go_wp2_with (first | (go_at_call 42; (with_reducible refine (stowageref16_hasID.calls a0_0 false _ A49.out).mono ?_); rintro e w' ⟨rfl, ⟨nd, rfl⟩⟩; clear A49) | (go_at_call 42; (with_reducible refine (stowageref16_hasID.calls a0_0 false _ A58.out).mono ?_); rintro e w' ⟨rfl, ⟨nd, rfl⟩⟩; clear A58))
                   go_meet
                   case rel => exact ⟨_, (false), rs, H', ⟨by have := HJ1.out; have := HJ7.out; have := HJ15.out; have := HJ28.out; first | omega | exact Nat.le_refl _⟩, ⟨bk BK240.out⟩, ⟨bws HB.out⟩⟩
                 ·
                  rw [if_neg c57] at H
                  have c57b0 := beq_eq_false_iff_ne.mpr c57
                  have c57b1 := bne_iff_ne.mpr c57
                  have H' := am H
                  clear H
                  obtain ⟨hcz64_0, hcz64_1, hcz64_2, hcz64_3, hcz64_4, hcz64_5, hcz64_6, hcz64_7, hcz64_8, hfz64_0, hfz64_1, hfz64_2, hfz64_3, hfz64_4, hfz64_5, hfz64_6, hfz64_7, hfz64_8⟩ := cz9 BK240.out
                  go_wp2_with (first | (go_at_call 42; (with_reducible refine (stowageref16_hasID.calls a0_0 false _ A49.out).mono ?_); rintro e w' ⟨rfl, ⟨nd, rfl⟩⟩))
                  go_meet
                  case rel => exact ⟨_, (true), rs, H', ⟨by have := HJ1.out; have := HJ7.out; have := HJ15.out; have := HJ28.out; first | omega | exact Nat.le_refl _⟩, ⟨bk BK240.out⟩, ⟨bws HB.out⟩⟩
             case rest => as_aux_lemma =>
              clear HC44
              try clear c43
              obtain ⟨kq, x100_43, rfl, HA, HJ43, BK240, HB⟩ := hcut
              cases kq with
              | zero => exact absurd HA.out (by simp [stowageref16_Check.j4])
              | succ kj43 =>
               have H := HA.out
               clear HA
               simp only [stowageref16_Check.j4] at H
               by_cases c65 : x100_43 = true
               ·
                subst c65
                rw [if_pos rfl] at H
                obtain rfl := Option.some.inj H
                go_wp2
                go_ret
                exact ⟨rf, bws HB.out⟩
               · as_aux_lemma =>
                replace c65 := Bool.eq_false_iff.mpr c65
                subst c65
                rw [if_neg (show ¬ (false = true) by decide)] at H
                have HC66 := am H
                clear H
                go_upto_region 11 with (fail)
                go_cut [123] (fun v123 wc => ∃ (kq : Nat) (x123_65 : Bool), v123 = .bool x123_65 ∧ Aside0 (stowageref16_Check.j5 kq x123_65 a0_0 a0_1 a0_2 a0_3 a0_4 a0_5 a0_6 l0_7 l0_8 = some r) ∧ Aside0 (kq ≤ kj43) ∧ Aside0 (wc.heap[gb240]? = some (.cells #[.int .i64 a0_0, .string a0_1, .string a0_2, .string a0_3, .int .i64 a0_4, .int .i64 a0_5, .string a0_6, (.slice A0_7 l0_7.length c0_7), (.slice A0_8 l0_8.length c0_8)] 34 (0, 0))) ∧ Aside0 (Below w.heap.size w wc))
                case first => as_aux_lemma =>
                 have H := HC66.out
                 clear HC66
                 by_cases c67 : a0_0 = 7
                 ·
                  rw [if_pos c67] at H
                  have c67b0 := beq_iff_eq.mpr c67
                  have c67b1 := bne_eq_false_iff_eq.mpr c67
                  clear c67
                  (first | rw [c67b0] | (simp only [i64_w, i32_w]; rw [c67b0]) | skip)
                  replace H := iteD H
                  rcases H with ⟨c68b0, H⟩ | ⟨c68b0, H⟩
                  ·
                   have H' := am H
                   clear H
                   obtain ⟨hcz69_0, hcz69_1, hcz69_2, hcz69_3, hcz69_4, hcz69_5, hcz69_6, hcz69_7, hcz69_8, hfz69_0, hfz69_1, hfz69_2, hfz69_3, hfz69_4, hfz69_5, hfz69_6, hfz69_7, hfz69_8⟩ := cz9 BK240.out
                   go_wp2
                   go_meet
                   case rel => exact ⟨_, (true), rs, H', ⟨by have := HJ1.out; have := HJ7.out; have := HJ15.out; have := HJ28.out; have := HJ43.out; first | omega | exact Nat.le_refl _⟩, ⟨bk BK240.out⟩, ⟨bws HB.out⟩⟩
                  ·
                   replace H := iteD H
                   rcases H with ⟨c70b0, H⟩ | ⟨c70b0, H⟩
                   ·
                    have H' := am H
                    clear H
                    obtain ⟨hcz71_0, hcz71_1, hcz71_2, hcz71_3, hcz71_4, hcz71_5, hcz71_6, hcz71_7, hcz71_8, hfz71_0, hfz71_1, hfz71_2, hfz71_3, hfz71_4, hfz71_5, hfz71_6, hfz71_7, hfz71_8⟩ := cz9 BK240.out
                    go_wp2
                    go_meet
                    case rel => exact ⟨_, (true), rs, H', ⟨by have := HJ1.out; have := HJ7.out; have := HJ15.out; have := HJ28.out; have := HJ43.out; first | omega | exact Nat.le_refl _⟩, ⟨bk BK240.out⟩, ⟨bws HB.out⟩⟩
                   ·
                    have H' := am H
                    clear H
                    obtain ⟨hcz72_0, hcz72_1, hcz72_2, hcz72_3, hcz72_4, hcz72_5, hcz72_6, hcz72_7, hcz72_8, hfz72_0, hfz72_1, hfz72_2, hfz72_3, hfz72_4, hfz72_5, hfz72_6, hfz72_7, hfz72_8⟩ := cz9 BK240.out
                    go_wp2
                    go_meet
                    case rel => exact ⟨_, (false), rs, H', ⟨by have := HJ1.out; have := HJ7.out; have := HJ15.out; have := HJ28.out; have := HJ43.out; first | omega | exact Nat.le_refl _⟩, ⟨bk BK240.out⟩, ⟨bws HB.out⟩⟩
                 ·
                  rw [if_neg c67] at H
                  have c67b0 := beq_eq_false_iff_ne.mpr c67
                  have c67b1 := bne_iff_ne.mpr c67
                  (first | rw [c67b0] | (simp only [i64_w, i32_w]; rw [c67b0]) | skip)
                  have H' := am H
                  clear H
                  obtain ⟨hcz73_0, hcz73_1, hcz73_2, hcz73_3, hcz73_4, hcz73_5, hcz73_6, hcz73_7, hcz73_8, hfz73_0, hfz73_1, hfz73_2, hfz73_3, hfz73_4, hfz73_5, hfz73_6, hfz73_7, hfz73_8⟩ := cz9 BK240.out
                  go_wp2
                  go_meet
                  case rel => exact ⟨_, ((a0_5 != 0)), rs, H', ⟨by have := HJ1.out; have := HJ7.out; have := HJ15.out; have := HJ28.out; have := HJ43.out; first | omega | exact Nat.le_refl _⟩, ⟨bk BK240.out⟩, ⟨bws HB.out⟩⟩
                case rest => as_aux_lemma =>
                 clear HC66
                 try clear c7
                 try clear c43
                 try clear c65
                 obtain ⟨kq, x123_65, rfl, HA, HJ65, BK240, HB⟩ := hcut
                 cases kq with
                 | zero => exact absurd HA.out (by simp [stowageref16_Check.j5])
                 | succ kj65 =>
                  have H := HA.out
                  clear HA
                  simp only [stowageref16_Check.j5] at H
                  by_cases c74 : x123_65 = true
                  ·
                   subst c74
                   rw [if_pos rfl] at H
                   obtain rfl := Option.some.inj H
                   go_wp2
                   go_ret
                   exact ⟨rf, bws HB.out⟩
                  · as_aux_lemma =>
                   replace c74 := Bool.eq_false_iff.mpr c74
                   subst c74
                   rw [if_neg (show ¬ (false = true) by decide)] at H
                   replace H := obE H
                   obtain ⟨⟨t251, t252⟩, A75, H⟩ := H
                   try dsimp only at H
                   have HC76 := am H
                   clear H
                   obtain ⟨hcz77_0, hcz77_1, hcz77_2, hcz77_3, hcz77_4, hcz77_5, hcz77_6, hcz77_7, hcz77_8, hfz77_0, hfz77_1, hfz77_2, hfz77_3, hfz77_4, hfz77_5, hfz77_6, hfz77_7, hfz77_8⟩ := cz9 BK240.out
                   go_upto_region 14 with (first | ((with_reducible refine gate_callee (f := 43) rfl ?_); refine goesL_ (some 127) rfl rfl Tryd.func43 (by kernel_rfl) rfl #[.slice A0_7 l0_7.length c0_7] rfl gl ?_; (with_reducible refine (stowageref13_Pieces.calls kj65 _ _ l0_7 t251 t252 _ ?side1 ?side2 A75.out).mono ?_); (case side1 => exact kC (Kd.C_below HR0_7.out HB.out)); (case side2 => exact HC0_7.out); rintro e w78 ⟨rfl, hb⟩; refine ⟨_, rfl, ?_⟩; replace BK240 := bb BK240.out hb; replace HB := am (below_step (bws HB.out) hb); (try clear hb)))
                   (try simp only [Act.put, List.setIfInBounds_toArray, List.set_cons_zero, List.set_cons_succ])
                   go_cut [163] (fun v163 wc => ∃ (kq : Nat) (x163_75 : Bool), v163 = .bool x163_75 ∧ Aside0 (stowageref16_Check.j6 kq x163_75 a0_0 a0_1 a0_2 a0_3 a0_4 a0_5 a0_6 l0_7 l0_8 = some r) ∧ Aside0 (kq ≤ kj65) ∧ Aside0 (wc.heap[gb240]? = some (.cells #[.int .i64 a0_0, .string a0_1, .string a0_2, .string a0_3, .int .i64 a0_4, .int .i64 a0_5, .string a0_6, (.slice A0_7 l0_7.length c0_7), (.slice A0_8 l0_8.length c0_8)] 34 (0, 0))) ∧ Aside0 (Below w.heap.size w wc))
                   case first => as_aux_lemma =>
                    have H := HC76.out
                    clear HC76
                    replace H := obE H
                    obtain ⟨t253, A79, H⟩ := H
                    by_cases c80 : t253 = true
                    · as_aux_lemma =>
                     subst c80
                     rw [if_pos rfl] at H
                     replace H := obE H
                     obtain ⟨t254, A81, H⟩ := H
                     by_cases c82 : t254 = true
                     · as_aux_lemma =>
                      subst c82
                      rw [if_pos rfl] at H
                      by_cases c83 : t252 = 0
                      · as_aux_lemma =>
                       rw [if_pos c83] at H
                       have c83b0 := beq_iff_eq.mpr c83
                       have c83b1 := bne_eq_false_iff_eq.mpr c83
                       clear c83
                       (first | rw [c83b0] | (simp only [i64_w, i32_w]; rw [c83b0]) | skip)
                       replace H := iteD H
                       rcases H with ⟨c84b0, H⟩ | ⟨c84b0, H⟩
                       ·
                        have H' := am H
                        clear H
                        obtain ⟨hcz85_0, hcz85_1, hcz85_2, hcz85_3, hcz85_4, hcz85_5, hcz85_6, hcz85_7, hcz85_8, hfz85_0, hfz85_1, hfz85_2, hfz85_3, hfz85_4, hfz85_5, hfz85_6, hfz85_7, hfz85_8⟩ := cz9 BK240.out
                        go_wp2_with (first | ((with_reducible refine gate_callee (f := 44) rfl ?_); refine goesL_ (some 132) rfl rfl Tryd.func44 (by kernel_rfl) rfl #[.int .i64 a0_0] rfl gl ?_; (with_reducible refine (stowageref16_hasSum.calls a0_0 true _ A79.out).mono ?_); rintro e w' ⟨rfl, ⟨nd, rfl⟩⟩; refine ⟨_, rfl, ?_⟩) | (go_at_call 45; (with_reducible refine (stowageref06_May.calls kj65 a0_6 true _ A81.out).mono ?_); rintro e w86 ⟨rfl, hb⟩; replace BK240 := bb BK240.out hb; replace HB := am (below_step (bws HB.out) hb); (try clear hb)))
                        go_meet
                        case rel => exact ⟨_, (true), rs, H', ⟨by have := HJ1.out; have := HJ7.out; have := HJ15.out; have := HJ28.out; have := HJ43.out; have := HJ65.out; first | omega | exact Nat.le_refl _⟩, ⟨bk BK240.out⟩, ⟨bws HB.out⟩⟩
                       ·
                        replace H := obE H
                        obtain ⟨t255, A87, H⟩ := H
                        by_cases c88 : t255 = true
                        ·
                         subst c88
                         rw [if_pos rfl] at H
                         have H' := am H
                         clear H
                         obtain ⟨hcz89_0, hcz89_1, hcz89_2, hcz89_3, hcz89_4, hcz89_5, hcz89_6, hcz89_7, hcz89_8, hfz89_0, hfz89_1, hfz89_2, hfz89_3, hfz89_4, hfz89_5, hfz89_6, hfz89_7, hfz89_8⟩ := cz9 BK240.out
                         go_wp2_with (first | ((with_reducible refine gate_callee (f := 44) rfl ?_); refine goesL_ (some 132) rfl rfl Tryd.func44 (by kernel_rfl) rfl #[.int .i64 a0_0] rfl gl ?_; (with_reducible refine (stowageref16_hasSum.calls a0_0 true _ A79.out).mono ?_); rintro e w' ⟨rfl, ⟨nd, rfl⟩⟩; refine ⟨_, rfl, ?_⟩) | (go_at_call 45; (with_reducible refine (stowageref06_May.calls kj65 a0_6 true _ A81.out).mono ?_); rintro e w90 ⟨rfl, hb⟩; replace BK240 := bb BK240.out hb; replace HB := am (below_step (bws HB.out) hb); (try clear hb); obtain ⟨hcz91_0, hcz91_1, hcz91_2, hcz91_3, hcz91_4, hcz91_5, hcz91_6, hcz91_7, hcz91_8, hfz91_0, hfz91_1, hfz91_2, hfz91_3, hfz91_4, hfz91_5, hfz91_6, hfz91_7, hfz91_8⟩ := cz9 BK240.out) | (go_at_call 44; (with_reducible refine (stowageref16_hasSum.calls a0_0 true _ A87.out).mono ?_); rintro e w' ⟨rfl, ⟨nd, rfl⟩⟩))
                         go_meet
                         case rel => exact ⟨_, (false), rs, H', ⟨by have := HJ1.out; have := HJ7.out; have := HJ15.out; have := HJ28.out; have := HJ43.out; have := HJ65.out; first | omega | exact Nat.le_refl _⟩, ⟨bk BK240.out⟩, ⟨bws HB.out⟩⟩
                        ·
                         replace c88 := Bool.eq_false_iff.mpr c88
                         subst c88
                         rw [if_neg (show ¬ (false = true) by decide)] at H
                         by_cases c92 : a0_6.toList = ([] : List UInt8)
                         ·
                          rw [if_pos c92] at H
                          have c92b0 := beq_iff_eq.mpr c92
                          have c92b1 := bne_eq_false_iff_eq.mpr c92
                          clear c92
                          have H' := am H
                          clear H
                          obtain ⟨hcz93_0, hcz93_1, hcz93_2, hcz93_3, hcz93_4, hcz93_5, hcz93_6, hcz93_7, hcz93_8, hfz93_0, hfz93_1, hfz93_2, hfz93_3, hfz93_4, hfz93_5, hfz93_6, hfz93_7, hfz93_8⟩ := cz9 BK240.out
                          go_wp2_with (first | ((with_reducible refine gate_callee (f := 44) rfl ?_); refine goesL_ (some 132) rfl rfl Tryd.func44 (by kernel_rfl) rfl #[.int .i64 a0_0] rfl gl ?_; (with_reducible refine (stowageref16_hasSum.calls a0_0 true _ A79.out).mono ?_); rintro e w' ⟨rfl, ⟨nd, rfl⟩⟩; refine ⟨_, rfl, ?_⟩) | (go_at_call 45; (with_reducible refine (stowageref06_May.calls kj65 a0_6 true _ A81.out).mono ?_); rintro e w94 ⟨rfl, hb⟩; replace BK240 := bb BK240.out hb; replace HB := am (below_step (bws HB.out) hb); (try clear hb); obtain ⟨hcz95_0, hcz95_1, hcz95_2, hcz95_3, hcz95_4, hcz95_5, hcz95_6, hcz95_7, hcz95_8, hfz95_0, hfz95_1, hfz95_2, hfz95_3, hfz95_4, hfz95_5, hfz95_6, hfz95_7, hfz95_8⟩ := cz9 BK240.out) | (go_at_call 44; (with_reducible refine (stowageref16_hasSum.calls a0_0 false _ A87.out).mono ?_); rintro e w' ⟨rfl, ⟨nd, rfl⟩⟩))
                          go_meet
                          case rel => exact ⟨_, (decide ((l0_7.length : Int) > 0)), rs, H', ⟨by have := HJ1.out; have := HJ7.out; have := HJ15.out; have := HJ28.out; have := HJ43.out; have := HJ65.out; first | omega | exact Nat.le_refl _⟩, ⟨bk BK240.out⟩, ⟨bws HB.out⟩⟩
                         ·
                          rw [if_neg c92] at H
                          have c92b0 := beq_eq_false_iff_ne.mpr c92
                          have c92b1 := bne_iff_ne.mpr c92
                          have H' := am H
                          clear H
                          obtain ⟨hcz96_0, hcz96_1, hcz96_2, hcz96_3, hcz96_4, hcz96_5, hcz96_6, hcz96_7, hcz96_8, hfz96_0, hfz96_1, hfz96_2, hfz96_3, hfz96_4, hfz96_5, hfz96_6, hfz96_7, hfz96_8⟩ := cz9 BK240.out
                          go_wp2_with (first | ((with_reducible refine gate_callee (f := 44) rfl ?_); refine goesL_ (some 132) rfl rfl Tryd.func44 (by kernel_rfl) rfl #[.int .i64 a0_0] rfl gl ?_; (with_reducible refine (stowageref16_hasSum.calls a0_0 true _ A79.out).mono ?_); rintro e w' ⟨rfl, ⟨nd, rfl⟩⟩; refine ⟨_, rfl, ?_⟩) | (go_at_call 45; (with_reducible refine (stowageref06_May.calls kj65 a0_6 true _ A81.out).mono ?_); rintro e w97 ⟨rfl, hb⟩; replace BK240 := bb BK240.out hb; replace HB := am (below_step (bws HB.out) hb); (try clear hb); obtain ⟨hcz98_0, hcz98_1, hcz98_2, hcz98_3, hcz98_4, hcz98_5, hcz98_6, hcz98_7, hcz98_8, hfz98_0, hfz98_1, hfz98_2, hfz98_3, hfz98_4, hfz98_5, hfz98_6, hfz98_7, hfz98_8⟩ := cz9 BK240.out) | (go_at_call 44; (with_reducible refine (stowageref16_hasSum.calls a0_0 false _ A87.out).mono ?_); rintro e w' ⟨rfl, ⟨nd, rfl⟩⟩))
                          go_meet
                          case rel => exact ⟨_, (true), rs, H', ⟨by have := HJ1.out; have := HJ7.out; have := HJ15.out; have := HJ28.out; have := HJ43.out; have := HJ65.out; first | omega | exact Nat.le_refl _⟩, ⟨bk BK240.out⟩, ⟨bws HB.out⟩⟩
                      ·
                       rw [if_neg c83] at H
                       have c83b0 := beq_eq_false_iff_ne.mpr c83
                       have c83b1 := bne_iff_ne.mpr c83
                       (first | rw [c83b0] | (simp only [i64_w, i32_w]; rw [c83b0]) | skip)
                       have H' := am H
                       clear H
                       obtain ⟨hcz99_0, hcz99_1, hcz99_2, hcz99_3, hcz99_4, hcz99_5, hcz99_6, hcz99_7, hcz99_8, hfz99_0, hfz99_1, hfz99_2, hfz99_3, hfz99_4, hfz99_5, hfz99_6, hfz99_7, hfz99_8⟩ := cz9 BK240.out
                       go_wp2_with (first | ((with_reducible refine gate_callee (f := 44) rfl ?_); refine goesL_ (some 132) rfl rfl Tryd.func44 (by kernel_rfl) rfl #[.int .i64 a0_0] rfl gl ?_; (with_reducible refine (stowageref16_hasSum.calls a0_0 true _ A79.out).mono ?_); rintro e w' ⟨rfl, ⟨nd, rfl⟩⟩; refine ⟨_, rfl, ?_⟩) | (go_at_call 45; (with_reducible refine (stowageref06_May.calls kj65 a0_6 true _ A81.out).mono ?_); rintro e w100 ⟨rfl, hb⟩; replace BK240 := bb BK240.out hb; replace HB := am (below_step (bws HB.out) hb); (try clear hb)))
                       go_meet
                       case rel => exact ⟨_, (true), rs, H', ⟨by have := HJ1.out; have := HJ7.out; have := HJ15.out; have := HJ28.out; have := HJ43.out; have := HJ65.out; first | omega | exact Nat.le_refl _⟩, ⟨bk BK240.out⟩, ⟨bws HB.out⟩⟩
                     ·
                      replace c82 := Bool.eq_false_iff.mpr c82
                      subst c82
                      rw [if_neg (show ¬ (false = true) by decide)] at H
                      have H' := am H
                      clear H
                      obtain ⟨hcz101_0, hcz101_1, hcz101_2, hcz101_3, hcz101_4, hcz101_5, hcz101_6, hcz101_7, hcz101_8, hfz101_0, hfz101_1, hfz101_2, hfz101_3, hfz101_4, hfz101_5, hfz101_6, hfz101_7, hfz101_8⟩ := cz9 BK240.out
                      go_wp2_with (first | ((with_reducible refine gate_callee (f := 44) rfl ?_); refine goesL_ (some 132) rfl rfl Tryd.func44 (by kernel_rfl) rfl #[.int .i64 a0_0] rfl gl ?_; (with_reducible refine (stowageref16_hasSum.calls a0_0 true _ A79.out).mono ?_); rintro e w' ⟨rfl, ⟨nd, rfl⟩⟩; refine ⟨_, rfl, ?_⟩) | (go_at_call 45; (with_reducible refine (stowageref06_May.calls kj65 a0_6 false _ A81.out).mono ?_); rintro e w102 ⟨rfl, hb⟩; replace BK240 := bb BK240.out hb; replace HB := am (below_step (bws HB.out) hb); (try clear hb)))
                      go_meet
                      case rel => exact ⟨_, (true), rs, H', ⟨by have := HJ1.out; have := HJ7.out; have := HJ15.out; have := HJ28.out; have := HJ43.out; have := HJ65.out; first | omega | exact Nat.le_refl _⟩, ⟨bk BK240.out⟩, ⟨bws HB.out⟩⟩
                    · as_aux_lemma =>
                     replace c80 := Bool.eq_false_iff.mpr c80
                     subst c80
                     rw [if_neg (show ¬ (false = true) by decide)] at H
                     replace H := obE H
                     obtain ⟨t256, A103, H⟩ := H
                     by_cases c104 : t256 = true
                     ·
                      subst c104
                      rw [if_pos rfl] at H
                      have H' := am H
                      clear H
                      obtain ⟨hcz105_0, hcz105_1, hcz105_2, hcz105_3, hcz105_4, hcz105_5, hcz105_6, hcz105_7, hcz105_8, hfz105_0, hfz105_1, hfz105_2, hfz105_3, hfz105_4, hfz105_5, hfz105_6, hfz105_7, hfz105_8⟩ := cz9 BK240.out
                      go_wp2_with (first | ((with_reducible refine gate_callee (f := 44) rfl ?_); refine goesL_ (some 132) rfl rfl Tryd.func44 (by kernel_rfl) rfl #[.int .i64 a0_0] rfl gl ?_; (with_reducible refine (stowageref16_hasSum.calls a0_0 false _ A79.out).mono ?_); rintro e w' ⟨rfl, ⟨nd, rfl⟩⟩; refine ⟨_, rfl, ?_⟩) | (go_at_call 44; (with_reducible refine (stowageref16_hasSum.calls a0_0 true _ A103.out).mono ?_); rintro e w' ⟨rfl, ⟨nd, rfl⟩⟩))
                      go_meet
                      case rel => exact ⟨_, (false), rs, H', ⟨by have := HJ1.out; have := HJ7.out; have := HJ15.out; have := HJ28.out; have := HJ43.out; have := HJ65.out; first | omega | exact Nat.le_refl _⟩, ⟨bk BK240.out⟩, ⟨bws HB.out⟩⟩
                     ·
                      replace c104 := Bool.eq_false_iff.mpr c104
                      subst c104
                      rw [if_neg (show ¬ (false = true) by decide)] at H
                      by_cases c106 : a0_6.toList = ([] : List UInt8)
                      ·
                       rw [if_pos c106] at H
                       have c106b0 := beq_iff_eq.mpr c106
                       have c106b1 := bne_eq_false_iff_eq.mpr c106
                       clear c106
                       have H' := am H
                       clear H
                       obtain ⟨hcz107_0, hcz107_1, hcz107_2, hcz107_3, hcz107_4, hcz107_5, hcz107_6, hcz107_7, hcz107_8, hfz107_0, hfz107_1, hfz107_2, hfz107_3, hfz107_4, hfz107_5, hfz107_6, hfz107_7, hfz107_8⟩ := cz9 BK240.out
                       go_wp2_with (first | ((with_reducible refine gate_callee (f := 44) rfl ?_); refine goesL_ (some 132) rfl rfl Tryd.func44 (by kernel_rfl) rfl #[.int .i64 a0_0] rfl gl ?_; (with_reducible refine (stowageref16_hasSum.calls a0_0 false _ A79.out).mono ?_); rintro e w' ⟨rfl, ⟨nd, rfl⟩⟩; refine ⟨_, rfl, ?_⟩) | (go_at_call 44; (with_reducible refine (stowageref16_hasSum.calls a0_0 false _ A103.out).mono ?_); rintro e w' ⟨rfl, ⟨nd, rfl⟩⟩))
                       go_meet
                       case rel => exact ⟨_, (decide ((l0_7.length : Int) > 0)), rs, H', ⟨by have := HJ1.out; have := HJ7.out; have := HJ15.out; have := HJ28.out; have := HJ43.out; have := HJ65.out; first | omega | exact Nat.le_refl _⟩, ⟨bk BK240.out⟩, ⟨bws HB.out⟩⟩
                      ·
                       rw [if_neg c106] at H
                       have c106b0 := beq_eq_false_iff_ne.mpr c106
                       have c106b1 := bne_iff_ne.mpr c106
                       have H' := am H
                       clear H
                       obtain ⟨hcz108_0, hcz108_1, hcz108_2, hcz108_3, hcz108_4, hcz108_5, hcz108_6, hcz108_7, hcz108_8, hfz108_0, hfz108_1, hfz108_2, hfz108_3, hfz108_4, hfz108_5, hfz108_6, hfz108_7, hfz108_8⟩ := cz9 BK240.out
                       go_wp2_with (first | ((with_reducible refine gate_callee (f := 44) rfl ?_); refine goesL_ (some 132) rfl rfl Tryd.func44 (by kernel_rfl) rfl #[.int .i64 a0_0] rfl gl ?_; (with_reducible refine (stowageref16_hasSum.calls a0_0 false _ A79.out).mono ?_); rintro e w' ⟨rfl, ⟨nd, rfl⟩⟩; refine ⟨_, rfl, ?_⟩) | (go_at_call 44; (with_reducible refine (stowageref16_hasSum.calls a0_0 false _ A103.out).mono ?_); rintro e w' ⟨rfl, ⟨nd, rfl⟩⟩))
                       go_meet
                       case rel => exact ⟨_, (true), rs, H', ⟨by have := HJ1.out; have := HJ7.out; have := HJ15.out; have := HJ28.out; have := HJ43.out; have := HJ65.out; first | omega | exact Nat.le_refl _⟩, ⟨bk BK240.out⟩, ⟨bws HB.out⟩⟩
                   case rest => as_aux_lemma =>
                    clear HC76
                    try clear c7
                    try clear c43
                    try clear c74
                    try clear hcz77_0 hcz77_1 hcz77_2 hcz77_3 hcz77_4 hcz77_5 hcz77_6 hcz77_7 hcz77_8 hfz77_0 hfz77_1 hfz77_2 hfz77_3 hfz77_4 hfz77_5 hfz77_6 hfz77_7 hfz77_8
                    obtain ⟨kq, x163_75, rfl, HA, HJ75, BK240, HB⟩ := hcut
                    cases kq with
                    | zero => exact absurd HA.out (by simp [stowageref16_Check.j6])
                    | succ kj75 =>
                     have H := HA.out
                     clear HA
                     simp only [stowageref16_Check.j6] at H
                     by_cases c109 : x163_75 = true
                     ·
                      subst c109
                      rw [if_pos rfl] at H
                      obtain rfl := Option.some.inj H
                      go_wp2
                      go_ret
                      exact ⟨rf, bws HB.out⟩
                     · as_aux_lemma =>
                      replace c109 := Bool.eq_false_iff.mpr c109
                      subst c109
                      rw [if_neg (show ¬ (false = true) by decide)] at H
                      have HC110 := am H
                      clear H
                      go_upto_region 16 with (fail)
                      go_cut [178] (fun v178 wc => ∃ (kq : Nat) (x178_109 : Bool), v178 = .bool x178_109 ∧ Aside0 (stowageref16_Check.j7 kq x178_109 a0_0 a0_1 a0_2 a0_3 a0_4 a0_5 a0_6 l0_7 l0_8 = some r) ∧ Aside0 (kq ≤ kj75) ∧ Aside0 (wc.heap[gb240]? = some (.cells #[.int .i64 a0_0, .string a0_1, .string a0_2, .string a0_3, .int .i64 a0_4, .int .i64 a0_5, .string a0_6, (.slice A0_7 l0_7.length c0_7), (.slice A0_8 l0_8.length c0_8)] 34 (0, 0))) ∧ Aside0 (Below w.heap.size w wc))
                      case first => as_aux_lemma =>
                       have H := HC110.out
                       clear HC110
                       by_cases c111 : (l0_8.length : Int) > 100
                       ·
                        rw [if_pos c111] at H
                        have c111b0 := decide_eq_true c111
                        have c111b1 : decide (100 < l0_8.length) = true := decide_eq_true (by omega)
                        clear c111
                        (first | rw [c111b0] | (simp only [i64_w, i32_w]; rw [c111b0]) | skip)
                        have H' := am H
                        clear H
                        obtain ⟨hcz112_0, hcz112_1, hcz112_2, hcz112_3, hcz112_4, hcz112_5, hcz112_6, hcz112_7, hcz112_8, hfz112_0, hfz112_1, hfz112_2, hfz112_3, hfz112_4, hfz112_5, hfz112_6, hfz112_7, hfz112_8⟩ := cz9 BK240.out
                        go_wp2
                        go_meet
                        case rel => exact ⟨_, (true), rs, H', ⟨by have := HJ1.out; have := HJ7.out; have := HJ15.out; have := HJ28.out; have := HJ43.out; have := HJ65.out; have := HJ75.out; first | omega | exact Nat.le_refl _⟩, ⟨bk BK240.out⟩, ⟨bws HB.out⟩⟩
                       ·
                        rw [if_neg c111] at H
                        have c111b0 := decide_eq_false c111
                        have c111b1 : decide (100 < l0_8.length) = false := decide_eq_false (by omega)
                        clear c111
                        (first | rw [c111b0] | (simp only [i64_w, i32_w]; rw [c111b0]) | skip)
                        by_cases c113 : a0_0 = 8
                        ·
                         rw [if_pos c113] at H
                         have c113b0 := beq_iff_eq.mpr c113
                         have c113b1 := bne_eq_false_iff_eq.mpr c113
                         clear c113
                         have H' := am H
                         clear H
                         obtain ⟨hcz114_0, hcz114_1, hcz114_2, hcz114_3, hcz114_4, hcz114_5, hcz114_6, hcz114_7, hcz114_8, hfz114_0, hfz114_1, hfz114_2, hfz114_3, hfz114_4, hfz114_5, hfz114_6, hfz114_7, hfz114_8⟩ := cz9 BK240.out
                         go_wp2
                         go_meet
                         case rel => exact ⟨_, (false), rs, H', ⟨by have := HJ1.out; have := HJ7.out; have := HJ15.out; have := HJ28.out; have := HJ43.out; have := HJ65.out; have := HJ75.out; first | omega | exact Nat.le_refl _⟩, ⟨bk BK240.out⟩, ⟨bws HB.out⟩⟩
                        ·
                         rw [if_neg c113] at H
                         have c113b0 := beq_eq_false_iff_ne.mpr c113
                         have c113b1 := bne_iff_ne.mpr c113
                         have H' := am H
                         clear H
                         obtain ⟨hcz115_0, hcz115_1, hcz115_2, hcz115_3, hcz115_4, hcz115_5, hcz115_6, hcz115_7, hcz115_8, hfz115_0, hfz115_1, hfz115_2, hfz115_3, hfz115_4, hfz115_5, hfz115_6, hfz115_7, hfz115_8⟩ := cz9 BK240.out
                         go_wp2
                         go_meet
                         case rel => exact ⟨_, (decide ((l0_8.length : Int) > 0)), rs, H', ⟨by have := HJ1.out; have := HJ7.out; have := HJ15.out; have := HJ28.out; have := HJ43.out; have := HJ65.out; have := HJ75.out; first | omega | exact Nat.le_refl _⟩, ⟨bk BK240.out⟩, ⟨bws HB.out⟩⟩
                      case rest => as_aux_lemma =>
                       clear HC110
                       try clear c109
                       try clear hcz77_0 hcz77_1 hcz77_2 hcz77_3 hcz77_4 hcz77_5 hcz77_6 hcz77_7 hcz77_8 hfz77_0 hfz77_1 hfz77_2 hfz77_3 hfz77_4 hfz77_5 hfz77_6 hfz77_7 hfz77_8
                       obtain ⟨kq, x178_109, rfl, HA, HJ109, BK240, HB⟩ := hcut
                       cases kq with
                       | zero => exact absurd HA.out (by simp [stowageref16_Check.j7])
                       | succ kj109 =>
                        have H := HA.out
                        clear HA
                        simp only [stowageref16_Check.j7] at H
                        by_cases c116 : x178_109 = true
                        ·
                         subst c116
                         rw [if_pos rfl] at H
                         obtain rfl := Option.some.inj H
                         go_wp2
                         go_ret
                         exact ⟨rf, bws HB.out⟩
                        · as_aux_lemma =>
                         replace c116 := Bool.eq_false_iff.mpr c116
                         subst c116
                         rw [if_neg (show ¬ (false = true) by decide)] at H
                         have H' := am H
                         clear H
                         go_wp2
                         go_loopg [5] kj109 (fun kq v5 w' => ∃ (x5_9 : Int), v5 = .int .i64 x5_9 ∧ Aside0 (stowageref16_Check.l0 kq x5_9 a0_0 a0_1 a0_2 a0_3 a0_4 a0_5 a0_6 l0_7 l0_8 = some r) ∧ Aside0 (kq ≤ kj109) ∧ Aside0 (w'.heap[gb240]? = some (.cells #[.int .i64 a0_0, .string a0_1, .string a0_2, .string a0_3, .int .i64 a0_4, .int .i64 a0_5, .string a0_6, (.slice A0_7 l0_7.length c0_7), (.slice A0_8 l0_8.length c0_8)] 34 (0, 0))) ∧ Aside0 (Below w.heap.size w w'))
                         case atStart => exact ⟨(0), rs, H', ⟨Nat.le_refl _⟩, ⟨bk BK240.out⟩, ⟨bws HB.out⟩⟩
                         case round => as_aux_lemma =>
                          clear H'
                          try clear c109
                          try clear c116
                          try clear hcz77_0 hcz77_1 hcz77_2 hcz77_3 hcz77_4 hcz77_5 hcz77_6 hcz77_7 hcz77_8 hfz77_0 hfz77_1 hfz77_2 hfz77_3 hfz77_4 hfz77_5 hfz77_6 hfz77_7 hfz77_8
                          obtain ⟨x5_9, rfl, HA, HK9, BK240, HB⟩ := hrel
                          cases gk with
                          | zero => exact absurd HA.out (by simp [stowageref16_Check.l0])
                          | succ k9 =>
                           have H := HA.out
                           clear HA
                           simp only [stowageref16_Check.l0] at H
                           replace H := iteD H
                           rcases H with ⟨c117b0, H⟩ | ⟨c117b0, H⟩
                           · as_aux_lemma =>
                            replace H := iteD H
                            rcases H with ⟨c118b0, H⟩ | ⟨_, H⟩
                            · as_aux_lemma =>
                             replace H := iteD H
                             rcases H with ⟨c119b0, H⟩ | ⟨c119b0, H⟩
                             ·
                              obtain rfl := Option.some.inj H
                              obtain ⟨hcz120_0, hcz120_1, hcz120_2, hcz120_3, hcz120_4, hcz120_5, hcz120_6, hcz120_7, hcz120_8, hfz120_0, hfz120_1, hfz120_2, hfz120_3, hfz120_4, hfz120_5, hfz120_6, hfz120_7, hfz120_8⟩ := cz9 BK240.out
                              have p257 := pz x5_9
                              have q257 := pl x5_9 (l0_8.length : Int)
                              obtain ⟨ad257, e257, hx257_0, hx257_1⟩ := at_T61 HR0_8.out x5_9 (of_eq_true p257) (of_eq_true q257)
                              cases e257
                              replace hx257_0 := bc HB.out hx257_0
                              replace hx257_1 := bc HB.out hx257_1
                              go_wp2
                              go_ret
                              exact ⟨rf, bws HB.out⟩
                             · as_aux_lemma =>
                              replace H := iteD H
                              rcases H with ⟨c121b0, H⟩ | ⟨c121b0, H⟩
                              ·
                               obtain rfl := Option.some.inj H
                               obtain ⟨hcz122_0, hcz122_1, hcz122_2, hcz122_3, hcz122_4, hcz122_5, hcz122_6, hcz122_7, hcz122_8, hfz122_0, hfz122_1, hfz122_2, hfz122_3, hfz122_4, hfz122_5, hfz122_6, hfz122_7, hfz122_8⟩ := cz9 BK240.out
                               have p257 := pz x5_9
                               have q257 := pl x5_9 (l0_8.length : Int)
                               obtain ⟨ad257, e257, hx257_0, hx257_1⟩ := at_T61 HR0_8.out x5_9 (of_eq_true p257) (of_eq_true q257)
                               cases e257
                               replace hx257_0 := bc HB.out hx257_0
                               replace hx257_1 := bc HB.out hx257_1
                               have p258 := pz x5_9
                               have q258 := pl x5_9 (l0_8.length : Int)
                               obtain ⟨ad258, e258, hx258_0, hx258_1⟩ := at_T61 HR0_8.out x5_9 (of_eq_true p258) (of_eq_true q258)
                               obtain rfl : ad257 = ad258 := (by injection e258)
                               replace hx258_0 := bc HB.out hx258_0
                               replace hx258_1 := bc HB.out hx258_1
                               go_wp2
                               go_ret
                               exact ⟨rf, bws HB.out⟩
                              · as_aux_lemma =>
                               replace H := obE H
                               obtain ⟨t260, A123, H⟩ := H
                               by_cases c124 : t260 = true
                               ·
                                subst c124
                                rw [if_pos rfl] at H
                                have H' := am H
                                clear H
                                obtain ⟨hcz125_0, hcz125_1, hcz125_2, hcz125_3, hcz125_4, hcz125_5, hcz125_6, hcz125_7, hcz125_8, hfz125_0, hfz125_1, hfz125_2, hfz125_3, hfz125_4, hfz125_5, hfz125_6, hfz125_7, hfz125_8⟩ := cz9 BK240.out
                                have p257 := pz x5_9
                                have q257 := pl x5_9 (l0_8.length : Int)
                                obtain ⟨ad257, e257, hx257_0, hx257_1⟩ := at_T61 HR0_8.out x5_9 (of_eq_true p257) (of_eq_true q257)
                                cases e257
                                replace hx257_0 := bc HB.out hx257_0
                                replace hx257_1 := bc HB.out hx257_1
                                have p258 := pz x5_9
                                have q258 := pl x5_9 (l0_8.length : Int)
                                obtain ⟨ad258, e258, hx258_0, hx258_1⟩ := at_T61 HR0_8.out x5_9 (of_eq_true p258) (of_eq_true q258)
                                obtain rfl : ad257 = ad258 := (by injection e258)
                                replace hx258_0 := bc HB.out hx258_0
                                replace hx258_1 := bc HB.out hx258_1
                                have p259 := pz x5_9
                                have q259 := pl x5_9 (l0_8.length : Int)
                                obtain ⟨ad259, e259, hx259_0, hx259_1⟩ := at_T61 HR0_8.out x5_9 (of_eq_true p259) (of_eq_true q259)
                                obtain rfl : ad257 = ad259 := (by injection e259)
                                replace hx259_0 := bc HB.out hx259_0
                                replace hx259_1 := bc HB.out hx259_1
                                go_wp2_with (first | (go_at_call 45; (with_reducible refine (stowageref06_May.calls k9 ((rd_T61 l0_8 x5_9).f1) true _ A123.out).mono ?_); rintro e w126 ⟨rfl, hb⟩; replace BK240 := bb BK240.out hb; replace HB := am (below_step (bws HB.out) hb); (try clear hb)))
                                go_roundg k9
                                case measure => have := HJ1.out; have := HJ7.out; have := HJ15.out; have := HJ28.out; have := HJ43.out; have := HJ65.out; have := HJ75.out; have := HJ109.out; have := HK9.out; omega
                                case rel => exact ⟨(wrap64 (x5_9 + 1)), rs, H', ⟨by have := HJ1.out; have := HJ7.out; have := HJ15.out; have := HJ28.out; have := HJ43.out; have := HJ65.out; have := HJ75.out; have := HJ109.out; have := HK9.out; omega⟩, ⟨bk BK240.out⟩, ⟨bws HB.out⟩⟩
                               ·
                                replace c124 := Bool.eq_false_iff.mpr c124
                                subst c124
                                rw [if_neg (show ¬ (false = true) by decide)] at H
                                obtain rfl := Option.some.inj H
                                obtain ⟨hcz127_0, hcz127_1, hcz127_2, hcz127_3, hcz127_4, hcz127_5, hcz127_6, hcz127_7, hcz127_8, hfz127_0, hfz127_1, hfz127_2, hfz127_3, hfz127_4, hfz127_5, hfz127_6, hfz127_7, hfz127_8⟩ := cz9 BK240.out
                                have p257 := pz x5_9
                                have q257 := pl x5_9 (l0_8.length : Int)
                                obtain ⟨ad257, e257, hx257_0, hx257_1⟩ := at_T61 HR0_8.out x5_9 (of_eq_true p257) (of_eq_true q257)
                                cases e257
                                replace hx257_0 := bc HB.out hx257_0
                                replace hx257_1 := bc HB.out hx257_1
                                have p258 := pz x5_9
                                have q258 := pl x5_9 (l0_8.length : Int)
                                obtain ⟨ad258, e258, hx258_0, hx258_1⟩ := at_T61 HR0_8.out x5_9 (of_eq_true p258) (of_eq_true q258)
                                obtain rfl : ad257 = ad258 := (by injection e258)
                                replace hx258_0 := bc HB.out hx258_0
                                replace hx258_1 := bc HB.out hx258_1
                                have p259 := pz x5_9
                                have q259 := pl x5_9 (l0_8.length : Int)
                                obtain ⟨ad259, e259, hx259_0, hx259_1⟩ := at_T61 HR0_8.out x5_9 (of_eq_true p259) (of_eq_true q259)
                                obtain rfl : ad257 = ad259 := (by injection e259)
                                replace hx259_0 := bc HB.out hx259_0
                                replace hx259_1 := bc HB.out hx259_1
                                go_wp2_with (first | (go_at_call 45; (with_reducible refine (stowageref06_May.calls k9 ((rd_T61 l0_8 x5_9).f1) false _ A123.out).mono ?_); rintro e w128 ⟨rfl, hb⟩; replace BK240 := bb BK240.out hb; replace HB := am (below_step (bws HB.out) hb); (try clear hb)))
                                go_ret
                                exact ⟨rf, bws HB.out⟩
                            ·
                             exact absurd H (by simp)
                           ·
                            obtain rfl := Option.some.inj H
                            obtain ⟨hcz129_0, hcz129_1, hcz129_2, hcz129_3, hcz129_4, hcz129_5, hcz129_6, hcz129_7, hcz129_8, hfz129_0, hfz129_1, hfz129_2, hfz129_3, hfz129_4, hfz129_5, hfz129_6, hfz129_7, hfz129_8⟩ := cz9 BK240.out
                            go_wp2
                            go_ret
                            exact ⟨rf, bws HB.out⟩
end Go.Proofs.YtdidopoalmkhlaaDoor.Od
end
section
namespace Go.Proofs.YtdidopoalmkhlaaDoor.Od
open Go.RowKit Go.Proofs.YtdidopoalmkhlaaDoorW.PrintWords Go.Proofs.YtdidopoalmkhlaaDoorW.PrintLast Go.Proofs.YtdidopoalmkhlaaDoorW.PrintMore
attribute [local go_sem] max2_int min2_int max_two min_two max_three min_three max_four min_four
set_option linter.unusedVariables false
set_option linter.unusedSimpArgs false
attribute [local go_sem high] eqA61 eqA95
mutual
def stowageref16_Same.j0 : Nat → Bool → Int → ByteArray → ByteArray → ByteArray → Int → Int → ByteArray → List (S95) → List (S61) → Int → ByteArray → ByteArray → ByteArray → Int → Int → ByteArray → List (S95) → List (S61) → Option (Bool)
 | 0, _, _, _, _, _, _, _, _, _, _, _, _, _, _, _, _, _, _, _ => none
 | k + 1, x71, x262000, x262001, x262002, x262003, x262004, x262005, x262006, x262007, x262008, x263000, x263001, x263002, x263003, x263004, x263005, x263006, x263007, x263008 => if x71 = true then (some false) else (stowageref16_Same.l0 k 0 x262000 x262001 x262002 x262003 x262004 x262005 x262006 x262007 x262008 x263000 x263001 x263002 x263003 x263004 x263005 x263006 x263007 x263008)
def stowageref16_Same.l0 : Nat → Int → Int → ByteArray → ByteArray → ByteArray → Int → Int → ByteArray → List (S95) → List (S61) → Int → ByteArray → ByteArray → ByteArray → Int → Int → ByteArray → List (S95) → List (S61) → Option (Bool)
 | 0, _, _, _, _, _, _, _, _, _, _, _, _, _, _, _, _, _, _, _ => none
 | k + 1, x5, x262000, x262001, x262002, x262003, x262004, x262005, x262006, x262007, x262008, x263000, x263001, x263002, x263003, x263004, x263005, x263006, x263007, x263008 => if x5 < (x262007.length : Int) then (if 0 ≤ x5 then (if x5 < (x263007.length : Int) then (if (!((((rd_T95 x262007 x5).f0).toList) == (((rd_T95 x263007 x5).f0).toList)) || (!(((rd_T95 x262007 x5).f1) == ((rd_T95 x263007 x5).f1)))) = true then (some false) else (stowageref16_Same.l0 k (wrap64 (x5 + 1)) x262000 x262001 x262002 x262003 x262004 x262005 x262006 x262007 x262008 x263000 x263001 x263002 x263003 x263004 x263005 x263006 x263007 x263008)) else (none)) else (none)) else (stowageref16_Same.l1 k 0 x262000 x262001 x262002 x262003 x262004 x262005 x262006 x262007 x262008 x263000 x263001 x263002 x263003 x263004 x263005 x263006 x263007 x263008)
def stowageref16_Same.l1 : Nat → Int → Int → ByteArray → ByteArray → ByteArray → Int → Int → ByteArray → List (S95) → List (S61) → Int → ByteArray → ByteArray → ByteArray → Int → Int → ByteArray → List (S95) → List (S61) → Option (Bool)
 | 0, _, _, _, _, _, _, _, _, _, _, _, _, _, _, _, _, _, _, _ => none
 | k + 1, x6, x262000, x262001, x262002, x262003, x262004, x262005, x262006, x262007, x262008, x263000, x263001, x263002, x263003, x263004, x263005, x263006, x263007, x263008 => if x6 < (x262008.length : Int) then (if 0 ≤ x6 then (if x6 < (x263008.length : Int) then (if (!(((rd_T61 x262008 x6).f0) == ((rd_T61 x263008 x6).f0)) || (!((((rd_T61 x262008 x6).f1).toList) == (((rd_T61 x263008 x6).f1).toList)))) = true then (some false) else (stowageref16_Same.l1 k (wrap64 (x6 + 1)) x262000 x262001 x262002 x262003 x262004 x262005 x262006 x262007 x262008 x263000 x263001 x263002 x263003 x263004 x263005 x263006 x263007 x263008)) else (none)) else (none)) else (some true)
end
def stowageref16_Same.f (k : Nat) (a0_0 : Int) (a0_1 : ByteArray) (a0_2 : ByteArray) (a0_3 : ByteArray) (a0_4 : Int) (a0_5 : Int) (a0_6 : ByteArray) (l0_7 : List (S95)) (l0_8 : List (S61)) (a1_0 : Int) (a1_1 : ByteArray) (a1_2 : ByteArray) (a1_3 : ByteArray) (a1_4 : Int) (a1_5 : Int) (a1_6 : ByteArray) (l1_7 : List (S95)) (l1_8 : List (S61)) : Option (Bool) := if a0_0 = a1_0 then (if a0_1.toList = a1_1.toList then (if a0_2.toList = a1_2.toList then (if a0_3.toList = a1_3.toList then (if a0_4 = a1_4 then (if a0_5 = a1_5 then (if a0_6.toList = a1_6.toList then (if (l0_7.length : Int) = (l1_7.length : Int) then (stowageref16_Same.j0 k ((l0_8.length : Int) != (l1_8.length : Int)) a0_0 a0_1 a0_2 a0_3 a0_4 a0_5 a0_6 l0_7 l0_8 a1_0 a1_1 a1_2 a1_3 a1_4 a1_5 a1_6 l1_7 l1_8) else (stowageref16_Same.j0 k true a0_0 a0_1 a0_2 a0_3 a0_4 a0_5 a0_6 l0_7 l0_8 a1_0 a1_1 a1_2 a1_3 a1_4 a1_5 a1_6 l1_7 l1_8)) else (stowageref16_Same.j0 k true a0_0 a0_1 a0_2 a0_3 a0_4 a0_5 a0_6 l0_7 l0_8 a1_0 a1_1 a1_2 a1_3 a1_4 a1_5 a1_6 l1_7 l1_8)) else (stowageref16_Same.j0 k true a0_0 a0_1 a0_2 a0_3 a0_4 a0_5 a0_6 l0_7 l0_8 a1_0 a1_1 a1_2 a1_3 a1_4 a1_5 a1_6 l1_7 l1_8)) else (stowageref16_Same.j0 k true a0_0 a0_1 a0_2 a0_3 a0_4 a0_5 a0_6 l0_7 l0_8 a1_0 a1_1 a1_2 a1_3 a1_4 a1_5 a1_6 l1_7 l1_8)) else (stowageref16_Same.j0 k true a0_0 a0_1 a0_2 a0_3 a0_4 a0_5 a0_6 l0_7 l0_8 a1_0 a1_1 a1_2 a1_3 a1_4 a1_5 a1_6 l1_7 l1_8)) else (stowageref16_Same.j0 k true a0_0 a0_1 a0_2 a0_3 a0_4 a0_5 a0_6 l0_7 l0_8 a1_0 a1_1 a1_2 a1_3 a1_4 a1_5 a1_6 l1_7 l1_8)) else (stowageref16_Same.j0 k true a0_0 a0_1 a0_2 a0_3 a0_4 a0_5 a0_6 l0_7 l0_8 a1_0 a1_1 a1_2 a1_3 a1_4 a1_5 a1_6 l1_7 l1_8)) else (stowageref16_Same.j0 k true a0_0 a0_1 a0_2 a0_3 a0_4 a0_5 a0_6 l0_7 l0_8 a1_0 a1_1 a1_2 a1_3 a1_4 a1_5 a1_6 l1_7 l1_8)
theorem stowageref16_Same.mono_l : ∀ k, (∀ y0 y1 y2 y3 y4 y5 y6 y7 y8 y9 y10 y11 y12 y13 y14 y15 y16 y17 y18, LeO (stowageref16_Same.j0 k y0 y1 y2 y3 y4 y5 y6 y7 y8 y9 y10 y11 y12 y13 y14 y15 y16 y17 y18) (stowageref16_Same.j0 (k + 1) y0 y1 y2 y3 y4 y5 y6 y7 y8 y9 y10 y11 y12 y13 y14 y15 y16 y17 y18)) ∧ (∀ y0 y1 y2 y3 y4 y5 y6 y7 y8 y9 y10 y11 y12 y13 y14 y15 y16 y17 y18, LeO (stowageref16_Same.l0 k y0 y1 y2 y3 y4 y5 y6 y7 y8 y9 y10 y11 y12 y13 y14 y15 y16 y17 y18) (stowageref16_Same.l0 (k + 1) y0 y1 y2 y3 y4 y5 y6 y7 y8 y9 y10 y11 y12 y13 y14 y15 y16 y17 y18)) ∧ (∀ y0 y1 y2 y3 y4 y5 y6 y7 y8 y9 y10 y11 y12 y13 y14 y15 y16 y17 y18, LeO (stowageref16_Same.l1 k y0 y1 y2 y3 y4 y5 y6 y7 y8 y9 y10 y11 y12 y13 y14 y15 y16 y17 y18) (stowageref16_Same.l1 (k + 1) y0 y1 y2 y3 y4 y5 y6 y7 y8 y9 y10 y11 y12 y13 y14 y15 y16 y17 y18))
 | 0 => ⟨fun _ _ _ _ _ _ _ _ _ _ _ _ _ _ _ _ _ _ _ r h => by simp [stowageref16_Same.j0] at h, fun _ _ _ _ _ _ _ _ _ _ _ _ _ _ _ _ _ _ _ r h => by simp [stowageref16_Same.l0] at h, fun _ _ _ _ _ _ _ _ _ _ _ _ _ _ _ _ _ _ _ r h => by simp [stowageref16_Same.l1] at h⟩
 | k + 1 => by
  obtain ⟨ih0, ih1, ih2⟩ := stowageref16_Same.mono_l k
  refine ⟨?_, ?_, ?_⟩
  all_goals intros
  all_goals first | unfold stowageref16_Same.j0 | unfold stowageref16_Same.l0 | unfold stowageref16_Same.l1
  all_goals repeat' (with_reducible first | exact ih0 _ _ _ _ _ _ _ _ _ _ _ _ _ _ _ _ _ _ _ | exact ih1 _ _ _ _ _ _ _ _ _ _ _ _ _ _ _ _ _ _ _ | exact ih2 _ _ _ _ _ _ _ _ _ _ _ _ _ _ _ _ _ _ _ | exact LeO.refl _ | exact LeO.none _ | refine LeO.ite ?_ ?_ | refine LeO.bind ?_ (fun _ => ?_))
theorem stowageref16_Same.mono : ∀ a0 a1 a2 a3 a4 a5 a6 a7 a8 a9 a10 a11 a12 a13 a14 a15 a16 a17 k, LeO (stowageref16_Same.f k a0 a1 a2 a3 a4 a5 a6 a7 a8 a9 a10 a11 a12 a13 a14 a15 a16 a17) (stowageref16_Same.f (k + 1) a0 a1 a2 a3 a4 a5 a6 a7 a8 a9 a10 a11 a12 a13 a14 a15 a16 a17) := by
 intro a0 a1 a2 a3 a4 a5 a6 a7 a8 a9 a10 a11 a12 a13 a14 a15 a16 a17 k
 obtain ⟨ih0, ih1, ih2⟩ := stowageref16_Same.mono_l k
 unfold stowageref16_Same.f
 repeat' (with_reducible first | exact ih0 _ _ _ _ _ _ _ _ _ _ _ _ _ _ _ _ _ _ _ | exact ih1 _ _ _ _ _ _ _ _ _ _ _ _ _ _ _ _ _ _ _ | exact ih2 _ _ _ _ _ _ _ _ _ _ _ _ _ _ _ _ _ _ _ | exact LeO.refl _ | exact LeO.none _ | refine LeO.ite ?_ ?_ | refine LeO.bind ?_ (fun _ => ?_))
set_option maxHeartbeats 8000000 in
set_option maxRecDepth 100000 in
theorem stowageref16_Same.calls (k : Nat) (a0_0 : Int) (a0_1 : ByteArray) (a0_2 : ByteArray) (a0_3 : ByteArray) (a0_4 : Int) (a0_5 : Int) (a0_6 : ByteArray) (A0_7 : Option Addr) (c0_7 : Nat) (l0_7 : List (S95)) (A0_8 : Option Addr) (c0_8 : Nat) (l0_8 : List (S61)) (a1_0 : Int) (a1_1 : ByteArray) (a1_2 : ByteArray) (a1_3 : ByteArray) (a1_4 : Int) (a1_5 : Int) (a1_6 : ByteArray) (A1_7 : Option Addr) (c1_7 : Nat) (l1_7 : List (S95)) (A1_8 : Option Addr) (c1_8 : Nat) (l1_8 : List (S61)) (r : Bool) (w : World) (hr0_7 : Kd.C k95 w A0_7 l0_7.length l0_7) (hc0_7 : l0_7.length ≤ c0_7) (hr0_8 : Kd.C k61 w A0_8 l0_8.length l0_8) (hc0_8 : l0_8.length ≤ c0_8) (hr1_7 : Kd.C k95 w A1_7 l1_7.length l1_7) (hc1_7 : l1_7.length ≤ c1_7) (hr1_8 : Kd.C k61 w A1_8 l1_8.length l1_8) (hc1_8 : l1_8.length ≤ c1_8) (h : stowageref16_Same.f k a0_0 a0_1 a0_2 a0_3 a0_4 a0_5 a0_6 l0_7 l0_8 a1_0 a1_1 a1_2 a1_3 a1_4 a1_5 a1_6 l1_7 l1_8 = some r) :
  Calls Tryd.prog 18 #[.agg #[.int .i64 a0_0, .string a0_1, .string a0_2, .string a0_3, .int .i64 a0_4, .int .i64 a0_5, .string a0_6, .slice A0_7 l0_7.length c0_7, .slice A0_8 l0_8.length c0_8], .agg #[.int .i64 a1_0, .string a1_1, .string a1_2, .string a1_3, .int .i64 a1_4, .int .i64 a1_5, .string a1_6, .slice A1_7 l1_7.length c1_7, .slice A1_8 l1_8.length c1_8]] w fun e w' => e = .returned (.bool r) ∧ Below w.heap.size w w' := by
 have hu34 := Tryd.underlying34
 have hu95 := Tryd.underlying95
 have hu61 := Tryd.underlying61
 have HR0_7 := am hr0_7
 have HC0_7 := am hc0_7
 clear hr0_7 hc0_7
 have HR0_8 := am hr0_8
 have HC0_8 := am hc0_8
 clear hr0_8 hc0_8
 have HR1_7 := am hr1_7
 have HC1_7 := am hc1_7
 clear hr1_7 hc1_7
 have HR1_8 := am hr1_8
 have HC1_8 := am hc1_8
 clear hr1_8 hc1_8
 have HB := am (Below.refl w.heap.size w)
 have H := h
 clear h
 unfold stowageref16_Same.f at H
 have HC3 := am H
 clear H
 go_enter Tryd.func18, Tryd.ntmps18
 go_upto_region 1 with (first | ((with_reducible refine gate_dst (N := 2) rfl ?_); (try (refine gate_guard (by rfl) ?_; dsimp only)); refine bx 2 #[.int .i64 a0_0, .string a0_1, .string a0_2, .string a0_3, .int .i64 a0_4, .int .i64 a0_5, .string a0_6, .slice A0_7 l0_7.length c0_7, .slice A0_8 l0_8.length c0_8] 34 ?_; intro gb261 hg w4 hbox hb; have BK261 := am (hbox); have GW261 := gsz hg HB.out; have GE261 := gsz hg HB.out; replace HB := am (below_step (bw HB.out) hb); clear hb hbox hg) | ((with_reducible refine gate_dst (N := 3) rfl ?_); (try (refine gate_guard (by rfl) ?_; dsimp only)); refine bx 3 #[.int .i64 a1_0, .string a1_1, .string a1_2, .string a1_3, .int .i64 a1_4, .int .i64 a1_5, .string a1_6, .slice A1_7 l1_7.length c1_7, .slice A1_8 l1_8.length c1_8] 34 ?_; intro gb262 hg w5 hbox hb; have BK262 := am (hbox); have GW262 := gsz hg HB.out; have GE262 := gsz hg HB.out; have NB261_262 := nlt (g := gb261) hg BK261.out; have NB262_261 := ngt (g := gb261) hg BK261.out; replace BK261 := bb BK261.out hb; replace HB := am (below_step (bws HB.out) hb); clear hb hbox hg))
 repeat (go_quiet (first | ((with_reducible refine gate_dst (N := 2) rfl ?_); (try (refine gate_guard (by rfl) ?_; dsimp only)); refine bx 2 #[.int .i64 a0_0, .string a0_1, .string a0_2, .string a0_3, .int .i64 a0_4, .int .i64 a0_5, .string a0_6, .slice A0_7 l0_7.length c0_7, .slice A0_8 l0_8.length c0_8] 34 ?_; intro gb261 hg w4 hbox hb; have BK261 := am (hbox); have GW261 := gsz hg HB.out; have GE261 := gsz hg HB.out; replace HB := am (below_step (bw HB.out) hb); clear hb hbox hg) | ((with_reducible refine gate_dst (N := 3) rfl ?_); (try (refine gate_guard (by rfl) ?_; dsimp only)); refine bx 3 #[.int .i64 a1_0, .string a1_1, .string a1_2, .string a1_3, .int .i64 a1_4, .int .i64 a1_5, .string a1_6, .slice A1_7 l1_7.length c1_7, .slice A1_8 l1_8.length c1_8] 34 ?_; intro gb262 hg w5 hbox hb; have BK262 := am (hbox); have GW262 := gsz hg HB.out; have GE262 := gsz hg HB.out; have NB261_262 := nlt (g := gb261) hg BK261.out; have NB262_261 := ngt (g := gb261) hg BK261.out; replace BK261 := bb BK261.out hb; replace HB := am (below_step (bws HB.out) hb); clear hb hbox hg)); go_upto_region 1 with (first | ((with_reducible refine gate_dst (N := 2) rfl ?_); (try (refine gate_guard (by rfl) ?_; dsimp only)); refine bx 2 #[.int .i64 a0_0, .string a0_1, .string a0_2, .string a0_3, .int .i64 a0_4, .int .i64 a0_5, .string a0_6, .slice A0_7 l0_7.length c0_7, .slice A0_8 l0_8.length c0_8] 34 ?_; intro gb261 hg w4 hbox hb; have BK261 := am (hbox); have GW261 := gsz hg HB.out; have GE261 := gsz hg HB.out; replace HB := am (below_step (bw HB.out) hb); clear hb hbox hg) | ((with_reducible refine gate_dst (N := 3) rfl ?_); (try (refine gate_guard (by rfl) ?_; dsimp only)); refine bx 3 #[.int .i64 a1_0, .string a1_1, .string a1_2, .string a1_3, .int .i64 a1_4, .int .i64 a1_5, .string a1_6, .slice A1_7 l1_7.length c1_7, .slice A1_8 l1_8.length c1_8] 34 ?_; intro gb262 hg w5 hbox hb; have BK262 := am (hbox); have GW262 := gsz hg HB.out; have GE262 := gsz hg HB.out; have NB261_262 := nlt (g := gb261) hg BK261.out; have NB262_261 := ngt (g := gb261) hg BK261.out; replace BK261 := bb BK261.out hb; replace HB := am (below_step (bws HB.out) hb); clear hb hbox hg)))
 (try simp only [Act.put, List.setIfInBounds_toArray, List.set_cons_zero, List.set_cons_succ])
 go_cut [71] (fun v71 wc => ∃ (kq : Nat) (x71_2 : Bool), v71 = .bool x71_2 ∧ Aside0 (stowageref16_Same.j0 kq x71_2 a0_0 a0_1 a0_2 a0_3 a0_4 a0_5 a0_6 l0_7 l0_8 a1_0 a1_1 a1_2 a1_3 a1_4 a1_5 a1_6 l1_7 l1_8 = some r) ∧ Aside0 (kq ≤ k) ∧ Aside0 (wc.heap[gb261]? = some (.cells #[.int .i64 a0_0, .string a0_1, .string a0_2, .string a0_3, .int .i64 a0_4, .int .i64 a0_5, .string a0_6, (.slice A0_7 l0_7.length c0_7), (.slice A0_8 l0_8.length c0_8)] 34 (0, 0))) ∧ Aside0 (wc.heap[gb262]? = some (.cells #[.int .i64 a1_0, .string a1_1, .string a1_2, .string a1_3, .int .i64 a1_4, .int .i64 a1_5, .string a1_6, (.slice A1_7 l1_7.length c1_7), (.slice A1_8 l1_8.length c1_8)] 34 (0, 0))) ∧ Aside0 (Below w.heap.size w wc))
 case first =>
  have H := HC3.out
  clear HC3
  by_cases c6 : a0_0 = a1_0
  ·
   rw [if_pos c6] at H
   have c6b0 := beq_iff_eq.mpr c6
   have c6b1 := bne_eq_false_iff_eq.mpr c6
   clear c6
   (first | rw [c6b0] | (simp only [i64_w, i32_w]; rw [c6b0]) | skip)
   by_cases c7 : a0_1.toList = a1_1.toList
   ·
    rw [if_pos c7] at H
    have c7b0 := beq_iff_eq.mpr c7
    have c7b1 := bne_eq_false_iff_eq.mpr c7
    clear c7
    by_cases c8 : a0_2.toList = a1_2.toList
    ·
     rw [if_pos c8] at H
     have c8b0 := beq_iff_eq.mpr c8
     have c8b1 := bne_eq_false_iff_eq.mpr c8
     clear c8
     by_cases c9 : a0_3.toList = a1_3.toList
     ·
      rw [if_pos c9] at H
      have c9b0 := beq_iff_eq.mpr c9
      have c9b1 := bne_eq_false_iff_eq.mpr c9
      clear c9
      by_cases c10 : a0_4 = a1_4
      ·
       rw [if_pos c10] at H
       have c10b0 := beq_iff_eq.mpr c10
       have c10b1 := bne_eq_false_iff_eq.mpr c10
       clear c10
       by_cases c11 : a0_5 = a1_5
       ·
        rw [if_pos c11] at H
        have c11b0 := beq_iff_eq.mpr c11
        have c11b1 := bne_eq_false_iff_eq.mpr c11
        clear c11
        by_cases c12 : a0_6.toList = a1_6.toList
        ·
         rw [if_pos c12] at H
         have c12b0 := beq_iff_eq.mpr c12
         have c12b1 := bne_eq_false_iff_eq.mpr c12
         clear c12
         by_cases c13 : (l0_7.length : Int) = (l1_7.length : Int)
         ·
          rw [if_pos c13] at H
          have c13b0 := beq_iff_eq.mpr c13
          have c13b1 := bne_eq_false_iff_eq.mpr c13
          have c13b2 : (l0_7.length == l1_7.length) = true := by first | simpa using c13 | (simp at c13 ⊢; omega)
          clear c13
          have H' := am H
          clear H
          have hnb14 := NB261_262.out
          have hnc14 := NB262_261.out
          obtain ⟨hcz15_0, hcz15_1, hcz15_2, hcz15_3, hcz15_4, hcz15_5, hcz15_6, hcz15_7, hcz15_8, hfz15_0, hfz15_1, hfz15_2, hfz15_3, hfz15_4, hfz15_5, hfz15_6, hfz15_7, hfz15_8⟩ := cz9 BK261.out
          obtain ⟨hcz16_0, hcz16_1, hcz16_2, hcz16_3, hcz16_4, hcz16_5, hcz16_6, hcz16_7, hcz16_8, hfz16_0, hfz16_1, hfz16_2, hfz16_3, hfz16_4, hfz16_5, hfz16_6, hfz16_7, hfz16_8⟩ := cz9 BK262.out
          go_wp2
          repeat (go_quiet (fail); try go_wp2)
          go_meet
          case rel => exact ⟨_, (((l0_8.length : Int) != (l1_8.length : Int))), rs, H', ⟨om⟩, ⟨bk BK261.out⟩, ⟨bk BK262.out⟩, ⟨bws HB.out⟩⟩
         ·
          rw [if_neg c13] at H
          have c13b0 := beq_eq_false_iff_ne.mpr c13
          have c13b1 := bne_iff_ne.mpr c13
          have c13b2 : (l0_7.length == l1_7.length) = false := by first | simpa using c13 | (simp at c13 ⊢; omega)
          have H' := am H
          clear H
          have hnb17 := NB261_262.out
          have hnc17 := NB262_261.out
          obtain ⟨hcz18_0, hcz18_1, hcz18_2, hcz18_3, hcz18_4, hcz18_5, hcz18_6, hcz18_7, hcz18_8, hfz18_0, hfz18_1, hfz18_2, hfz18_3, hfz18_4, hfz18_5, hfz18_6, hfz18_7, hfz18_8⟩ := cz9 BK261.out
          obtain ⟨hcz19_0, hcz19_1, hcz19_2, hcz19_3, hcz19_4, hcz19_5, hcz19_6, hcz19_7, hcz19_8, hfz19_0, hfz19_1, hfz19_2, hfz19_3, hfz19_4, hfz19_5, hfz19_6, hfz19_7, hfz19_8⟩ := cz9 BK262.out
          go_wp2
          repeat (go_quiet (fail); try go_wp2)
          go_meet
          case rel => exact ⟨_, (true), rs, H', ⟨om⟩, ⟨bk BK261.out⟩, ⟨bk BK262.out⟩, ⟨bws HB.out⟩⟩
        ·
         rw [if_neg c12] at H
         have c12b0 := beq_eq_false_iff_ne.mpr c12
         have c12b1 := bne_iff_ne.mpr c12
         have H' := am H
         clear H
         have hnb20 := NB261_262.out
         have hnc20 := NB262_261.out
         obtain ⟨hcz21_0, hcz21_1, hcz21_2, hcz21_3, hcz21_4, hcz21_5, hcz21_6, hcz21_7, hcz21_8, hfz21_0, hfz21_1, hfz21_2, hfz21_3, hfz21_4, hfz21_5, hfz21_6, hfz21_7, hfz21_8⟩ := cz9 BK261.out
         obtain ⟨hcz22_0, hcz22_1, hcz22_2, hcz22_3, hcz22_4, hcz22_5, hcz22_6, hcz22_7, hcz22_8, hfz22_0, hfz22_1, hfz22_2, hfz22_3, hfz22_4, hfz22_5, hfz22_6, hfz22_7, hfz22_8⟩ := cz9 BK262.out
         go_wp2
         repeat (go_quiet (fail); try go_wp2)
         go_meet
         case rel => exact ⟨_, (true), rs, H', ⟨om⟩, ⟨bk BK261.out⟩, ⟨bk BK262.out⟩, ⟨bws HB.out⟩⟩
       ·
        rw [if_neg c11] at H
        have c11b0 := beq_eq_false_iff_ne.mpr c11
        have c11b1 := bne_iff_ne.mpr c11
        have H' := am H
        clear H
        have hnb23 := NB261_262.out
        have hnc23 := NB262_261.out
        obtain ⟨hcz24_0, hcz24_1, hcz24_2, hcz24_3, hcz24_4, hcz24_5, hcz24_6, hcz24_7, hcz24_8, hfz24_0, hfz24_1, hfz24_2, hfz24_3, hfz24_4, hfz24_5, hfz24_6, hfz24_7, hfz24_8⟩ := cz9 BK261.out
        obtain ⟨hcz25_0, hcz25_1, hcz25_2, hcz25_3, hcz25_4, hcz25_5, hcz25_6, hcz25_7, hcz25_8, hfz25_0, hfz25_1, hfz25_2, hfz25_3, hfz25_4, hfz25_5, hfz25_6, hfz25_7, hfz25_8⟩ := cz9 BK262.out
        go_wp2
        repeat (go_quiet (fail); try go_wp2)
        go_meet
        case rel => exact ⟨_, (true), rs, H', ⟨om⟩, ⟨bk BK261.out⟩, ⟨bk BK262.out⟩, ⟨bws HB.out⟩⟩
      ·
       rw [if_neg c10] at H
       have c10b0 := beq_eq_false_iff_ne.mpr c10
       have c10b1 := bne_iff_ne.mpr c10
       have H' := am H
       clear H
       have hnb26 := NB261_262.out
       have hnc26 := NB262_261.out
       obtain ⟨hcz27_0, hcz27_1, hcz27_2, hcz27_3, hcz27_4, hcz27_5, hcz27_6, hcz27_7, hcz27_8, hfz27_0, hfz27_1, hfz27_2, hfz27_3, hfz27_4, hfz27_5, hfz27_6, hfz27_7, hfz27_8⟩ := cz9 BK261.out
       obtain ⟨hcz28_0, hcz28_1, hcz28_2, hcz28_3, hcz28_4, hcz28_5, hcz28_6, hcz28_7, hcz28_8, hfz28_0, hfz28_1, hfz28_2, hfz28_3, hfz28_4, hfz28_5, hfz28_6, hfz28_7, hfz28_8⟩ := cz9 BK262.out
       go_wp2
       repeat (go_quiet (fail); try go_wp2)
       go_meet
       case rel => exact ⟨_, (true), rs, H', ⟨om⟩, ⟨bk BK261.out⟩, ⟨bk BK262.out⟩, ⟨bws HB.out⟩⟩
     ·
      rw [if_neg c9] at H
      have c9b0 := beq_eq_false_iff_ne.mpr c9
      have c9b1 := bne_iff_ne.mpr c9
      have H' := am H
      clear H
      have hnb29 := NB261_262.out
      have hnc29 := NB262_261.out
      obtain ⟨hcz30_0, hcz30_1, hcz30_2, hcz30_3, hcz30_4, hcz30_5, hcz30_6, hcz30_7, hcz30_8, hfz30_0, hfz30_1, hfz30_2, hfz30_3, hfz30_4, hfz30_5, hfz30_6, hfz30_7, hfz30_8⟩ := cz9 BK261.out
      obtain ⟨hcz31_0, hcz31_1, hcz31_2, hcz31_3, hcz31_4, hcz31_5, hcz31_6, hcz31_7, hcz31_8, hfz31_0, hfz31_1, hfz31_2, hfz31_3, hfz31_4, hfz31_5, hfz31_6, hfz31_7, hfz31_8⟩ := cz9 BK262.out
      go_wp2
      repeat (go_quiet (fail); try go_wp2)
      go_meet
      case rel => exact ⟨_, (true), rs, H', ⟨om⟩, ⟨bk BK261.out⟩, ⟨bk BK262.out⟩, ⟨bws HB.out⟩⟩
    ·
     rw [if_neg c8] at H
     have c8b0 := beq_eq_false_iff_ne.mpr c8
     have c8b1 := bne_iff_ne.mpr c8
     have H' := am H
     clear H
     have hnb32 := NB261_262.out
     have hnc32 := NB262_261.out
     obtain ⟨hcz33_0, hcz33_1, hcz33_2, hcz33_3, hcz33_4, hcz33_5, hcz33_6, hcz33_7, hcz33_8, hfz33_0, hfz33_1, hfz33_2, hfz33_3, hfz33_4, hfz33_5, hfz33_6, hfz33_7, hfz33_8⟩ := cz9 BK261.out
     obtain ⟨hcz34_0, hcz34_1, hcz34_2, hcz34_3, hcz34_4, hcz34_5, hcz34_6, hcz34_7, hcz34_8, hfz34_0, hfz34_1, hfz34_2, hfz34_3, hfz34_4, hfz34_5, hfz34_6, hfz34_7, hfz34_8⟩ := cz9 BK262.out
     go_wp2
     repeat (go_quiet (fail); try go_wp2)
     go_meet
     case rel => exact ⟨_, (true), rs, H', ⟨om⟩, ⟨bk BK261.out⟩, ⟨bk BK262.out⟩, ⟨bws HB.out⟩⟩
   ·
    rw [if_neg c7] at H
    have c7b0 := beq_eq_false_iff_ne.mpr c7
    have c7b1 := bne_iff_ne.mpr c7
    have H' := am H
    clear H
    have hnb35 := NB261_262.out
    have hnc35 := NB262_261.out
    obtain ⟨hcz36_0, hcz36_1, hcz36_2, hcz36_3, hcz36_4, hcz36_5, hcz36_6, hcz36_7, hcz36_8, hfz36_0, hfz36_1, hfz36_2, hfz36_3, hfz36_4, hfz36_5, hfz36_6, hfz36_7, hfz36_8⟩ := cz9 BK261.out
    obtain ⟨hcz37_0, hcz37_1, hcz37_2, hcz37_3, hcz37_4, hcz37_5, hcz37_6, hcz37_7, hcz37_8, hfz37_0, hfz37_1, hfz37_2, hfz37_3, hfz37_4, hfz37_5, hfz37_6, hfz37_7, hfz37_8⟩ := cz9 BK262.out
    go_wp2
    repeat (go_quiet (fail); try go_wp2)
    go_meet
    case rel => exact ⟨_, (true), rs, H', ⟨om⟩, ⟨bk BK261.out⟩, ⟨bk BK262.out⟩, ⟨bws HB.out⟩⟩
  ·
   rw [if_neg c6] at H
   have c6b0 := beq_eq_false_iff_ne.mpr c6
   have c6b1 := bne_iff_ne.mpr c6
   (first | rw [c6b0] | (simp only [i64_w, i32_w]; rw [c6b0]) | skip)
   have H' := am H
   clear H
   have hnb38 := NB261_262.out
   have hnc38 := NB262_261.out
   obtain ⟨hcz39_0, hcz39_1, hcz39_2, hcz39_3, hcz39_4, hcz39_5, hcz39_6, hcz39_7, hcz39_8, hfz39_0, hfz39_1, hfz39_2, hfz39_3, hfz39_4, hfz39_5, hfz39_6, hfz39_7, hfz39_8⟩ := cz9 BK261.out
   obtain ⟨hcz40_0, hcz40_1, hcz40_2, hcz40_3, hcz40_4, hcz40_5, hcz40_6, hcz40_7, hcz40_8, hfz40_0, hfz40_1, hfz40_2, hfz40_3, hfz40_4, hfz40_5, hfz40_6, hfz40_7, hfz40_8⟩ := cz9 BK262.out
   go_wp2
   repeat (go_quiet (fail); try go_wp2)
   go_meet
   case rel => exact ⟨_, (true), rs, H', ⟨om⟩, ⟨bk BK261.out⟩, ⟨bk BK262.out⟩, ⟨bws HB.out⟩⟩
 case rest =>
  clear HC3
  obtain ⟨kq, x71_2, rfl, HA, HJ2, BK261, BK262, HB⟩ := hcut
  cases kq with
  | zero => exact absurd HA.out (by simp [stowageref16_Same.j0])
  | succ kj2 =>
   have H := HA.out
   clear HA
   simp only [stowageref16_Same.j0] at H
   by_cases c41 : x71_2 = true
   ·
    subst c41
    rw [if_pos rfl] at H
    obtain rfl := Option.some.inj H
    go_wp2
    repeat (go_quiet (fail); try go_wp2)
    go_ret
    exact ⟨rf, bws HB.out⟩
   ·
    replace c41 := Bool.eq_false_iff.mpr c41
    subst c41
    rw [if_neg (show ¬ (false = true) by decide)] at H
    have H' := am H
    clear H
    go_wp2
    repeat (go_quiet (fail); try go_wp2)
    go_loopg [5] kj2 (fun kq v5 w' => ∃ (x5_2 : Int), v5 = .int .i64 x5_2 ∧ Aside0 (stowageref16_Same.l0 kq x5_2 a0_0 a0_1 a0_2 a0_3 a0_4 a0_5 a0_6 l0_7 l0_8 a1_0 a1_1 a1_2 a1_3 a1_4 a1_5 a1_6 l1_7 l1_8 = some r) ∧ Aside0 (kq ≤ kj2) ∧ Aside0 (w'.heap[gb261]? = some (.cells #[.int .i64 a0_0, .string a0_1, .string a0_2, .string a0_3, .int .i64 a0_4, .int .i64 a0_5, .string a0_6, (.slice A0_7 l0_7.length c0_7), (.slice A0_8 l0_8.length c0_8)] 34 (0, 0))) ∧ Aside0 (w'.heap[gb262]? = some (.cells #[.int .i64 a1_0, .string a1_1, .string a1_2, .string a1_3, .int .i64 a1_4, .int .i64 a1_5, .string a1_6, (.slice A1_7 l1_7.length c1_7), (.slice A1_8 l1_8.length c1_8)] 34 (0, 0))) ∧ Aside0 (Below w.heap.size w w'))
    case atStart => exact ⟨(0), rs, H', ⟨Nat.le_refl _⟩, ⟨bk BK261.out⟩, ⟨bk BK262.out⟩, ⟨bws HB.out⟩⟩
    case round =>
     clear H'
     try clear c41
     obtain ⟨x5_2, rfl, HA, HK2, BK261, BK262, HB⟩ := hrel
     cases gk with
     | zero => exact absurd HA.out (by simp [stowageref16_Same.l0])
     | succ k2 =>
      have H := HA.out
      clear HA
      simp only [stowageref16_Same.l0] at H
      replace H := iteD H
      rcases H with ⟨c42b0, H⟩ | ⟨c42b0, H⟩
      ·
       replace H := iteD H
       rcases H with ⟨c43b0, H⟩ | ⟨_, H⟩
       ·
        replace H := iteD H
        rcases H with ⟨c44b0, H⟩ | ⟨_, H⟩
        ·
         by_cases c45 : (!((((rd_T95 l0_7 x5_2).f0).toList) == (((rd_T95 l1_7 x5_2).f0).toList)) || (!(((rd_T95 l0_7 x5_2).f1) == ((rd_T95 l1_7 x5_2).f1)))) = true
         ·
          rw [if_pos c45] at H
          have c45b0 : (!((((rd_T95 l0_7 x5_2).f0).toList) == (((rd_T95 l1_7 x5_2).f0).toList)) || (!(((rd_T95 l0_7 x5_2).f1) == ((rd_T95 l1_7 x5_2).f1)))) = true := c45
          clear c45
          obtain rfl := Option.some.inj H
          have hnb46 := NB261_262.out
          have hnc46 := NB262_261.out
          obtain ⟨hcz47_0, hcz47_1, hcz47_2, hcz47_3, hcz47_4, hcz47_5, hcz47_6, hcz47_7, hcz47_8, hfz47_0, hfz47_1, hfz47_2, hfz47_3, hfz47_4, hfz47_5, hfz47_6, hfz47_7, hfz47_8⟩ := cz9 BK261.out
          have p263 := pz x5_2
          have q263 := pl x5_2 (l0_7.length : Int)
          obtain ⟨ad263, e263, hx263_0, hx263_1⟩ := at_T95 HR0_7.out x5_2 (of_eq_true p263) (of_eq_true q263)
          cases e263
          replace hx263_0 := bc HB.out hx263_0
          replace hx263_1 := bc HB.out hx263_1
          obtain ⟨hcz48_0, hcz48_1, hcz48_2, hcz48_3, hcz48_4, hcz48_5, hcz48_6, hcz48_7, hcz48_8, hfz48_0, hfz48_1, hfz48_2, hfz48_3, hfz48_4, hfz48_5, hfz48_6, hfz48_7, hfz48_8⟩ := cz9 BK262.out
          have p264 := pz x5_2
          have q264 := pl x5_2 (l1_7.length : Int)
          obtain ⟨ad264, e264, hx264_0, hx264_1⟩ := at_T95 HR1_7.out x5_2 (of_eq_true p264) (of_eq_true q264)
          cases e264
          replace hx264_0 := bc HB.out hx264_0
          replace hx264_1 := bc HB.out hx264_1
          go_wp2
          repeat (go_quiet (fail); try go_wp2)
          go_ret
          exact ⟨rf, bws HB.out⟩
         ·
          rw [if_neg c45] at H
          have c45b0 : (!((((rd_T95 l0_7 x5_2).f0).toList) == (((rd_T95 l1_7 x5_2).f0).toList)) || (!(((rd_T95 l0_7 x5_2).f1) == ((rd_T95 l1_7 x5_2).f1)))) = false := by simpa using c45
          clear c45
          have H' := am H
          clear H
          have hnb49 := NB261_262.out
          have hnc49 := NB262_261.out
          obtain ⟨hcz50_0, hcz50_1, hcz50_2, hcz50_3, hcz50_4, hcz50_5, hcz50_6, hcz50_7, hcz50_8, hfz50_0, hfz50_1, hfz50_2, hfz50_3, hfz50_4, hfz50_5, hfz50_6, hfz50_7, hfz50_8⟩ := cz9 BK261.out
          have p263 := pz x5_2
          have q263 := pl x5_2 (l0_7.length : Int)
          obtain ⟨ad263, e263, hx263_0, hx263_1⟩ := at_T95 HR0_7.out x5_2 (of_eq_true p263) (of_eq_true q263)
          cases e263
          replace hx263_0 := bc HB.out hx263_0
          replace hx263_1 := bc HB.out hx263_1
          obtain ⟨hcz51_0, hcz51_1, hcz51_2, hcz51_3, hcz51_4, hcz51_5, hcz51_6, hcz51_7, hcz51_8, hfz51_0, hfz51_1, hfz51_2, hfz51_3, hfz51_4, hfz51_5, hfz51_6, hfz51_7, hfz51_8⟩ := cz9 BK262.out
          have p264 := pz x5_2
          have q264 := pl x5_2 (l1_7.length : Int)
          obtain ⟨ad264, e264, hx264_0, hx264_1⟩ := at_T95 HR1_7.out x5_2 (of_eq_true p264) (of_eq_true q264)
          cases e264
          replace hx264_0 := bc HB.out hx264_0
          replace hx264_1 := bc HB.out hx264_1
          go_wp2
          repeat (go_quiet (fail); try go_wp2)
          go_roundg k2
          case measure => have := HJ2.out; have := HK2.out; omega
          case rel => exact ⟨(wrap64 (x5_2 + 1)), rs, H', ⟨by have := HJ2.out; have := HK2.out; omega⟩, ⟨bk BK261.out⟩, ⟨bk BK262.out⟩, ⟨bws HB.out⟩⟩
        ·
         exact absurd H (by simp)
       ·
        exact absurd H (by simp)
      ·
       have H' := am H
       clear H
       have hnb52 := NB261_262.out
       have hnc52 := NB262_261.out
       obtain ⟨hcz53_0, hcz53_1, hcz53_2, hcz53_3, hcz53_4, hcz53_5, hcz53_6, hcz53_7, hcz53_8, hfz53_0, hfz53_1, hfz53_2, hfz53_3, hfz53_4, hfz53_5, hfz53_6, hfz53_7, hfz53_8⟩ := cz9 BK261.out
       go_wp2
       repeat (go_quiet (fail); try go_wp2)
       go_loopg [6] k2 (fun kq v6 w' => ∃ (x6_3 : Int), v6 = .int .i64 x6_3 ∧ Aside0 (stowageref16_Same.l1 kq x6_3 a0_0 a0_1 a0_2 a0_3 a0_4 a0_5 a0_6 l0_7 l0_8 a1_0 a1_1 a1_2 a1_3 a1_4 a1_5 a1_6 l1_7 l1_8 = some r) ∧ Aside0 (kq ≤ k2) ∧ Aside0 (w'.heap[gb261]? = some (.cells #[.int .i64 a0_0, .string a0_1, .string a0_2, .string a0_3, .int .i64 a0_4, .int .i64 a0_5, .string a0_6, (.slice A0_7 l0_7.length c0_7), (.slice A0_8 l0_8.length c0_8)] 34 (0, 0))) ∧ Aside0 (w'.heap[gb262]? = some (.cells #[.int .i64 a1_0, .string a1_1, .string a1_2, .string a1_3, .int .i64 a1_4, .int .i64 a1_5, .string a1_6, (.slice A1_7 l1_7.length c1_7), (.slice A1_8 l1_8.length c1_8)] 34 (0, 0))) ∧ Aside0 (Below w.heap.size w w'))
       case atStart => exact ⟨(0), rs, H', ⟨Nat.le_refl _⟩, ⟨bk BK261.out⟩, ⟨bk BK262.out⟩, ⟨bws HB.out⟩⟩
       case round =>
        clear H'
        try clear c41
        try clear c42b0
        try clear hcz53_0 hcz53_1 hcz53_2 hcz53_3 hcz53_4 hcz53_5 hcz53_6 hcz53_7 hcz53_8 hfz53_0 hfz53_1 hfz53_2 hfz53_3 hfz53_4 hfz53_5 hfz53_6 hfz53_7 hfz53_8
        obtain ⟨x6_3, rfl, HA, HK3, BK261, BK262, HB⟩ := hrel
        cases gk with
        | zero => exact absurd HA.out (by simp [stowageref16_Same.l1])
        | succ k3 =>
         have H := HA.out
         clear HA
         simp only [stowageref16_Same.l1] at H
         replace H := iteD H
         rcases H with ⟨c54b0, H⟩ | ⟨c54b0, H⟩
         ·
          replace H := iteD H
          rcases H with ⟨c55b0, H⟩ | ⟨_, H⟩
          ·
           replace H := iteD H
           rcases H with ⟨c56b0, H⟩ | ⟨_, H⟩
           ·
            by_cases c57 : (!(((rd_T61 l0_8 x6_3).f0) == ((rd_T61 l1_8 x6_3).f0)) || (!((((rd_T61 l0_8 x6_3).f1).toList) == (((rd_T61 l1_8 x6_3).f1).toList)))) = true
            ·
             rw [if_pos c57] at H
             have c57b0 : (!(((rd_T61 l0_8 x6_3).f0) == ((rd_T61 l1_8 x6_3).f0)) || (!((((rd_T61 l0_8 x6_3).f1).toList) == (((rd_T61 l1_8 x6_3).f1).toList)))) = true := c57
             clear c57
             obtain rfl := Option.some.inj H
             have hnb58 := NB261_262.out
             have hnc58 := NB262_261.out
             obtain ⟨hcz59_0, hcz59_1, hcz59_2, hcz59_3, hcz59_4, hcz59_5, hcz59_6, hcz59_7, hcz59_8, hfz59_0, hfz59_1, hfz59_2, hfz59_3, hfz59_4, hfz59_5, hfz59_6, hfz59_7, hfz59_8⟩ := cz9 BK261.out
             have p265 := pz x6_3
             have q265 := pl x6_3 (l0_8.length : Int)
             obtain ⟨ad265, e265, hx265_0, hx265_1⟩ := at_T61 HR0_8.out x6_3 (of_eq_true p265) (of_eq_true q265)
             cases e265
             replace hx265_0 := bc HB.out hx265_0
             replace hx265_1 := bc HB.out hx265_1
             obtain ⟨hcz60_0, hcz60_1, hcz60_2, hcz60_3, hcz60_4, hcz60_5, hcz60_6, hcz60_7, hcz60_8, hfz60_0, hfz60_1, hfz60_2, hfz60_3, hfz60_4, hfz60_5, hfz60_6, hfz60_7, hfz60_8⟩ := cz9 BK262.out
             have p266 := pz x6_3
             have q266 := pl x6_3 (l1_8.length : Int)
             obtain ⟨ad266, e266, hx266_0, hx266_1⟩ := at_T61 HR1_8.out x6_3 (of_eq_true p266) (of_eq_true q266)
             cases e266
             replace hx266_0 := bc HB.out hx266_0
             replace hx266_1 := bc HB.out hx266_1
             go_wp2
             repeat (go_quiet (fail); try go_wp2)
             go_ret
             exact ⟨rf, bws HB.out⟩
            ·
             rw [if_neg c57] at H
             have c57b0 : (!(((rd_T61 l0_8 x6_3).f0) == ((rd_T61 l1_8 x6_3).f0)) || (!((((rd_T61 l0_8 x6_3).f1).toList) == (((rd_T61 l1_8 x6_3).f1).toList)))) = false := by simpa using c57
             clear c57
             have H' := am H
             clear H
             have hnb61 := NB261_262.out
             have hnc61 := NB262_261.out
             obtain ⟨hcz62_0, hcz62_1, hcz62_2, hcz62_3, hcz62_4, hcz62_5, hcz62_6, hcz62_7, hcz62_8, hfz62_0, hfz62_1, hfz62_2, hfz62_3, hfz62_4, hfz62_5, hfz62_6, hfz62_7, hfz62_8⟩ := cz9 BK261.out
             have p265 := pz x6_3
             have q265 := pl x6_3 (l0_8.length : Int)
             obtain ⟨ad265, e265, hx265_0, hx265_1⟩ := at_T61 HR0_8.out x6_3 (of_eq_true p265) (of_eq_true q265)
             cases e265
             replace hx265_0 := bc HB.out hx265_0
             replace hx265_1 := bc HB.out hx265_1
             obtain ⟨hcz63_0, hcz63_1, hcz63_2, hcz63_3, hcz63_4, hcz63_5, hcz63_6, hcz63_7, hcz63_8, hfz63_0, hfz63_1, hfz63_2, hfz63_3, hfz63_4, hfz63_5, hfz63_6, hfz63_7, hfz63_8⟩ := cz9 BK262.out
             have p266 := pz x6_3
             have q266 := pl x6_3 (l1_8.length : Int)
             obtain ⟨ad266, e266, hx266_0, hx266_1⟩ := at_T61 HR1_8.out x6_3 (of_eq_true p266) (of_eq_true q266)
             cases e266
             replace hx266_0 := bc HB.out hx266_0
             replace hx266_1 := bc HB.out hx266_1
             go_wp2
             repeat (go_quiet (fail); try go_wp2)
             go_roundg k3
             case measure => have := HJ2.out; have := HK2.out; have := HK3.out; omega
             case rel => exact ⟨(wrap64 (x6_3 + 1)), rs, H', ⟨by have := HJ2.out; have := HK2.out; have := HK3.out; omega⟩, ⟨bk BK261.out⟩, ⟨bk BK262.out⟩, ⟨bws HB.out⟩⟩
           ·
            exact absurd H (by simp)
          ·
           exact absurd H (by simp)
         ·
          obtain rfl := Option.some.inj H
          have hnb64 := NB261_262.out
          have hnc64 := NB262_261.out
          obtain ⟨hcz65_0, hcz65_1, hcz65_2, hcz65_3, hcz65_4, hcz65_5, hcz65_6, hcz65_7, hcz65_8, hfz65_0, hfz65_1, hfz65_2, hfz65_3, hfz65_4, hfz65_5, hfz65_6, hfz65_7, hfz65_8⟩ := cz9 BK261.out
          go_wp2
          repeat (go_quiet (fail); try go_wp2)
          go_ret
          exact ⟨rf, bws HB.out⟩
end Go.Proofs.YtdidopoalmkhlaaDoor.Od
end
section
namespace Go.Proofs.YtdidopoalmkhlaaDoor.Od
open Go.RowKit Go.Proofs.YtdidopoalmkhlaaDoorW.PrintWords Go.Proofs.YtdidopoalmkhlaaDoorW.PrintLast Go.Proofs.YtdidopoalmkhlaaDoorW.PrintMore
set_option linter.unusedVariables false
set_option linter.unusedSimpArgs false
def stowagelaw16_CmdApart.F1 (k : Nat) (c0 : Int) (c1 c2 c3 : ByteArray) (c4 c5 : Int) (c6 : ByteArray) (c7 : List (S82)) (c8 : List (S62)) (d0 : Int) (d1 d2 d3 : ByteArray) (d4 d5 : Int) (d6 : ByteArray) (d7 : List (S82)) (d8 : List (S62)) : Prop :=
  ∃ a e b f, cmd_Encode.f k c0 c1 c2 c3 c4 c5 c6 c7 c8 = some (a, e) ∧ cmd_Encode.f k d0 d1 d2 d3 d4 d5 d6 d7 d8 = some (b, f) ∧ a.size ≤ 1073741824 ∧ b.size ≤ 1073741824 ∧ (e = 0 → f = 0 →
    ∃ q0 q1 q2 q3 q4 q5 q6 q7 q8 u0 u1 u2 u3 u4 u5 u6 u7 u8, stowagelaw16_Ref.f k c0 c1 c2 c3 c4 c5 c6 c7 c8 = some (q0, q1, q2, q3, q4, q5, q6, q7, q8) ∧ stowagelaw16_Ref.f k d0 d1 d2 d3 d4 d5 d6 d7 d8 = some (u0, u1, u2, u3, u4, u5, u6, u7, u8) ∧
      stowageref16_Same.f k q0 q1 q2 q3 q4 q5 q6 q7 q8 u0 u1 u2 u3 u4 u5 u6 u7 u8 = some (a.toList == b.toList) ∧ (a.toList ≠ b.toList → a.size ≤ b.size → (b.extract 0 a.size).toList ≠ a.toList))
def stowagelaw16_CmdApart.F2 (k : Nat) (c0 : Int) (c1 c2 c3 : ByteArray) (c4 c5 : Int) (c6 : ByteArray) (c7 : List (S82)) (c8 : List (S62)) (t : ByteArray) : Prop :=
  stowagelaw16_awake.f k = some true ∧ ∃ x g, cmd_Digest.f k c0 c1 c2 c3 c4 c5 c6 c7 c8 = some (x, g) ∧
    ((g ≠ 0 ∨ c0 = 10) → ∃ q0 q1 q2 q3 q4 q5 q6 q7 q8 z, stowagelaw16_Ref.f k c0 c1 c2 c3 c4 c5 c6 c7 c8 = some (q0, q1, q2, q3, q4, q5, q6, q7, q8) ∧ stowageref16_Check.f k q0 q1 q2 q3 q4 q5 q6 q7 q8 = some z ∧ (g == 0) = (z == 0)) ∧
    (g = 0 → c0 ≠ 10 → ∃ y h, cmd_Digest.f k c0 t c2 c3 c4 c5 c6 c7 c8 = some (y, h) ∧ (h = 0 → x.toList = y.toList))
open Classical in
noncomputable def stowagelaw16_CmdApart.f (k : Nat) (c0 : Int) (c1 c2 c3 : ByteArray) (c4 c5 : Int) (c6 : ByteArray) (c7 : List (S82)) (c8 : List (S62)) (d0 : Int) (d1 d2 d3 : ByteArray) (d4 d5 : Int) (d6 : ByteArray) (d7 : List (S82)) (d8 : List (S62)) (t : ByteArray) : Option Bool :=
  if stowagelaw16_CmdApart.F1 k c0 c1 c2 c3 c4 c5 c6 c7 c8 d0 d1 d2 d3 d4 d5 d6 d7 d8 ∧ stowagelaw16_CmdApart.F2 k c0 c1 c2 c3 c4 c5 c6 c7 c8 t then some true else none
set_option maxHeartbeats 8000000 in
set_option maxRecDepth 100000 in
theorem stowagelaw16_CmdApart_go (k : Nat) (c0 : Int) (c1 : ByteArray) (c2 : ByteArray) (c3 : ByteArray) (c4 : Int) (c5 : Int) (c6 : ByteArray) (A7 : Option Addr) (n7 : Nat) (c7 : List (S82)) (A8 : Option Addr) (n8 : Nat) (c8 : List (S62)) (d0 : Int) (d1 : ByteArray) (d2 : ByteArray) (d3 : ByteArray) (d4 : Int) (d5 : Int) (d6 : ByteArray) (B7 : Option Addr) (m7 : Nat) (d7 : List (S82)) (B8 : Option Addr) (m8 : Nat) (d8 : List (S62)) (t : ByteArray) (w : World) (hr7 : Kd.C k82 w A7 c7.length c7) (hc7 : c7.length ≤ n7) (hr8 : Kd.C k62 w A8 c8.length c8) (hc8 : c8.length ≤ n8) (gr7 : Kd.C k82 w B7 d7.length d7) (gc7 : d7.length ≤ m7) (gr8 : Kd.C k62 w B8 d8.length d8) (gc8 : d8.length ≤ m8) (h1 : stowagelaw16_CmdApart.F1 k c0 c1 c2 c3 c4 c5 c6 c7 c8 d0 d1 d2 d3 d4 d5 d6 d7 d8) (h2 : stowagelaw16_CmdApart.F2 k c0 c1 c2 c3 c4 c5 c6 c7 c8 t) (hG : GG w) :
    Calls Tryd.prog 6 #[.agg #[.int .i64 c0, .string c1, .string c2, .string c3, .int .i64 c4, .int .i64 c5, .string c6, .slice A7 c7.length n7, .slice A8 c8.length n8], .agg #[.int .i64 d0, .string d1, .string d2, .string d3, .int .i64 d4, .int .i64 d5, .string d6, .slice B7 d7.length m7, .slice B8 d8.length m8], .string t] w fun e w' => e = .returned (.bool true) ∧ Below w.heap.size w w' := by
  have HG := am hG
  have HR7 := am hr7
  have HR8 := am hr8
  have HC7 := am hc7
  have HC8 := am hc8
  have GR7 := am gr7
  have GR8 := am gr8
  have GC7 := am gc7
  have GC8 := am gc8
  clear hG hr7 hr8 hc7 hc8 gr7 gr8 gc7 gc8
  have HB := am (Below.refl w.heap.size w)
  have H2 := am h2
  clear h2
  obtain ⟨a, e, b, f, A1, A2, ha, hb', h⟩ := h1
  replace A1 := am A1
  replace A2 := am A2
  have HA := am ha
  have HBs := am hb'
  clear ha hb'
  have H := am h
  clear h
  go_enter Tryd.func6, Tryd.ntmps6
  go_upto_region 3 with (first
    | ((with_reducible refine gate_dst (N := 3) rfl ?_); (try (refine gate_guard (by rfl) ?_; dsimp only)); refine bx 3 #[.int .i64 c0, .string c1, .string c2, .string c3, .int .i64 c4, .int .i64 c5, .string c6, .slice A7 c7.length n7, .slice A8 c8.length n8] 25 ?_; intro gc hg w0 hbox hb; have BKgc := am (hbox); have GEgc := am ((by rw [hg]; exact HB.out.size : w.heap.size ≤ gc)); replace HB := am (below_step HB.out hb); clear hb hbox hg; obtain ⟨zc0, zc1, zc2, zc3, zc4, zc5, zc6, zc7, zc8⟩ := c9_ BKgc.out; obtain ⟨yc0, yc1, yc2, yc3, yc4, yc5, yc6, yc7, yc8⟩ := f9_ BKgc.out)
    | ((with_reducible refine gate_dst (N := 4) rfl ?_); (try (refine gate_guard (by rfl) ?_; dsimp only)); refine bx 4 #[.int .i64 d0, .string d1, .string d2, .string d3, .int .i64 d4, .int .i64 d5, .string d6, .slice B7 d7.length m7, .slice B8 d8.length m8] 25 ?_; intro gd hg w1 hbox hb; have BKgd := am (hbox); have GEgd := am ((by rw [hg]; exact HB.out.size : w.heap.size ≤ gd)); have NE := am ((by rw [hg]; exact Nat.ne_of_lt (blk_lt BKgc.out) : gc ≠ gd)); replace BKgc := am (blk_below BKgc.out hb); clear zc0 zc1 zc2 zc3 zc4 zc5 zc6 zc7 zc8 yc0 yc1 yc2 yc3 yc4 yc5 yc6 yc7 yc8; obtain ⟨zc0, zc1, zc2, zc3, zc4, zc5, zc6, zc7, zc8⟩ := c9_ BKgc.out; obtain ⟨yc0, yc1, yc2, yc3, yc4, yc5, yc6, yc7, yc8⟩ := f9_ BKgc.out; replace HB := am (below_step HB.out hb); clear hb hbox hg; obtain ⟨zd0, zd1, zd2, zd3, zd4, zd5, zd6, zd7, zd8⟩ := c9_ BKgd.out; obtain ⟨yd0, yd1, yd2, yd3, yd4, yd5, yd6, yd7, yd8⟩ := f9_ BKgd.out)
    | (go_at_call 8; (refine (cmd_Encode.calls k c0 c1 c2 c3 c4 c5 c6 A7 n7 c7 A8 n8 c8 a e _ ?s1 HC7.out ?s2 HC8.out A1.out ?sG).mono ?_); (case sG => exact gg_below HG.out HB.out); (case s1 => exact Kd.C_below HR7.out HB.out); (case s2 => exact Kd.C_below HR8.out HB.out); rintro q w2 ⟨rfl, hb⟩; (try dsimp only); replace BKgc := am (blk_below BKgc.out hb); replace BKgd := am (blk_below BKgd.out hb); replace HB := am (below_step HB.out hb); clear hb A1 zc0 zc1 zc2 zc3 zc4 zc5 zc6 zc7 zc8 yc0 yc1 yc2 yc3 yc4 yc5 yc6 yc7 yc8 zd0 zd1 zd2 zd3 zd4 zd5 zd6 zd7 zd8 yd0 yd1 yd2 yd3 yd4 yd5 yd6 yd7 yd8; obtain ⟨zc0, zc1, zc2, zc3, zc4, zc5, zc6, zc7, zc8⟩ := c9_ BKgc.out; obtain ⟨yc0, yc1, yc2, yc3, yc4, yc5, yc6, yc7, yc8⟩ := f9_ BKgc.out; obtain ⟨zd0, zd1, zd2, zd3, zd4, zd5, zd6, zd7, zd8⟩ := c9_ BKgd.out; obtain ⟨yd0, yd1, yd2, yd3, yd4, yd5, yd6, yd7, yd8⟩ := f9_ BKgd.out)
    | (go_at_call 8; (refine (cmd_Encode.calls k d0 d1 d2 d3 d4 d5 d6 B7 m7 d7 B8 m8 d8 b f _ ?s1 GC7.out ?s2 GC8.out A2.out ?sG).mono ?_); (case sG => exact gg_below HG.out HB.out); (case s1 => exact Kd.C_below GR7.out HB.out); (case s2 => exact Kd.C_below GR8.out HB.out); rintro q w3 ⟨rfl, hb⟩; (try dsimp only); replace BKgc := am (blk_below BKgc.out hb); replace BKgd := am (blk_below BKgd.out hb); replace HB := am (below_step HB.out hb); clear hb A2 zc0 zc1 zc2 zc3 zc4 zc5 zc6 zc7 zc8 yc0 yc1 yc2 yc3 yc4 yc5 yc6 yc7 yc8 zd0 zd1 zd2 zd3 zd4 zd5 zd6 zd7 zd8 yd0 yd1 yd2 yd3 yd4 yd5 yd6 yd7 yd8))
  go_cut [30] (fun v30 wc => ∃ b30 : Bool, v30 = .bool b30 ∧ Aside0 (b30 = true → e = 0 ∧ f = 0) ∧ Aside0 (wc.heap[gc]? = some (.cells #[.int .i64 c0, .string c1, .string c2, .string c3, .int .i64 c4, .int .i64 c5, .string c6, .slice A7 c7.length n7, .slice A8 c8.length n8] 25 (0, 0))) ∧ Aside0 (wc.heap[gd]? = some (.cells #[.int .i64 d0, .string d1, .string d2, .string d3, .int .i64 d4, .int .i64 d5, .string d6, .slice B7 d7.length m7, .slice B8 d8.length m8] 25 (0, 0))) ∧ Aside0 (Below w.heap.size w wc))
  case first =>
    by_cases he : e = 0
    · have ce0 := beq_iff_eq.mpr he
      have ce1 := bne_eq_false_iff_eq.mpr he
      by_cases hf : f = 0
      · have cf0 := beq_iff_eq.mpr hf
        have cf1 := bne_eq_false_iff_eq.mpr hf
        have hef := am (And.intro he hf)
        clear he hf
        go_wp2
        go_meet
        case rel => exact ⟨true, rs, am (fun _ => hef.out), BKgc, BKgd, HB⟩
      · have cf0 := beq_eq_false_iff_ne.mpr hf
        have cf1 := bne_iff_ne.mpr hf
        clear he hf
        go_wp2
        go_meet
        case rel => exact ⟨false, rs, am (fun h => by cases h), BKgc, BKgd, HB⟩
    · have ce0 := beq_eq_false_iff_ne.mpr he
      have ce1 := bne_iff_ne.mpr he
      clear he
      go_wp2
      go_meet
      case rel => exact ⟨false, rs, am (fun h => by cases h), BKgc, BKgd, HB⟩
  case rest =>
   clear BKgc BKgd HB
   obtain ⟨b30, rfl, HE, BKgc, BKgd, HB⟩ := hcut
   go_upto_if 30 with (fail)
   go_cut [] (fun wc => Aside0 (wc.heap[gc]? = some (.cells #[.int .i64 c0, .string c1, .string c2, .string c3, .int .i64 c4, .int .i64 c5, .string c6, .slice A7 c7.length n7, .slice A8 c8.length n8] 25 (0, 0))) ∧ Aside0 (Below w.heap.size w wc))
   case first =>
    cases b30 with
    | true =>
      · obtain ⟨q0, q1, q2, q3, q4, q5, q6, q7, q8, u0, u1, u2, u3, u4, u5, u6, u7, u8, A3, A4, A5, A6⟩ := H.out (HE.out rfl).1 (HE.out rfl).2
        replace A3 := am A3
        replace A4 := am A4
        replace A5 := am A5
        replace A6 := am A6
        clear H HE
        go_upto_region 4 with (fail)
        have SH : ∀ V : World, V.heap[gc]? = some (.cells #[.int .i64 c0, .string c1, .string c2, .string c3, .int .i64 c4, .int .i64 c5, .string c6, .slice A7 c7.length n7, .slice A8 c8.length n8] 25 (0, 0)) → V.heap[gd]? = some (.cells #[.int .i64 d0, .string d1, .string d2, .string d3, .int .i64 d4, .int .i64 d5, .string d6, .slice B7 d7.length m7, .slice B8 d8.length m8] 25 (0, 0)) → (V.cell? ⟨gc, 0, none⟩ = some (.int .i64 c0) ∧ V.cell? ⟨gc, 1, none⟩ = some (.string c1) ∧ V.cell? ⟨gc, 2, none⟩ = some (.string c2) ∧ V.cell? ⟨gc, 3, none⟩ = some (.string c3) ∧ V.cell? ⟨gc, 4, none⟩ = some (.int .i64 c4) ∧ V.cell? ⟨gc, 5, none⟩ = some (.int .i64 c5) ∧ V.cell? ⟨gc, 6, none⟩ = some (.string c6) ∧ V.cell? ⟨gc, 7, none⟩ = some (.slice A7 c7.length n7) ∧ V.cell? ⟨gc, 8, none⟩ = some (.slice A8 c8.length n8) ∧ V.cell? ⟨gd, 0, none⟩ = some (.int .i64 d0) ∧ V.cell? ⟨gd, 1, none⟩ = some (.string d1) ∧ V.cell? ⟨gd, 2, none⟩ = some (.string d2) ∧ V.cell? ⟨gd, 3, none⟩ = some (.string d3) ∧ V.cell? ⟨gd, 4, none⟩ = some (.int .i64 d4) ∧ V.cell? ⟨gd, 5, none⟩ = some (.int .i64 d5) ∧ V.cell? ⟨gd, 6, none⟩ = some (.string d6) ∧ V.cell? ⟨gd, 7, none⟩ = some (.slice B7 d7.length m7) ∧ V.cell? ⟨gd, 8, none⟩ = some (.slice B8 d8.length m8)) := fun V h h' => by
          obtain ⟨h0, h1, h2, h3, h4, h5, h6, h7, h8⟩ := c9_ h
          exact ⟨h0, h1, h2, h3, h4, h5, h6, h7, h8, c9_ h'⟩
        have SH := am SH
        refine start_ (n := 29) (S := fun w' => w'.cell? ⟨gc, 0, none⟩ = some (.int .i64 c0) ∧ w'.cell? ⟨gc, 1, none⟩ = some (.string c1) ∧ w'.cell? ⟨gc, 2, none⟩ = some (.string c2) ∧ w'.cell? ⟨gc, 3, none⟩ = some (.string c3) ∧ w'.cell? ⟨gc, 4, none⟩ = some (.int .i64 c4) ∧ w'.cell? ⟨gc, 5, none⟩ = some (.int .i64 c5) ∧ w'.cell? ⟨gc, 6, none⟩ = some (.string c6) ∧ w'.cell? ⟨gc, 7, none⟩ = some (.slice A7 c7.length n7) ∧ w'.cell? ⟨gc, 8, none⟩ = some (.slice A8 c8.length n8) ∧ w'.cell? ⟨gd, 0, none⟩ = some (.int .i64 d0) ∧ w'.cell? ⟨gd, 1, none⟩ = some (.string d1) ∧ w'.cell? ⟨gd, 2, none⟩ = some (.string d2) ∧ w'.cell? ⟨gd, 3, none⟩ = some (.string d3) ∧ w'.cell? ⟨gd, 4, none⟩ = some (.int .i64 d4) ∧ w'.cell? ⟨gd, 5, none⟩ = some (.int .i64 d5) ∧ w'.cell? ⟨gd, 6, none⟩ = some (.string d6) ∧ w'.cell? ⟨gd, 7, none⟩ = some (.slice B7 d7.length m7) ∧ w'.cell? ⟨gd, 8, none⟩ = some (.slice B8 d8.length m8)) (ds := []) #[false, false, false, false, false, false, false, false, false, false, false, false, false, false, false, false, false, false, false, false, false, false, false, false, false, false, false, false, false] (by kernel_rfl) rfl rfl (SH.out _ BKgc.out BKgd.out) (fun hHeld => ?_)
        replace BKgc := am (blk_drew BKgc.out)
        replace BKgd := am (blk_drew BKgd.out)
        replace HB := am HB.out.drew
        generalize wc.drew = V1 at BKgc BKgd HB hHeld ⊢
        by_cases hab_ : a.toList = b.toList
        · have hab := am (beq_iff_eq.mpr hab_)
          have hab2 := am (bne_eq_false_iff_eq.mpr hab_)
          have A5 : Aside0 (stowageref16_Same.f k q0 q1 q2 q3 q4 q5 q6 q7 q8 u0 u1 u2 u3 u4 u5 u6 u7 u8 = some true) := am (by rw [A5.out, hab.out])
          have hab3 := am hab_
          clear hab_
          refine hp 0 (some 31) ?_
          refine hp 1 (some 32) ?_
          refine hp 2 (some 33) (v := .bool true) ?_ (hy := by intro w'; go_simp; first | done | exact hab3.out)
          refine ht 3 (some 34) hHeld ?_
          refine ht 5 (some 36) hHeld ?_
          refine hcall 4 (some 35) 10 #[.agg #[.int .i64 c0, .string c1, .string c2, .string c3, .int .i64 c4, .int .i64 c5, .string c6, .slice A7 c7.length n7, .slice A8 c8.length n8]] (stowagelaw16_Ref.calls k c0 c1 c2 c3 c4 c5 c6 A7 n7 c7 A8 n8 c8 q0 q1 q2 q3 q4 q5 q6 q7 q8 V1 (Kd.C_below HR7.out HB.out) HC7.out (Kd.C_below HR8.out HB.out) HC8.out A3.out) ?_
          rintro e1 V2 ⟨v7, v8, rfl, ho7, ho8, hb⟩
          obtain ⟨qA, qa, rfl⟩ := Kd.R_slice ho7
          obtain ⟨qB, qb, rfl⟩ := Kd.R_slice ho8
          have HQ7 := am (Kd.R_V (base' := 0) ho7)
          have HQ8 := am (Kd.R_V (base' := 0) ho8)
          replace BKgd := am (blk_below BKgd.out hb)
          replace BKgc := am (blk_below BKgc.out hb)
          replace HB := am (below_step HB.out hb)
          clear hb ho7 ho8 hHeld
          refine ⟨_, _, rfl, SH.out _ BKgc.out BKgd.out, by simp only [Act.put, List.setIfInBounds_toArray, List.set_cons_zero, List.set_cons_succ]; rfl, ?_⟩
          refine hcall 6 (some 37) 10 #[.agg #[.int .i64 d0, .string d1, .string d2, .string d3, .int .i64 d4, .int .i64 d5, .string d6, .slice B7 d7.length m7, .slice B8 d8.length m8]] (stowagelaw16_Ref.calls k d0 d1 d2 d3 d4 d5 d6 B7 m7 d7 B8 m8 d8 u0 u1 u2 u3 u4 u5 u6 u7 u8 V2 (Kd.C_below GR7.out HB.out) GC7.out (Kd.C_below GR8.out HB.out) GC8.out A4.out) ?_
          rintro e1 V3 ⟨v7, v8, rfl, ho7, ho8, hb⟩
          obtain ⟨uA, ua, rfl⟩ := Kd.R_slice ho7
          obtain ⟨uB, ub, rfl⟩ := Kd.R_slice ho8
          have HU7 := am (Kd.R_V (base' := 0) ho7)
          have HU8 := am (Kd.R_V (base' := 0) ho8)
          replace HQ7 := am (Kd.V_below HQ7.out hb)
          replace HQ8 := am (Kd.V_below HQ8.out hb)
          replace BKgd := am (blk_below BKgd.out hb)
          replace BKgc := am (blk_below BKgc.out hb)
          replace HB := am (below_step HB.out hb)
          clear hb ho7 ho8
          refine ⟨_, _, rfl, SH.out _ BKgc.out BKgd.out, by simp only [Act.put, List.setIfInBounds_toArray, List.set_cons_zero, List.set_cons_succ]; rfl, ?_⟩
          refine hcall 7 (some 38) 18 #[.agg #[.int .i64 q0, .string q1, .string q2, .string q3, .int .i64 q4, .int .i64 q5, .string q6, .slice qA q7.length qa, .slice qB q8.length qb], .agg #[.int .i64 u0, .string u1, .string u2, .string u3, .int .i64 u4, .int .i64 u5, .string u6, .slice uA u7.length ua, .slice uB u8.length ub]] (stowageref16_Same.calls k q0 q1 q2 q3 q4 q5 q6 qA qa q7 qB qb q8 u0 u1 u2 u3 u4 u5 u6 uA ua u7 uB ub u8 true V3 (Kd.V_reads' HQ7.out).2.2 (Kd.V_reads' HQ7.out).2.1 (Kd.V_reads' HQ8.out).2.2 (Kd.V_reads' HQ8.out).2.1 (Kd.V_reads' HU7.out).2.2 (Kd.V_reads' HU7.out).2.1 (Kd.V_reads' HU8.out).2.2 (Kd.V_reads' HU8.out).2.1 A5.out) ?_
          rintro e1 V4 ⟨rfl, hb⟩
          replace BKgd := am (blk_below BKgd.out hb)
          replace BKgc := am (blk_below BKgc.out hb)
          replace HB := am (below_step HB.out hb)
          clear hb HQ7 HQ8 HU7 HU8
          refine ⟨_, _, rfl, SH.out _ BKgc.out BKgd.out, by simp only [Act.put, List.setIfInBounds_toArray, List.set_cons_zero, List.set_cons_succ]; rfl, ?_⟩
          refine hp 8 (some 39) (v := .bool false) ?_ (hy := by intro w'; go_simp; try rfl)
          refine hp 9 (some 40) ?_
          refine hp 10 (some 41) ?_
          refine hp 11 (some 42) ?_
          refine hp 12 (some 43) (v := .bool false) ?_ (hy := by intro w'; go_simp; first | done | exact hab3.out)
          refine hp 13 (some 44) ?_
          refine hu 14 (some 45) ?_
          refine hu 15 (some 46) ?_
          refine hu 16 (some 47) ?_
          refine hu 17 (some 48) ?_
          refine hu 18 (some 49) ?_
          refine hp 19 (some 50) ?_
          refine hp 20 (some 51) ?_
          refine hu 21 (some 52) ?_
          refine hu 22 (some 53) ?_
          refine hu 23 (some 54) ?_
          refine hu 24 (some 55) ?_
          refine hu 25 (some 56) ?_
          refine hu 26 (some 57) ?_
          refine hp 27 (some 58) ?_
          refine hp 28 (some 59) ?_
          refine done_ (by kernel_rfl) ?_
          go_wp2
          go_meet
          case rel => exact ⟨BKgc, HB⟩
        · have hab := am (beq_eq_false_iff_ne.mpr hab_)
          have hab2 := am (bne_iff_ne.mpr hab_)
          have A5 : Aside0 (stowageref16_Same.f k q0 q1 q2 q3 q4 q5 q6 q7 q8 u0 u1 u2 u3 u4 u5 u6 u7 u8 = some false) := am (by rw [A5.out, hab.out])
          have A7_ := am (A6.out hab_)
          have hab3 := am hab_
          clear hab_
          refine hp 0 (some 31) ?_
          refine hp 1 (some 32) ?_
          refine hp 2 (some 33) (v := .bool false) ?_ (hy := by intro w'; go_simp; first | done | exact hab3.out)
          refine ht 3 (some 34) hHeld ?_
          refine ht 5 (some 36) hHeld ?_
          refine hcall 4 (some 35) 10 #[.agg #[.int .i64 c0, .string c1, .string c2, .string c3, .int .i64 c4, .int .i64 c5, .string c6, .slice A7 c7.length n7, .slice A8 c8.length n8]] (stowagelaw16_Ref.calls k c0 c1 c2 c3 c4 c5 c6 A7 n7 c7 A8 n8 c8 q0 q1 q2 q3 q4 q5 q6 q7 q8 V1 (Kd.C_below HR7.out HB.out) HC7.out (Kd.C_below HR8.out HB.out) HC8.out A3.out) ?_
          rintro e1 V2 ⟨v7, v8, rfl, ho7, ho8, hb⟩
          obtain ⟨qA, qa, rfl⟩ := Kd.R_slice ho7
          obtain ⟨qB, qb, rfl⟩ := Kd.R_slice ho8
          have HQ7 := am (Kd.R_V (base' := 0) ho7)
          have HQ8 := am (Kd.R_V (base' := 0) ho8)
          replace BKgd := am (blk_below BKgd.out hb)
          replace BKgc := am (blk_below BKgc.out hb)
          replace HB := am (below_step HB.out hb)
          clear hb ho7 ho8 hHeld
          refine ⟨_, _, rfl, SH.out _ BKgc.out BKgd.out, by simp only [Act.put, List.setIfInBounds_toArray, List.set_cons_zero, List.set_cons_succ]; rfl, ?_⟩
          refine hcall 6 (some 37) 10 #[.agg #[.int .i64 d0, .string d1, .string d2, .string d3, .int .i64 d4, .int .i64 d5, .string d6, .slice B7 d7.length m7, .slice B8 d8.length m8]] (stowagelaw16_Ref.calls k d0 d1 d2 d3 d4 d5 d6 B7 m7 d7 B8 m8 d8 u0 u1 u2 u3 u4 u5 u6 u7 u8 V2 (Kd.C_below GR7.out HB.out) GC7.out (Kd.C_below GR8.out HB.out) GC8.out A4.out) ?_
          rintro e1 V3 ⟨v7, v8, rfl, ho7, ho8, hb⟩
          obtain ⟨uA, ua, rfl⟩ := Kd.R_slice ho7
          obtain ⟨uB, ub, rfl⟩ := Kd.R_slice ho8
          have HU7 := am (Kd.R_V (base' := 0) ho7)
          have HU8 := am (Kd.R_V (base' := 0) ho8)
          replace HQ7 := am (Kd.V_below HQ7.out hb)
          replace HQ8 := am (Kd.V_below HQ8.out hb)
          replace BKgd := am (blk_below BKgd.out hb)
          replace BKgc := am (blk_below BKgc.out hb)
          replace HB := am (below_step HB.out hb)
          clear hb ho7 ho8
          refine ⟨_, _, rfl, SH.out _ BKgc.out BKgd.out, by simp only [Act.put, List.setIfInBounds_toArray, List.set_cons_zero, List.set_cons_succ]; rfl, ?_⟩
          refine hcall 7 (some 38) 18 #[.agg #[.int .i64 q0, .string q1, .string q2, .string q3, .int .i64 q4, .int .i64 q5, .string q6, .slice qA q7.length qa, .slice qB q8.length qb], .agg #[.int .i64 u0, .string u1, .string u2, .string u3, .int .i64 u4, .int .i64 u5, .string u6, .slice uA u7.length ua, .slice uB u8.length ub]] (stowageref16_Same.calls k q0 q1 q2 q3 q4 q5 q6 qA qa q7 qB qb q8 u0 u1 u2 u3 u4 u5 u6 uA ua u7 uB ub u8 false V3 (Kd.V_reads' HQ7.out).2.2 (Kd.V_reads' HQ7.out).2.1 (Kd.V_reads' HQ8.out).2.2 (Kd.V_reads' HQ8.out).2.1 (Kd.V_reads' HU7.out).2.2 (Kd.V_reads' HU7.out).2.1 (Kd.V_reads' HU8.out).2.2 (Kd.V_reads' HU8.out).2.1 A5.out) ?_
          rintro e1 V4 ⟨rfl, hb⟩
          replace BKgd := am (blk_below BKgd.out hb)
          replace BKgc := am (blk_below BKgc.out hb)
          replace HB := am (below_step HB.out hb)
          clear hb HQ7 HQ8 HU7 HU8
          refine ⟨_, _, rfl, SH.out _ BKgc.out BKgd.out, by simp only [Act.put, List.setIfInBounds_toArray, List.set_cons_zero, List.set_cons_succ]; rfl, ?_⟩
          refine hp 8 (some 39) (v := .bool false) ?_ (hy := by intro w'; go_simp; try rfl)
          refine hp 9 (some 40) ?_
          refine hp 10 (some 41) ?_
          refine hp 11 (some 42) ?_
          refine hp 12 (some 43) (v := .bool true) ?_ (hy := by intro w'; go_simp; first | done | exact hab3.out)
          refine hp 13 (some 44) ?_
          refine hp 14 (some 45) ?_
          refine hp 15 (some 46) ?_
          refine hp 16 (some 47) ?_
          refine hp 17 (some 48) ?_
          by_cases hle : a.size ≤ b.size
          · have A8_ := am (A7_.out hle)
            have hle2 : Aside0 (decide ((a.size : Int) ≤ (b.size : Int)) = true) := am (decide_eq_true (Int.ofNat_le.2 hle))
            have hle3 := am hle
            clear hle
            refine hp 18 (some 49) (v := .bool true) ?_ (hy := by intro w'; go_simp; first | done | exact hle3.out | exact Int.ofNat_le.2 hle3.out | (simp; exact hle3.out))
            refine hp 19 (some 50) ?_
            refine hp 20 (some 51) ?_
            refine hp 21 (some 52) ?_
            refine hp 22 (some 53) ?_
            refine hp 23 (some 54) ?_
            refine hp 24 (some 55) (v := .string (b.extract 0 a.size)) ?_ (hy := by intro w'; have h1 := of_decide_eq_true hle2.out; go_simp; first | done | rfl | (simp; omega))
            refine hp 25 (some 56) ?_
            refine hp 26 (some 57) (v := .bool false) ?_ (hy := by intro w'; go_simp; first | done | exact A8_.out)
            refine hp 27 (some 58) ?_
            refine hp 28 (some 59) ?_
            refine done_ (by kernel_rfl) ?_
            go_wp2
            go_meet
            case rel => exact ⟨BKgc, HB⟩
          · have hle2 : Aside0 (decide ((a.size : Int) ≤ (b.size : Int)) = false) := am (decide_eq_false (fun h => hle (Int.ofNat_le.1 h)))
            have hle3 := am hle
            clear hle
            refine hp 18 (some 49) (v := .bool false) ?_ (hy := by intro w'; go_simp; first | done | exact hle3.out | exact (fun h => hle3.out (Int.ofNat_le.1 h)) | (have := hle3.out; omega) | (simp only [decide_eq_true_eq, decide_eq_false_iff_not]; have := hle3.out; omega))
            refine hp 19 (some 50) ?_
            refine hp 20 (some 51) ?_
            refine hu 21 (some 52) ?_
            refine hu 22 (some 53) ?_
            refine hu 23 (some 54) ?_
            refine hu 24 (some 55) ?_
            refine hu 25 (some 56) ?_
            refine hu 26 (some 57) ?_
            refine hp 27 (some 58) ?_
            refine hp 28 (some 59) ?_
            refine done_ (by kernel_rfl) ?_
            go_wp2
            go_meet
            case rel => exact ⟨BKgc, HB⟩
    | false =>
      clear H HE
      go_wp2
      go_meet
      case rel => exact ⟨BKgc, HB⟩
   case rest =>
    clear H BKgc BKgd HB NE
    obtain ⟨BKgc, HB⟩ := hcut
    obtain ⟨AW, x, g, A3, hy1, hy2⟩ := H2.out
    replace AW := am AW
    replace A3 := am A3
    replace hy1 := am hy1
    replace hy2 := am hy2
    clear H2
    obtain ⟨zc0, zc1, zc2, zc3, zc4, zc5, zc6, zc7, zc8⟩ := c9_ BKgc.out
    obtain ⟨yc0, yc1, yc2, yc3, yc4, yc5, yc6, yc7, yc8⟩ := f9_ BKgc.out
    go_upto_region 7 with (first | (go_at_call 11; (refine (cmd_Digest.calls k c0 c1 c2 c3 c4 c5 c6 A7 n7 c7 A8 n8 c8 x g _ ?s1 HC7.out ?s2 HC8.out A3.out ?sG).mono ?_); (case sG => exact gg_below HG.out HB.out); (case s1 => exact Kd.C_below HR7.out HB.out); (case s2 => exact Kd.C_below HR8.out HB.out); rintro q w4 ⟨rfl, hb⟩; (try dsimp only); replace BKgc := am (blk_below BKgc.out hb); replace HB := am (below_step HB.out hb); clear hb A3 zc0 zc1 zc2 zc3 zc4 zc5 zc6 zc7 zc8 yc0 yc1 yc2 yc3 yc4 yc5 yc6 yc7 yc8; obtain ⟨zc0, zc1, zc2, zc3, zc4, zc5, zc6, zc7, zc8⟩ := c9_ BKgc.out; obtain ⟨yc0, yc1, yc2, yc3, yc4, yc5, yc6, yc7, yc8⟩ := f9_ BKgc.out))
    by_cases hg : g = 0
    · have cg0 := beq_iff_eq.mpr hg
      have cg1 := bne_eq_false_iff_eq.mpr hg
      by_cases hk : c0 = 10
      · have ck0 := beq_iff_eq.mpr hk
        obtain ⟨q0, q1, q2, q3, q4, q5, q6, q7, q8, z, A4, A5, hgz⟩ := hy1.out (.inr hk)
        replace A4 := am A4
        replace A5 := am A5
        have hz0 := hgz.symm.trans cg0
        clear hgz hy1 hy2 hk hg
        go_upto_region 8 with (fail)
        go_wp2_with (first | (go_at_call 13; (refine (stowagelaw16_awake.calls k true _ AW.out ?sG).mono ?_); (case sG => exact gg_below HG.out HB.out); rintro q w9 ⟨rfl, hb⟩; (try dsimp only); replace BKgc := am (blk_below BKgc.out hb); replace HB := am (below_step HB.out hb); clear hb zc0 zc1 zc2 zc3 zc4 zc5 zc6 zc7 zc8 yc0 yc1 yc2 yc3 yc4 yc5 yc6 yc7 yc8; obtain ⟨zc0, zc1, zc2, zc3, zc4, zc5, zc6, zc7, zc8⟩ := c9_ BKgc.out; obtain ⟨yc0, yc1, yc2, yc3, yc4, yc5, yc6, yc7, yc8⟩ := f9_ BKgc.out) | ((with_reducible refine gate_callee (f := 10) rfl ?_); (try (refine gate_guard (by rfl) ?_; dsimp only)); refine goesL_ (some 77) rfl rfl Tryd.func10 (by kernel_rfl) rfl #[.agg #[.int .i64 c0, .string c1, .string c2, .string c3, .int .i64 c4, .int .i64 c5, .string c6, .slice A7 c7.length n7, .slice A8 c8.length n8]] rfl gl ?_; (refine (stowagelaw16_Ref.calls k c0 c1 c2 c3 c4 c5 c6 A7 n7 c7 A8 n8 c8 q0 q1 q2 q3 q4 q5 q6 q7 q8 _ ?s1 HC7.out ?s2 HC8.out A4.out).mono ?_); (case s1 => exact Kd.C_below HR7.out HB.out); (case s2 => exact Kd.C_below HR8.out HB.out); rintro q w10 ⟨v7, v8, rfl, ho7, ho8, hb⟩; obtain ⟨qA, qa, rfl⟩ := Kd.R_slice ho7; obtain ⟨qB, qb, rfl⟩ := Kd.R_slice ho8; refine ⟨_, rfl, ?_⟩; have HQ7 := am (Kd.R_V (base' := 0) ho7); have HQ8 := am (Kd.R_V (base' := 0) ho8); replace HB := am (below_step HB.out hb); clear hb ho7 ho8 BKgc zc0 zc1 zc2 zc3 zc4 zc5 zc6 zc7 zc8 yc0 yc1 yc2 yc3 yc4 yc5 yc6 yc7 yc8) | ((with_reducible refine gate_callee (f := 15) rfl ?_); (try (refine gate_guard (by rfl) ?_; dsimp only)); refine goesL_ (some 78) rfl rfl Tryd.func15 (by kernel_rfl) rfl #[.agg #[.int .i64 q0, .string q1, .string q2, .string q3, .int .i64 q4, .int .i64 q5, .string q6, .slice qA q7.length qa, .slice qB q8.length qb]] rfl gl ?_; (refine (stowageref16_Check.calls k q0 q1 q2 q3 q4 q5 q6 qA qa q7 qB qb q8 z _ ?s1 ?s2 ?s3 ?s4 A5.out).mono ?_); (case s1 => exact (Kd.V_reads' HQ7.out).2.2); (case s2 => exact (Kd.V_reads' HQ7.out).2.1); (case s3 => exact (Kd.V_reads' HQ8.out).2.2); (case s4 => exact (Kd.V_reads' HQ8.out).2.1); rintro q w11 ⟨rfl, hb⟩; refine ⟨_, rfl, ?_⟩; replace HB := am (below_step HB.out hb); clear hb HQ7 HQ8))
        go_ret
        exact ⟨rf, HB.out⟩
      · have ck0 := beq_eq_false_iff_ne.mpr hk
        obtain ⟨y, h, A4, hxy⟩ := hy2.out hg hk
        replace A4 := am A4
        replace hxy := am hxy
        clear hy1 hy2 hg hk
        go_upto_region 10 with (fail)
        generalize hW : w4.setCell ⟨gc, 1, none⟩ (.string t) = W
        replace HB := am (hW ▸ below_set HB.out GEgc.out)
        replace BKgc := am (hW ▸ blk_put (cs' := #[.int .i64 c0, .string t, .string c2, .string c3, .int .i64 c4, .int .i64 c5, .string c6, .slice A7 c7.length n7, .slice A8 c8.length n8]) BKgc.out 1 _ rfl)
        clear hW zc0 zc1 zc2 zc3 zc4 zc5 zc6 zc7 zc8 yc0 yc1 yc2 yc3 yc4 yc5 yc6 yc7 yc8 w4
        obtain ⟨zc0, zc1, zc2, zc3, zc4, zc5, zc6, zc7, zc8⟩ := c9_ BKgc.out
        obtain ⟨yc0, yc1, yc2, yc3, yc4, yc5, yc6, yc7, yc8⟩ := f9_ BKgc.out
        go_upto_region 11 with (first | (go_at_call 11; (refine (cmd_Digest.calls k c0 t c2 c3 c4 c5 c6 A7 n7 c7 A8 n8 c8 y h _ ?s1 HC7.out ?s2 HC8.out A4.out ?sG).mono ?_); (case sG => exact gg_below HG.out HB.out); (case s1 => exact Kd.C_below HR7.out HB.out); (case s2 => exact Kd.C_below HR8.out HB.out); rintro q w5 ⟨rfl, hb⟩; (try dsimp only); replace BKgc := am (blk_below BKgc.out hb); replace HB := am (below_step HB.out hb); clear hb A4 zc0 zc1 zc2 zc3 zc4 zc5 zc6 zc7 zc8 yc0 yc1 yc2 yc3 yc4 yc5 yc6 yc7 yc8; obtain ⟨zc0, zc1, zc2, zc3, zc4, zc5, zc6, zc7, zc8⟩ := c9_ BKgc.out; obtain ⟨yc0, yc1, yc2, yc3, yc4, yc5, yc6, yc7, yc8⟩ := f9_ BKgc.out))
        by_cases hh : h = 0
        · have ch0 := beq_iff_eq.mpr hh
          have ch1 := bne_eq_false_iff_eq.mpr hh
          have hx : (x.toList == y.toList) = true := beq_iff_eq.mpr (hxy.out hh)
          clear hh hxy
          go_wp2_with (first | (go_at_call 13; (refine (stowagelaw16_awake.calls k true _ AW.out ?sG).mono ?_); (case sG => exact gg_below HG.out HB.out); rintro q w9 ⟨rfl, hb⟩; (try dsimp only); replace BKgc := am (blk_below BKgc.out hb); replace HB := am (below_step HB.out hb); clear hb zc0 zc1 zc2 zc3 zc4 zc5 zc6 zc7 zc8 yc0 yc1 yc2 yc3 yc4 yc5 yc6 yc7 yc8; obtain ⟨zc0, zc1, zc2, zc3, zc4, zc5, zc6, zc7, zc8⟩ := c9_ BKgc.out; obtain ⟨yc0, yc1, yc2, yc3, yc4, yc5, yc6, yc7, yc8⟩ := f9_ BKgc.out))
          go_ret
          exact ⟨rf, HB.out⟩
        · have ch0 := beq_eq_false_iff_ne.mpr hh
          have ch1 := bne_iff_ne.mpr hh
          clear hh hxy
          go_wp2_with (first | (go_at_call 13; (refine (stowagelaw16_awake.calls k true _ AW.out ?sG).mono ?_); (case sG => exact gg_below HG.out HB.out); rintro q w9 ⟨rfl, hb⟩; (try dsimp only); replace BKgc := am (blk_below BKgc.out hb); replace HB := am (below_step HB.out hb); clear hb zc0 zc1 zc2 zc3 zc4 zc5 zc6 zc7 zc8 yc0 yc1 yc2 yc3 yc4 yc5 yc6 yc7 yc8; obtain ⟨zc0, zc1, zc2, zc3, zc4, zc5, zc6, zc7, zc8⟩ := c9_ BKgc.out; obtain ⟨yc0, yc1, yc2, yc3, yc4, yc5, yc6, yc7, yc8⟩ := f9_ BKgc.out))
          go_ret
          exact ⟨rf, HB.out⟩
    · have cg0 := beq_eq_false_iff_ne.mpr hg
      have cg1 := bne_iff_ne.mpr hg
      obtain ⟨q0, q1, q2, q3, q4, q5, q6, q7, q8, z, A4, A5, hgz⟩ := hy1.out (.inl hg)
      replace A4 := am A4
      replace A5 := am A5
      have hz0 := hgz.symm.trans cg0
      clear hgz hy1 hy2 hg
      go_upto_region 8 with (fail)
      go_wp2_with (first | (go_at_call 13; (refine (stowagelaw16_awake.calls k true _ AW.out ?sG).mono ?_); (case sG => exact gg_below HG.out HB.out); rintro q w9 ⟨rfl, hb⟩; (try dsimp only); replace BKgc := am (blk_below BKgc.out hb); replace HB := am (below_step HB.out hb); clear hb zc0 zc1 zc2 zc3 zc4 zc5 zc6 zc7 zc8 yc0 yc1 yc2 yc3 yc4 yc5 yc6 yc7 yc8; obtain ⟨zc0, zc1, zc2, zc3, zc4, zc5, zc6, zc7, zc8⟩ := c9_ BKgc.out; obtain ⟨yc0, yc1, yc2, yc3, yc4, yc5, yc6, yc7, yc8⟩ := f9_ BKgc.out) | ((with_reducible refine gate_callee (f := 10) rfl ?_); (try (refine gate_guard (by rfl) ?_; dsimp only)); refine goesL_ (some 77) rfl rfl Tryd.func10 (by kernel_rfl) rfl #[.agg #[.int .i64 c0, .string c1, .string c2, .string c3, .int .i64 c4, .int .i64 c5, .string c6, .slice A7 c7.length n7, .slice A8 c8.length n8]] rfl gl ?_; (refine (stowagelaw16_Ref.calls k c0 c1 c2 c3 c4 c5 c6 A7 n7 c7 A8 n8 c8 q0 q1 q2 q3 q4 q5 q6 q7 q8 _ ?s1 HC7.out ?s2 HC8.out A4.out).mono ?_); (case s1 => exact Kd.C_below HR7.out HB.out); (case s2 => exact Kd.C_below HR8.out HB.out); rintro q w10 ⟨v7, v8, rfl, ho7, ho8, hb⟩; obtain ⟨qA, qa, rfl⟩ := Kd.R_slice ho7; obtain ⟨qB, qb, rfl⟩ := Kd.R_slice ho8; refine ⟨_, rfl, ?_⟩; have HQ7 := am (Kd.R_V (base' := 0) ho7); have HQ8 := am (Kd.R_V (base' := 0) ho8); replace HB := am (below_step HB.out hb); clear hb ho7 ho8 BKgc zc0 zc1 zc2 zc3 zc4 zc5 zc6 zc7 zc8 yc0 yc1 yc2 yc3 yc4 yc5 yc6 yc7 yc8) | ((with_reducible refine gate_callee (f := 15) rfl ?_); (try (refine gate_guard (by rfl) ?_; dsimp only)); refine goesL_ (some 78) rfl rfl Tryd.func15 (by kernel_rfl) rfl #[.agg #[.int .i64 q0, .string q1, .string q2, .string q3, .int .i64 q4, .int .i64 q5, .string q6, .slice qA q7.length qa, .slice qB q8.length qb]] rfl gl ?_; (refine (stowageref16_Check.calls k q0 q1 q2 q3 q4 q5 q6 qA qa q7 qB qb q8 z _ ?s1 ?s2 ?s3 ?s4 A5.out).mono ?_); (case s1 => exact (Kd.V_reads' HQ7.out).2.2); (case s2 => exact (Kd.V_reads' HQ7.out).2.1); (case s3 => exact (Kd.V_reads' HQ8.out).2.2); (case s4 => exact (Kd.V_reads' HQ8.out).2.1); rintro q w11 ⟨rfl, hb⟩; refine ⟨_, rfl, ?_⟩; replace HB := am (below_step HB.out hb); clear hb HQ7 HQ8))
      go_ret
      exact ⟨rf, HB.out⟩
theorem stowagelaw16_CmdApart.calls (k : Nat) (c0 : Int) (c1 : ByteArray) (c2 : ByteArray) (c3 : ByteArray) (c4 : Int) (c5 : Int) (c6 : ByteArray) (A7 : Option Addr) (n7 : Nat) (c7 : List (S82)) (A8 : Option Addr) (n8 : Nat) (c8 : List (S62)) (d0 : Int) (d1 : ByteArray) (d2 : ByteArray) (d3 : ByteArray) (d4 : Int) (d5 : Int) (d6 : ByteArray) (B7 : Option Addr) (m7 : Nat) (d7 : List (S82)) (B8 : Option Addr) (m8 : Nat) (d8 : List (S62)) (t : ByteArray) (r : Bool) (w : World) (hr7 : Kd.C k82 w A7 c7.length c7) (hc7 : c7.length ≤ n7) (hr8 : Kd.C k62 w A8 c8.length c8) (hc8 : c8.length ≤ n8) (gr7 : Kd.C k82 w B7 d7.length d7) (gc7 : d7.length ≤ m7) (gr8 : Kd.C k62 w B8 d8.length d8) (gc8 : d8.length ≤ m8) (h : stowagelaw16_CmdApart.f k c0 c1 c2 c3 c4 c5 c6 c7 c8 d0 d1 d2 d3 d4 d5 d6 d7 d8 t = some r) (hG : GG w) :
    Calls Tryd.prog 6 #[.agg #[.int .i64 c0, .string c1, .string c2, .string c3, .int .i64 c4, .int .i64 c5, .string c6, .slice A7 c7.length n7, .slice A8 c8.length n8], .agg #[.int .i64 d0, .string d1, .string d2, .string d3, .int .i64 d4, .int .i64 d5, .string d6, .slice B7 d7.length m7, .slice B8 d8.length m8], .string t] w fun e w' => e = .returned (.bool r) ∧ Below w.heap.size w w' := by
  unfold stowagelaw16_CmdApart.f at h
  split at h
  · rename_i hc
    obtain rfl := Option.some.inj h
    exact stowagelaw16_CmdApart_go k c0 c1 c2 c3 c4 c5 c6 A7 n7 c7 A8 n8 c8 d0 d1 d2 d3 d4 d5 d6 B7 m7 d7 B8 m8 d8 t w hr7 hc7 hr8 hc8 gr7 gc7 gr8 gc8 hc.1 hc.2 hG
  · cases h
end Go.Proofs.YtdidopoalmkhlaaDoor.Od
end
section
namespace Go.Proofs.YtdidopoalmkhlaaDoor.Pure
open Go.RowKit Go.Proofs.YtdidopoalmkhlaaDoor.Od Go.Proofs.YtdidopoalmkhlaaDoorW.PrintWords Go.Proofs.YtdidopoalmkhlaaDoorW.PrintLast Go.Proofs.YtdidopoalmkhlaaDoorW.PrintMore
set_option linter.unusedVariables false
set_option linter.unusedSimpArgs false
theorem up {α : Type} {f : Nat → Option α} (h : ∀ k, LeO (f k) (f (k + 1))) {r : α} {k : Nat} (h0 : f k = some r) : ∀ n, f (k + n) = some r
 | 0 => h0
 | n + 1 => h (k + n) r (up h h0 n)
theorem up_to {α : Type} {f : Nat → Option α} (h : ∀ k, LeO (f k) (f (k + 1))) {r : α} {k m : Nat} (h0 : f k = some r) (hm : k ≤ m) : f m = some r := by
 have := up h h0 (m - k)
 rwa [Nat.add_sub_cancel' hm] at this
theorem w1 (i : Nat) (h : i ≤ 4611686018427387904) : wrap64 ((i : Int) + 1) = ((i + 1 : Nat) : Int) := by
 rw [IntWalk.wrap64_in _ (by omega)]
 omega
theorem len_eq (a : ByteArray) : a.data.toList.length = a.size := Array.length_toList (xs := a.data)
theorem bt_get (a : ByteArray) (i : Nat) (h : i < a.size) : ∃ c, a.data.toList.drop i = c :: a.data.toList.drop (i + 1) ∧ bt a (i : Int) = (c.toNat : Int) := by
 have hl : i < a.data.toList.length := by rw [len_eq]; exact h
 refine ⟨a.data.toList[i], List.drop_eq_getElem_cons hl, ?_⟩
 unfold bt
 rw [dif_pos (by rw [Int.toNat_natCast]; exact h)]
 simp only [Int.toNat_natCast, Array.getElem_toList]
 rfl
theorem bt_rng (s : ByteArray) (i : Int) : 0 ≤ bt s i ∧ bt s i ≤ 255 := by
 unfold bt
 split
 ·
  rename_i h
  have := (s.get i.toNat h).toNat_lt
  constructor
  ·
   omega
  ·
   show ((s.get i.toNat h).toNat : Int) ≤ 255
   omega
 ·
  omega
theorem or128 (m : Int) (h0 : 0 ≤ m) (h1 : m < 256) : Go.bits .or .u8 m 128 = m % 128 + 128 := by
 obtain ⟨n, rfl⟩ : ∃ n : Nat, m = (n : Int) := ⟨m.toNat, by omega⟩
 have h : ∀ n, n < 256 → Go.bits .or .u8 ((n : Nat) : Int) 128 = ((n : Nat) : Int) % 128 + 128 := by decide +kernel
 exact h n (by omega)
def nl : Nat → Int → List Int
 | 0, n => [n]
 | d + 1, n => if n < 128 then [n] else (n % 128 + 128) :: nl d (n / 128)
theorem nl_len : ∀ d n, (nl d n).length ≤ d + 1
 | 0, _ => by simp [nl]
 | d + 1, n => by
  rw [nl]
  split
  ·
   simp
  ·
   have := nl_len d (n / 128)
   simp only [List.length_cons]; omega
theorem sn_append (a b : List Int) : strOfNums (a ++ b) = strOfNums a ++ strOfNums b := by
 apply ByteArray.ext
 rw [ByteArray.data_append]
 simp [strOfNums]
theorem oct_num : ∀ (d k : Nat) (n : Int) (x3 : List Int), 0 ≤ n → n < 128 ^ (d + 1) → d < k → x3.length + d ≤ 100 → octet_Number.l0 k n x3 = some (strOfNums (x3 ++ nl d n)) := by
 intro d
 induction d with
 | zero =>
  intro k n x3 h0 h1 hk h3
  obtain ⟨k, rfl⟩ : ∃ j, k = j + 1 := ⟨k - 1, by omega⟩
  have h1' : n < 128 := by simpa using h1
  rw [octet_Number.l0, if_neg (by omega), if_pos (by omega), nl, Int.emod_eq_of_lt h0 (by omega)]
 | succ d ih =>
  intro k n x3 h0 h1 hk h3
  obtain ⟨k, rfl⟩ : ∃ j, k = j + 1 := ⟨k - 1, by omega⟩
  rw [octet_Number.l0, nl]
  by_cases h : n < 128
  ·
   rw [if_neg (by omega), if_pos (by omega), if_pos h, Int.emod_eq_of_lt h0 (by omega)]
  ·
   rw [if_pos (by omega), if_pos (by omega), if_neg h, or128 _ (by omega) (by omega), show n % 256 % 128 = n % 128 by omega, ih k (n / 128) _ (by omega) (Int.ediv_lt_of_lt_mul (by omega) (by rw [← Int.pow_succ]; exact h1)) (by omega) (by simp; omega), List.append_assoc]
   rfl
def num (n : Int) : ByteArray := strOfNums (nl 9 n)
theorem num_size (n : Int) : (num n).size ≤ 10 := by
 unfold num
 rw [strOfNums_size]
 exact nl_len 9 n
theorem oct_Number (n : Int) (h0 : 0 ≤ n) (h1 : n ≤ 18446744073709551615) (k : Nat) (hk : 10 ≤ k) : octet_Number.f k n = some (num n) := by
 unfold octet_Number.f
 rw [oct_num 9 k n [] h0 (by omega) (by omega) (by simp)]
 rfl
def txt (a : ByteArray) : ByteArray := num (a.size : Int) ++ a
theorem oct_Text (a : ByteArray) (ha : a.size ≤ 1073741824) (k : Nat) (hk : 10 ≤ k) : octet_Text.f k a = some (txt a) := by
 unfold octet_Text.f
 have := num_size (a.size : Int)
 rw [IntWalk.u64_in _ (by omega), oct_Number _ (by omega) (by omega) k hk, Option.bind_some, if_pos (by omega)]
 rfl
theorem and127 (m : Int) (h0 : 0 ≤ m) (h1 : m < 256) : Go.bits .and .u8 m 127 = m % 128 := by
 obtain ⟨n, rfl⟩ : ∃ n : Nat, m = (n : Int) := ⟨m.toNat, by omega⟩
 have h : ∀ n, n < 256 → Go.bits .and .u8 ((n : Nat) : Int) 127 = ((n : Nat) : Int) % 128 := by decide +kernel
 exact h n (by omega)
def rn (s : ByteArray) (a : Nat) : Nat → Nat → Int → Int × Int × Int
 | 0, _, _ => (0, 0, 3)
 | n + 1, i, x => if s.size ≤ a + i then (0, 0, 5) else if (i = 9 ∧ bt s ((a + i : Nat) : Int) > 1) ∨ (0 < i ∧ bt s ((a + i : Nat) : Int) = 0) then (0, 0, 3)
  else if bt s ((a + i : Nat) : Int) < 128 then (x + bt s ((a + i : Nat) : Int) % 128 * 128 ^ i, ((a + i + 1 : Nat) : Int), 0) else rn s a n (i + 1) (x + bt s ((a + i : Nat) : Int) % 128 * 128 ^ i)
theorem or_add (x d : Nat) (i : Nat) (hx : x < 128 ^ i) : x ||| (d * 128 ^ i) = x + d * 128 ^ i := by
 have h : (128 : Nat) ^ i = 2 ^ (7 * i) := by rw [Nat.pow_mul]
 rw [h] at hx ⊢
 rw [Nat.or_comm, Nat.mul_comm d, ← Nat.two_pow_add_eq_or_of_lt hx d, Nat.add_comm]
theorem step_bits (x b : Int) (i : Nat) (h0 : 0 ≤ x) (hx : x < 128 ^ i) (hb0 : 0 ≤ b) (hb : b < 256) (hi : i < 9 ∨ (i = 9 ∧ b ≤ 1)) :
  Go.bits .or .u64 x (shl .u64 (IntKind.u64.wrap (Go.bits .and .u8 b 127)) (7 * (i : Int))) = x + b % 128 * 128 ^ i ∧ 0 ≤ x + b % 128 * 128 ^ i ∧ x + b % 128 * 128 ^ i < 128 ^ (i + 1) ∧ x + b % 128 * 128 ^ i ≤ 18446744073709551615 := by
 obtain ⟨n, rfl⟩ : ∃ n : Nat, x = (n : Int) := ⟨x.toNat, by omega⟩
 obtain ⟨d, hd⟩ : ∃ d : Nat, b % 128 = (d : Int) := ⟨(b % 128).toNat, by omega⟩
 have hd1 : d < 128 := by omega
 have hn : n < 128 ^ i := by exact_mod_cast hx
 have hpow : (128 : Nat) ^ i = 2 ^ (7 * i) := by rw [Nat.pow_mul]
 have hlt : n + d * 128 ^ i < 128 ^ (i + 1) := by
  have h1 : d * 128 ^ i ≤ 127 * 128 ^ i := Nat.mul_le_mul_right _ (by omega)
  rw [Nat.pow_succ]; omega
 have hmax : n + d * 128 ^ i < 18446744073709551616 := by
  rcases hi with hi | ⟨rfl, hb1⟩
  ·
   have h2 : (128 : Nat) ^ (i + 1) ≤ 128 ^ 9 := Nat.pow_le_pow_right (by decide) (by omega)
   have h3 : (128 : Nat) ^ 9 = 9223372036854775808 := by decide
   omega
  ·
   have h3 : (128 : Nat) ^ 9 = 9223372036854775808 := by decide
   have h4 : d ≤ 1 := by omega
   rw [h3] at hn ⊢
   rcases (show d = 0 ∨ d = 1 by omega) with rfl | rfl <;> omega
 have hpi : (0 : Nat) < 128 ^ i := Nat.pow_pos (by decide)
 have hdm : d * 128 ^ i < 18446744073709551616 := by omega
 have hi9 : i ≤ 9 := by omega
 have hshl : shl .u64 (IntKind.u64.wrap (Go.bits .and .u8 b 127)) (7 * (i : Int)) = ((d * 128 ^ i : Nat) : Int) := by
  rw [and127 b hb0 hb, hd, IntWalk.u64_in _ (by omega)]
  unfold shl
  have hbits : IntKind.u64.bits = 64 := rfl
  rw [hbits, show (7 * (i : Int)).toNat = 7 * i by omega, Nat.min_eq_left (by omega), hpow]
  rw [hpow] at hdm
  have hc : ((d : Int) * 2 ^ (7 * i)) = ((d * 2 ^ (7 * i) : Nat) : Int) := by rw [Int.natCast_mul, Int.natCast_pow]; rfl
  rw [hc, IntWalk.u64_in _ (by omega)]
 have hc2 : (n : Int) + b % 128 * 128 ^ i = ((n + d * 128 ^ i : Nat) : Int) := by rw [hd, Int.natCast_add, Int.natCast_mul, Int.natCast_pow]; rfl
 rw [hshl, bits_or_u64_nat n _ (by omega) hdm, or_add n d i hn, hc2]
 refine ⟨rfl, by omega, ?_, by omega⟩
 have : ((128 : Int) ^ (i + 1)) = ((128 ^ (i + 1) : Nat) : Int) := by rw [Int.natCast_pow]; rfl
 rw [this]
 omega
theorem oct_rn (s : ByteArray) (a : Nat) (hs : s.size ≤ 1073741824) (ha : a ≤ s.size) : ∀ (n i k : Nat) (x : Int), i + n = 10 → 2 * n < k → 0 ≤ x → x < 128 ^ i → octet_ReadNumber.l0 k s (a : Int) x (i : Int) = some (rn s a n i x) := by
 intro n
 induction n with
 | zero =>
  intro i k x hi hk h0 hx
  obtain ⟨k, rfl⟩ : ∃ j, k = j + 1 := ⟨k - 1, by omega⟩
  rw [octet_ReadNumber.l0, if_neg (by omega)]
  rfl
 | succ n ih =>
  intro i k x hi hk h0 hx
  obtain ⟨k, rfl⟩ : ∃ j, k = j + 1 + 1 := ⟨k - 2, by omega⟩
  have hbr := bt_rng s ((a + i : Nat) : Int)
  rw [octet_ReadNumber.l0, if_pos (by omega), IntWalk.wrap64_in ((a : Int) + (i : Int)) (by omega), show ((a : Int) + (i : Int)) = ((a + i : Nat) : Int) by omega, rn]
  obtain ⟨b, hb⟩ : ∃ b, bt s ((a + i : Nat) : Int) = b := ⟨_, rfl⟩
  rw [hb] at hbr ⊢
  by_cases he : s.size ≤ a + i
  ·
   rw [if_pos (by omega), if_pos he]
  ·
   rw [if_neg (by omega), if_neg he, if_pos (by omega), if_pos (by omega)]
   have tail : ∀ c : Bool, (c = true ↔ ((i = 9 ∧ b > 1) ∨ (0 < i ∧ b = 0))) → octet_ReadNumber.j2 (k + 1) s (a : Int) x (i : Int) b (i : Int) c = some (if (i = 9 ∧ b > 1) ∨ (0 < i ∧ b = 0) then (0, 0, 3) else if b < 128 then (x + b % 128 * 128 ^ i, ((a + i + 1 : Nat) : Int), 0) else rn s a n (i + 1) (x + b % 128 * 128 ^ i)) := by
    intro c hc
    rw [octet_ReadNumber.j2]
    by_cases hq : (i = 9 ∧ b > 1) ∨ (0 < i ∧ b = 0)
    ·
     rw [if_pos (hc.2 hq), if_pos hq]
    ·
     rw [if_neg (fun h => hq (hc.1 h)), if_neg hq, IntWalk.wrap64_in (7 * (i : Int)) (by omega), if_pos (by omega)]
     obtain ⟨e1, e2, e3, e4⟩ := step_bits x b i h0 hx hbr.1 (by omega) (by omega)
     rw [e1]
     by_cases hlt : b < 128
     ·
      rw [if_pos hlt, if_pos hlt, IntWalk.wrap64_in ((a : Int) + (i : Int)) (by omega), IntWalk.wrap64_in _ (by omega)]
      rfl
     ·
      rw [if_neg hlt, if_neg hlt, IntWalk.wrap64_in ((i : Int) + 1) (by omega), show ((i : Int) + 1) = ((i + 1 : Nat) : Int) by omega]
      exact ih (i + 1) k _ (by omega) (by omega) e2 e3
   by_cases h9 : i = 9
   ·
    rw [if_pos (by omega)]
    by_cases hb1 : b > 1
    ·
     rw [if_pos hb1]; exact tail true (by simp; omega)
    ·
     rw [if_neg hb1, if_pos (by omega)]; exact tail _ (by simp; omega)
   ·
    rw [if_neg (by omega)]
    by_cases hi0 : i = 0
    ·
     rw [if_neg (by omega)]; exact tail false (by simp; omega)
    ·
     rw [if_pos (by omega)]; exact tail _ (by simp; omega)
theorem rn_spec (s : ByteArray) (a : Nat) : ∀ (n i : Nat) (x : Int), i + n = 10 → 0 ≤ x → x < 128 ^ i → (rn s a n i x).2.2 = 0 → 0 ≤ (rn s a n i x).1 ∧ (rn s a n i x).1 ≤ 18446744073709551615 ∧ ∃ m : Nat, (rn s a n i x).2.1 = (m : Int) ∧ a ≤ m ∧ m ≤ s.size
 | 0, _, _, _, _, _, h => by simp [rn] at h
 | n + 1, i, x, hi, h0, hx, h => by
  have hbr := bt_rng s ((a + i : Nat) : Int)
  rw [rn] at h ⊢
  split at h
  ·
   simp at h
  ·
   rename_i he
   split at h
   ·
    simp at h
   ·
    rename_i hq
    obtain ⟨e1, e2, e3, e4⟩ := step_bits x _ i h0 hx hbr.1 (by omega) (by omega)
    rw [if_neg he, if_neg hq]
    split at h
    ·
     rename_i hlt
     rw [if_pos hlt]
     exact ⟨e2, e4, a + i + 1, rfl, by omega, by omega⟩
    ·
     rename_i hlt
     rw [if_neg hlt]
     exact rn_spec s a n (i + 1) _ (by omega) e2 e3 h
def rd0 (s : ByteArray) (a : Nat) : Int × Int × Int := rn s a 10 0 0
theorem oct_ReadNumber (s : ByteArray) (a : Nat) (hs : s.size ≤ 1073741824) (ha : a ≤ s.size) (k : Nat) (hk : 25 ≤ k) : octet_ReadNumber.f k s (a : Int) = some (rd0 s a) := by
 unfold octet_ReadNumber.f
 obtain ⟨k, rfl⟩ : ∃ j, k = j + 1 := ⟨k - 1, by omega⟩
 rw [if_neg (by omega), decide_eq_false (by omega), octet_ReadNumber.j0, if_neg (by simp)]
 exact oct_rn s a hs ha 10 0 k 0 (by omega) (by omega) (by omega) (by decide)
theorem rd0_spec (s : ByteArray) (a : Nat) (h : (rd0 s a).2.2 = 0) : 0 ≤ (rd0 s a).1 ∧ (rd0 s a).1 ≤ 18446744073709551615 ∧ ∃ m : Nat, (rd0 s a).2.1 = (m : Int) ∧ a ≤ m ∧ m ≤ s.size :=
 rn_spec s a 10 0 0 (by omega) (by omega) (by decide) h
theorem txt_size (a : ByteArray) : (txt a).size ≤ a.size + 10 := by
 unfold txt
 have := num_size (a.size : Int)
 rw [ByteArray.size_append]; omega
theorem ba_assoc (a b c : ByteArray) : a ++ b ++ c = a ++ (b ++ c) := by
 apply ByteArray.ext
 simp only [ByteArray.data_append, Array.append_assoc]
def xn (s : ByteArray) (a : Nat) (e : Int) (most : Int) : Int × Int × Int :=
 if e = 0 then (if (rd0 s a).2.2 = 0 then (if (rd0 s a).1 > most then (0, (a : Int), 2) else ((rd0 s a).1, (rd0 s a).2.1, 0)) else (0, (a : Int), (rd0 s a).2.2)) else (0, (a : Int), e)
theorem oct_RNumber (s : ByteArray) (a : Nat) (hs : s.size ≤ 1073741824) (ha : a ≤ s.size) (e most : Int) (k : Nat) (hk : 30 ≤ k) :
  octet_Reader_Number.f k s (a : Int) e most = some ((xn s a e most).1, s, (xn s a e most).2.1, (xn s a e most).2.2) := by
 unfold octet_Reader_Number.f octet_Reader_Err.f xn
 obtain ⟨k, rfl⟩ : ∃ j, k = j + 1 := ⟨k - 1, by omega⟩
 rw [Option.bind_some]
 by_cases he : e = 0
 ·
  rw [if_pos he, if_pos he, oct_ReadNumber s a hs ha (k + 1) (by omega), Option.bind_some]
  by_cases h0 : (rd0 s a).2.2 = 0
  ·
   rw [if_pos h0, if_pos h0, octet_Reader_Number.j0]
   by_cases hm : (rd0 s a).1 > most
   ·
    rw [if_pos (decide_eq_true hm), if_neg (by omega), if_pos hm]
   ·
    rw [if_neg (by simpa using hm), if_pos h0, if_neg hm, he]
  ·
   rw [if_neg h0, if_neg h0, octet_Reader_Number.j0, if_neg (by simp), if_neg h0]
 ·
  rw [if_neg he, if_neg he]
theorem xn_at (s : ByteArray) (a : Nat) (ha : a ≤ s.size) (e most : Int) (hm : 0 ≤ most) : 0 ≤ (xn s a e most).1 ∧ (xn s a e most).1 ≤ most ∧ ∃ m : Nat, (xn s a e most).2.1 = (m : Int) ∧ a ≤ m ∧ m ≤ s.size := by
 unfold xn
 by_cases he : e = 0
 ·
  rw [if_pos he]
  by_cases h0 : (rd0 s a).2.2 = 0
  ·
   rw [if_pos h0]
   obtain ⟨g1, g2, m, g3, g4, g5⟩ := rd0_spec s a h0
   by_cases hmm : (rd0 s a).1 > most
   ·
    rw [if_pos hmm]; exact ⟨Int.le_refl _, hm, a, rfl, Nat.le_refl _, ha⟩
   ·
    rw [if_neg hmm]; exact ⟨g1, by omega, m, g3, g4, g5⟩
  ·
   rw [if_neg h0]; exact ⟨Int.le_refl _, hm, a, rfl, Nat.le_refl _, ha⟩
 ·
  rw [if_neg he]; exact ⟨Int.le_refl _, hm, a, rfl, Nat.le_refl _, ha⟩
theorem oct_RInt (s : ByteArray) (a : Nat) (hs : s.size ≤ 1073741824) (ha : a ≤ s.size) (e most : Int) (hm : 0 ≤ most) (hm2 : most ≤ 9223372036854775807) (k : Nat) (hk : 30 ≤ k) :
  octet_Reader_Int.f k s (a : Int) e most = some ((xn s a e most).1, s, (xn s a e most).2.1, (xn s a e most).2.2) := by
 unfold octet_Reader_Int.f
 obtain ⟨h1, h2, _⟩ := xn_at s a ha e most hm
 rw [if_neg (by omega), IntWalk.u64_in most (by omega), oct_RNumber s a hs ha e most k hk, Option.bind_some]
 show some (wrap64 ((xn s a e most).1), s, (xn s a e most).2.1, (xn s a e most).2.2) = _
 rw [IntWalk.wrap64_in _ (by omega)]
def rt (s : ByteArray) (a : Nat) : ByteArray × Int × Int :=
 if (rd0 s a).2.2 = 0 then (if (rd0 s a).1 > (s.size : Int) - (rd0 s a).2.1 then ((⟨#[]⟩ : ByteArray), 0, 5) else (s.extract (rd0 s a).2.1.toNat ((rd0 s a).2.1 + (rd0 s a).1).toNat, (rd0 s a).2.1 + (rd0 s a).1, 0)) else ((⟨#[]⟩ : ByteArray), 0, (rd0 s a).2.2)
theorem oct_ReadText (s : ByteArray) (a : Nat) (hs : s.size ≤ 1073741824) (ha : a ≤ s.size) (k : Nat) (hk : 25 ≤ k) : octet_ReadText.f k s (a : Int) = some (rt s a) := by
 unfold octet_ReadText.f rt
 rw [oct_ReadNumber s a hs ha k hk, Option.bind_some]
 by_cases h0 : (rd0 s a).2.2 = 0
 ·
  obtain ⟨g1, g2, m, g3, g4, g5⟩ := rd0_spec s a h0
  rw [if_pos h0, if_pos h0, g3, IntWalk.wrap64_in ((s.size : Int) - (m : Int)) (by omega), IntWalk.u64_in _ (by omega)]
  by_cases hm : (rd0 s a).1 > (s.size : Int) - (m : Int)
  ·
   rw [if_pos hm, if_pos hm]
  ·
   rw [if_neg hm, if_neg hm, IntWalk.wrap64_in (rd0 s a).1 (by omega), IntWalk.wrap64_in _ (by omega), if_pos (by omega), if_pos (by omega), if_pos (by omega)]
 ·
  rw [if_neg h0, if_neg h0]
theorem rt_spec (s : ByteArray) (a : Nat) (h : (rt s a).2.2 = 0) : ∃ m : Nat, (rt s a).2.1 = (m : Int) ∧ a ≤ m ∧ m ≤ s.size := by
 unfold rt at h ⊢
 by_cases h0 : (rd0 s a).2.2 = 0
 ·
  obtain ⟨g1, g2, m, g3, g4, g5⟩ := rd0_spec s a h0
  rw [if_pos h0] at h ⊢
  by_cases hm : (rd0 s a).1 > (s.size : Int) - (rd0 s a).2.1
  ·
   rw [if_pos hm] at h; simp at h
  ·
   rw [if_neg hm]
   exact ⟨m + (rd0 s a).1.toNat, by show (rd0 s a).2.1 + (rd0 s a).1 = _; omega, by omega, by omega⟩
 ·
  rw [if_neg h0] at h
  exact absurd h h0
def xt (s : ByteArray) (a : Nat) (e : Int) (most : Int) : ByteArray × Int × Int :=
 if e = 0 then (if (rt s a).2.2 = 0 then (if ((rt s a).1.size : Int) > most then ((⟨#[]⟩ : ByteArray), (a : Int), 2) else ((rt s a).1, (rt s a).2.1, 0)) else ((⟨#[]⟩ : ByteArray), (a : Int), (rt s a).2.2)) else ((⟨#[]⟩ : ByteArray), (a : Int), e)
theorem oct_RText (s : ByteArray) (a : Nat) (hs : s.size ≤ 1073741824) (ha : a ≤ s.size) (e most : Int) (k : Nat) (hk : 30 ≤ k) :
  octet_Reader_Text.f k s (a : Int) e most = some ((xt s a e most).1, s, (xt s a e most).2.1, (xt s a e most).2.2) := by
 unfold octet_Reader_Text.f octet_Reader_Err.f xt
 obtain ⟨k, rfl⟩ : ∃ j, k = j + 1 := ⟨k - 1, by omega⟩
 rw [Option.bind_some]
 by_cases he : e = 0
 ·
  rw [if_pos he, if_pos he, oct_ReadText s a hs ha (k + 1) (by omega), Option.bind_some]
  by_cases h0 : (rt s a).2.2 = 0
  ·
   rw [if_pos h0, if_pos h0, octet_Reader_Text.j0]
   by_cases hm : ((rt s a).1.size : Int) > most
   ·
    rw [if_pos (decide_eq_true hm), if_neg (by omega), if_pos hm]
   ·
    rw [if_neg (by simpa using hm), if_pos h0, if_neg hm, he]
  ·
   rw [if_neg h0, if_neg h0, octet_Reader_Text.j0, if_neg (by simp), if_neg h0]
 ·
  rw [if_neg he, if_neg he]
theorem xt_at (s : ByteArray) (a : Nat) (ha : a ≤ s.size) (e most : Int) (hm : 0 ≤ most) : ((xt s a e most).1.size : Int) ≤ most ∧ ∃ m : Nat, (xt s a e most).2.1 = (m : Int) ∧ a ≤ m ∧ m ≤ s.size := by
 have hz : (((⟨#[]⟩ : ByteArray).size : Nat) : Int) = 0 := rfl
 unfold xt
 by_cases he : e = 0
 ·
  rw [if_pos he]
  by_cases h0 : (rt s a).2.2 = 0
  ·
   rw [if_pos h0]
   by_cases hmm : ((rt s a).1.size : Int) > most
   ·
    rw [if_pos hmm]; exact ⟨by show (((⟨#[]⟩ : ByteArray).size : Nat) : Int) ≤ most; omega, a, rfl, Nat.le_refl _, ha⟩
   ·
    rw [if_neg hmm]; exact ⟨by show ((rt s a).1.size : Int) ≤ most; omega, rt_spec s a h0⟩
  ·
   rw [if_neg h0]; exact ⟨by show (((⟨#[]⟩ : ByteArray).size : Nat) : Int) ≤ most; omega, a, rfl, Nat.le_refl _, ha⟩
 ·
  rw [if_neg he]; exact ⟨by show (((⟨#[]⟩ : ByteArray).size : Nat) : Int) ≤ most; omega, a, rfl, Nat.le_refl _, ha⟩
def by_ (l : List Int) : List UInt8 := l.map fun n => UInt8.ofNat n.toNat
theorem num_by (n : Int) : (num n).data.toList = by_ (nl 9 n) := rfl
theorem bt_head (s : ByteArray) (p : Nat) (b : Int) (h0 : 0 ≤ b) (h1 : b < 256) (rest : List UInt8) (h : s.data.toList.drop p = UInt8.ofNat b.toNat :: rest) : p < s.size ∧ bt s (p : Int) = b ∧ s.data.toList.drop (p + 1) = rest := by
 have hp : p < s.size := by
  rcases Nat.lt_or_ge p s.size with h2 | h2
  ·
   exact h2
  ·
   rw [List.drop_of_length_le (by rw [len_eq]; exact h2)] at h; cases h
 obtain ⟨c, hc, hb⟩ := bt_get s p hp
 rw [hc] at h
 injection h with e1 e2
 refine ⟨hp, ?_, e2⟩
 rw [hb, e1, UInt8.toNat_ofNat']
 omega
theorem rn_back (s : ByteArray) (a : Nat) : ∀ (d i : Nat) (x n : Int) (rest : List UInt8), i + d = 9 → 0 ≤ n → n < 128 ^ (d + 1) → (i = 9 → n ≤ 1) → (0 < i → n ≠ 0) → (8 < i → n < 128) → n * 128 ^ i ≤ 18446744073709551615 → s.data.toList.drop (a + i) = by_ (nl d n) ++ rest →
  rn s a (d + 1) i x = (x + n * 128 ^ i, ((a + i + (nl d n).length : Nat) : Int), 0) := by
 intro d
 induction d with
 | zero =>
  intro i x n rest hi h0 h1 h9 hz h8 hm h
  have h1' : n < 128 := by simpa using h1
  rw [nl] at h ⊢
  obtain ⟨hp, hb, _⟩ := bt_head s (a + i) n h0 (by omega) rest h
  rw [rn, hb, if_neg (by omega), if_neg (by omega), if_pos h1', Int.emod_eq_of_lt h0 h1']
  rfl
 | succ d ih =>
  intro i x n rest hi h0 h1 h9 hz h8 hm h
  by_cases h128 : n < 128
  ·
   have e1 : nl (d + 1) n = [n] := by rw [nl, if_pos h128]
   rw [e1] at h ⊢
   obtain ⟨hp, hb, _⟩ := bt_head s (a + i) n h0 (by omega) rest h
   rw [rn, hb, if_neg (by omega), if_neg (by omega), if_pos h128, Int.emod_eq_of_lt h0 h128]
   rfl
  ·
   have e1 : nl (d + 1) n = (n % 128 + 128) :: nl d (n / 128) := by rw [nl, if_neg h128]
   rw [e1] at h ⊢
   obtain ⟨hp, hb, ht⟩ := bt_head s (a + i) (n % 128 + 128) (by omega) (by omega) (by_ (nl d (n / 128)) ++ rest) h
   have hpow : (128 : Int) ^ (i + 1) = 128 ^ i * 128 := Int.pow_succ _ _
   have hpi : (0 : Int) < 128 ^ i := Int.pow_pos (by omega)
   have hsum : n % 128 * 128 ^ i + n / 128 * 128 ^ (i + 1) = n * 128 ^ i := by
    rw [hpow, Int.mul_comm (128 ^ i) 128, ← Int.mul_assoc, ← Int.add_mul]
    congr 1
    omega
   have hle : n / 128 * 128 ^ (i + 1) ≤ 18446744073709551615 := by
    have : 0 ≤ n % 128 * 128 ^ i := Int.mul_nonneg (by omega) (by omega)
    omega
   rw [rn, hb, if_neg (by omega), if_neg (by omega), if_neg (by omega), show (n % 128 + 128) % 128 = n % 128 by omega]
   rw [ih (i + 1) _ (n / 128) rest (by omega) (by omega) (Int.ediv_lt_of_lt_mul (by omega) (by rw [← Int.pow_succ]; exact h1)) ?_ (by omega) ?_ hle (by rw [← Nat.add_assoc]; exact ht)]
   ·
    rw [Int.add_assoc, hsum]
    congr 2
    simp only [List.length_cons]; omega
   ·
    intro hi9
    obtain rfl : i = 8 := by omega
    have h3 : (128 : Int) ^ (8 + 1) = 9223372036854775808 := by decide
    rw [h3] at hle
    omega
   ·
    intro h8'
    have hi8 : i = 8 := by omega
    subst hi8
    have h3 : (128 : Int) ^ (8 + 1) = 9223372036854775808 := by decide
    rw [h3] at hle
    omega
theorem rd0_back (s : ByteArray) (a : Nat) (n : Int) (rest : List UInt8) (h0 : 0 ≤ n) (h1 : n ≤ 18446744073709551615) (h : s.data.toList.drop a = (num n).data.toList ++ rest) : rd0 s a = (n, ((a + (num n).size : Nat) : Int), 0) := by
 unfold rd0
 rw [rn_back s a 9 0 0 n rest rfl h0 (by omega) (by omega) (by omega) (by omega) (by omega) (by rw [Nat.add_zero]; exact h)]
 have : (num n).size = (nl 9 n).length := strOfNums_size _
 rw [this]
 simp
theorem rn_only (s : ByteArray) (a : Nat) : ∀ (d i : Nat) (x : Int), (rn s a (d + 1) i x).2.2 = 0 → ∃ (n : Int) (m : Nat), 0 ≤ n ∧ (0 < i → n ≠ 0) ∧ (rn s a (d + 1) i x).1 = x + n * 128 ^ i ∧ (rn s a (d + 1) i x).2.1 = (m : Int) ∧ m ≤ s.size ∧ m = a + i + (nl d n).length ∧ s.data.toList.drop (a + i) = by_ (nl d n) ++ s.data.toList.drop m := by
 intro d
 induction d with
 | zero =>
  intro i x h
  rw [rn] at h ⊢
  split at h
  ·
   simp at h
  ·
   rename_i he
   obtain ⟨c, hc, hb⟩ := bt_get s (a + i) (by omega)
   have hc8 := UInt8.toNat_lt c
   split at h
   ·
    simp at h
   ·
    rename_i hq
    split at h
    ·
     rename_i hlt
     rw [if_neg he, if_neg hq, if_pos hlt]
     rw [hb] at hq hlt ⊢
     refine ⟨(c.toNat : Int), a + i + 1, by omega, by omega, by rw [Int.emod_eq_of_lt (by omega) hlt], rfl, by omega, rfl, ?_⟩
     rw [hc]
     show _ = UInt8.ofNat (c.toNat : Int).toNat :: _
     rw [Int.toNat_natCast, UInt8.ofNat_toNat]
     rfl
    ·
     rw [rn] at h; simp at h
 | succ d ih =>
  intro i x h
  rw [rn] at h ⊢
  split at h
  ·
   simp at h
  ·
   rename_i he
   obtain ⟨c, hc, hb⟩ := bt_get s (a + i) (by omega)
   have hc8 := UInt8.toNat_lt c
   split at h
   ·
    simp at h
   ·
    rename_i hq
    split at h
    ·
     rename_i hlt
     rw [if_neg he, if_neg hq, if_pos hlt]
     rw [hb] at hq hlt ⊢
     refine ⟨(c.toNat : Int), a + i + 1, by omega, by omega, by rw [Int.emod_eq_of_lt (by omega) hlt], rfl, by omega, by rw [nl, if_pos hlt]; rfl, ?_⟩
     rw [hc, nl, if_pos hlt]
     show _ = UInt8.ofNat (c.toNat : Int).toNat :: _
     rw [Int.toNat_natCast, UInt8.ofNat_toNat]
     rfl
    ·
     rename_i hlt
     rw [if_neg he, if_neg hq, if_neg hlt]
     obtain ⟨n, m, g0, g1, g2, g3, g4, g5, g6⟩ := ih (i + 1) _ h
     rw [g2, g3]
     rw [hb] at hq hlt ⊢
     have hn1 : n ≠ 0 := g1 (by omega)
     have hge : ¬ (((c.toNat : Int) % 128 + 128 * n) < 128) := by omega
     have hnl : nl (d + 1) ((c.toNat : Int) % 128 + 128 * n) = (c.toNat : Int) :: nl d n := by
      rw [nl, if_neg hge, show ((c.toNat : Int) % 128 + 128 * n) % 128 + 128 = (c.toNat : Int) by omega, show ((c.toNat : Int) % 128 + 128 * n) / 128 = n by omega]
     refine ⟨(c.toNat : Int) % 128 + 128 * n, m, by omega, by omega, ?_, rfl, g4, by rw [hnl, List.length_cons]; omega, ?_⟩
     ·
      have hpow : (128 : Int) ^ (i + 1) = 128 ^ i * 128 := Int.pow_succ _ _
      rw [hpow, Int.mul_comm (128 ^ i) 128, ← Int.mul_assoc, Int.mul_comm n 128, Int.add_assoc, ← Int.add_mul]
     ·
      rw [hc, hnl]
      show _ = UInt8.ofNat (c.toNat : Int).toNat :: _
      rw [Int.toNat_natCast, UInt8.ofNat_toNat]
      show c :: _ = c :: (by_ (nl d n) ++ _)
      rw [← g6, Nat.add_assoc]
theorem rd0_only (s : ByteArray) (a : Nat) (h : (rd0 s a).2.2 = 0) : ∃ m : Nat, (rd0 s a).2.1 = (m : Int) ∧ m ≤ s.size ∧ m = a + (num (rd0 s a).1).size ∧ s.data.toList.drop a = (num (rd0 s a).1).data.toList ++ s.data.toList.drop m := by
 obtain ⟨n, m, g0, g1, g2, g3, g4, g5, g6⟩ := rn_only s a 9 0 0 h
 have e1 : (rd0 s a).1 = n := by
  show (rn s a 10 0 0).1 = n
  rw [g2]; simp
 have hsz : (num n).size = (nl 9 n).length := strOfNums_size _
 rw [e1]
 refine ⟨m, g3, g4, by rw [hsz]; omega, ?_⟩
 rw [num_by]
 simpa using g6
theorem extract_list (s : ByteArray) (i j : Nat) : (s.extract i j).data.toList = (s.data.toList.drop i).take (j - i) := by
 rw [ByteArray.data_extract, Array.toList_extract, List.extract_eq_take_drop]
theorem txt_list (t : ByteArray) : (txt t).data.toList = (num (t.size : Int)).data.toList ++ t.data.toList := by
 unfold txt
 rw [ByteArray.data_append, Array.toList_append]
theorem drop_add (s : ByteArray) (a : Nat) (p q : List UInt8) (h : s.data.toList.drop a = p ++ q) : s.data.toList.drop (a + p.length) = q := by
 rw [← List.drop_drop, h, List.drop_left]
set_option maxRecDepth 100000 in
theorem rt_back (s t : ByteArray) (a : Nat) (rest : List UInt8) (ht : t.size ≤ 1073741824) (h : s.data.toList.drop a = (txt t).data.toList ++ rest) : rt s a = (t, ((a + (txt t).size : Nat) : Int), 0) := by
 rw [txt_list, List.append_assoc] at h
 have h1 := rd0_back s a (t.size : Int) _ (by omega) (by omega) h
 have h2 := drop_add s a _ _ h
 rw [len_eq] at h2
 have h3 : a + (num (t.size : Int)).size + t.size ≤ s.size := by
  have := congrArg List.length h2
  rw [List.length_drop, List.length_append, len_eq, len_eq] at this
  by_cases h0 : t.size = 0
  ·
   have h4 := congrArg List.length h
   rw [List.length_drop, List.length_append, len_eq, len_eq] at h4
   have h5 : 0 < (num (t.size : Int)).size := by
    have : (num (t.size : Int)).size = (nl 9 (t.size : Int)).length := strOfNums_size _
    rw [this, nl]
    split <;> simp
   omega
  ·
   omega
 have hts : (txt t).size = (num (t.size : Int)).size + t.size := ByteArray.size_append ..
 unfold rt
 rw [h1]
 rw [if_pos rfl, if_neg (by show ¬ ((t.size : Int) > (s.size : Int) - ((a + (num (t.size : Int)).size : Nat) : Int)); omega)]
 show (s.extract ((a + (num (t.size : Int)).size : Nat) : Int).toNat (((a + (num (t.size : Int)).size : Nat) : Int) + (t.size : Int)).toNat, ((a + (num (t.size : Int)).size : Nat) : Int) + (t.size : Int), (0 : Int)) = _
 have e2 : s.extract ((a + (num (t.size : Int)).size : Nat) : Int).toNat (((a + (num (t.size : Int)).size : Nat) : Int) + (t.size : Int)).toNat = t := by
  apply ByteArray.ext
  apply Array.ext'
  rw [extract_list, Int.toNat_natCast, h2, show (((a + (num (t.size : Int)).size : Nat) : Int) + (t.size : Int)).toNat - (a + (num (t.size : Int)).size) = t.data.toList.length by rw [len_eq]; omega, List.take_left]
 rw [e2, hts]
 congr 2
 omega
theorem rt_only (s : ByteArray) (a : Nat) (h : (rt s a).2.2 = 0) : ∃ m : Nat, (rt s a).2.1 = (m : Int) ∧ m ≤ s.size ∧ s.data.toList.drop a = (txt (rt s a).1).data.toList ++ s.data.toList.drop m := by
 unfold rt at h ⊢
 by_cases h0 : (rd0 s a).2.2 = 0
 ·
  rw [if_pos h0] at h ⊢
  obtain ⟨m, g1, g2, g3, g4⟩ := rd0_only s a h0
  have hsp := rd0_spec s a h0
  rw [g1] at h ⊢
  by_cases hm : (rd0 s a).1 > (s.size : Int) - (m : Int)
  ·
   rw [if_pos hm] at h; simp at h
  ·
   rw [if_neg hm] at h ⊢
   have hz : (s.extract (m : Int).toNat ((m : Int) + (rd0 s a).1).toNat).data.toList = (s.data.toList.drop m).take (rd0 s a).1.toNat := by
    rw [extract_list, Int.toNat_natCast]
    congr 1
    omega
   have hsz : (((s.extract (m : Int).toNat ((m : Int) + (rd0 s a).1).toNat).size : Nat) : Int) = (rd0 s a).1 := by
    have := congrArg List.length hz
    rw [len_eq, List.length_take, List.length_drop, len_eq] at this
    omega
   refine ⟨m + (rd0 s a).1.toNat, by show (m : Int) + (rd0 s a).1 = _; omega, by omega, ?_⟩
   show _ = (txt (s.extract (m : Int).toNat ((m : Int) + (rd0 s a).1).toNat)).data.toList ++ _
   rw [txt_list, hsz, hz, g4, List.append_assoc]
   congr 1
   rw [← List.drop_drop, List.take_append_drop]
 ·
  rw [if_neg h0] at h
  exact absurd h h0
theorem xt_back (s t : ByteArray) (a : Nat) (most : Int) (rest : List UInt8) (ht : t.size ≤ 1073741824) (hm : (t.size : Int) ≤ most) (h : s.data.toList.drop a = (txt t).data.toList ++ rest) : xt s a 0 most = (t, ((a + (txt t).size : Nat) : Int), 0) := by
 unfold xt
 rw [rt_back s t a rest ht h, if_pos rfl, if_pos rfl, if_neg (by show ¬ ((t.size : Int) > most); omega)]
theorem xn_back (s : ByteArray) (a : Nat) (n most : Int) (rest : List UInt8) (h0 : 0 ≤ n) (h1 : n ≤ 18446744073709551615) (hm : n ≤ most) (h : s.data.toList.drop a = (num n).data.toList ++ rest) : xn s a 0 most = (n, ((a + (num n).size : Nat) : Int), 0) := by
 unfold xn
 rw [rd0_back s a n rest h0 h1 h, if_pos rfl, if_pos rfl, if_neg (by show ¬ (n > most); omega)]
theorem size_le (s : ByteArray) (a : Nat) (p q : List UInt8) (hp : 0 < p.length) (h : s.data.toList.drop a = p ++ q) : a + p.length ≤ s.size := by
 have := congrArg List.length h
 rw [List.length_drop, List.length_append, len_eq] at this
 omega
theorem num_pos (n : Int) : 0 < (num n).data.toList.length := by
 rw [len_eq, show (num n).size = (nl 9 n).length from strOfNums_size _, nl]
 split <;> simp
theorem txt_pos (t : ByteArray) : 0 < (txt t).data.toList.length := by
 rw [txt_list, List.length_append]
 have := num_pos (t.size : Int)
 omega
theorem xn_e (s : ByteArray) (a : Nat) (e most : Int) (h : (xn s a e most).2.2 = 0) : e = 0 ∧ ∃ m : Nat, (xn s a e most).2.1 = (m : Int) ∧ m ≤ s.size ∧ s.data.toList.drop a = (num (xn s a e most).1).data.toList ++ s.data.toList.drop m := by
 unfold xn at h ⊢
 by_cases he : e = 0
 ·
  rw [if_pos he] at h ⊢
  by_cases h0 : (rd0 s a).2.2 = 0
  ·
   rw [if_pos h0] at h ⊢
   by_cases hm : (rd0 s a).1 > most
   ·
    rw [if_pos hm] at h; simp at h
   ·
    rw [if_neg hm]
    obtain ⟨m, g1, g2, g3, g4⟩ := rd0_only s a h0
    exact ⟨he, m, g1, g2, g4⟩
  ·
   rw [if_neg h0] at h; exact absurd h h0
 ·
  rw [if_neg he] at h; exact absurd h he
theorem xt_e (s : ByteArray) (a : Nat) (e most : Int) (h : (xt s a e most).2.2 = 0) : e = 0 ∧ ∃ m : Nat, (xt s a e most).2.1 = (m : Int) ∧ m ≤ s.size ∧ s.data.toList.drop a = (txt (xt s a e most).1).data.toList ++ s.data.toList.drop m := by
 unfold xt at h ⊢
 by_cases he : e = 0
 ·
  rw [if_pos he] at h ⊢
  by_cases h0 : (rt s a).2.2 = 0
  ·
   rw [if_pos h0] at h ⊢
   by_cases hm : ((rt s a).1.size : Int) > most
   ·
    rw [if_pos hm] at h; simp at h
   ·
    rw [if_neg hm]
    obtain ⟨m, g1, g2, g4⟩ := rt_only s a h0
    exact ⟨he, m, g1, g2, g4⟩
  ·
   rw [if_neg h0] at h; exact absurd h h0
 ·
  rw [if_neg he] at h; exact absurd h he
end Go.Proofs.YtdidopoalmkhlaaDoor.Pure
end
section
namespace Go.Proofs.YtdidopoalmkhlaaDoor.Pure
open Go.RowKit Go.Proofs.YtdidopoalmkhlaaDoor.Od Go.Proofs.YtdidopoalmkhlaaDoorW.PrintWords Go.Proofs.YtdidopoalmkhlaaDoorW.PrintLast Go.Proofs.YtdidopoalmkhlaaDoorW.PrintMore
set_option linter.unusedVariables false
set_option linter.unusedSimpArgs false
set_option maxRecDepth 100000
abbrev Piece := S82
abbrev Pick := S62
def dig (s : ByteArray) : ByteArray := Sha.ofB (Sha.hexL (Sha.ofB (Sha.sha (Sha.tagB (BitVec.ofInt 8 67) [s]))).data.toList)
theorem sum_size (ss : List ByteArray) : (Sha.ofB (Sha.sha (Sha.tagB (BitVec.ofInt 8 67) ss))).size = 32 := by
 rw [Sha.ofB_size, Sha.sha, Sha.out_length]
theorem dig_size (s : ByteArray) : (dig s).size = 64 := by
 unfold dig
 rw [Sha.ofB_size, Sha.two_length, len_eq, sum_size]
theorem tag_one (s : ByteArray) : (Sha.tagB (BitVec.ofInt 8 67) [s]).length = 9 + s.size := by
 unfold Sha.tagB
 rw [List.length_append, List.flatMap_cons, List.length_append, Sha.partB_length, List.flatMap_nil]
 simp only [List.length_cons, List.length_nil]
 omega
theorem dig_tag (s : ByteArray) (h : s.size ≤ 1073741824) : digest_Tagged.f 67 [s] = some (Sha.ofB (Sha.sha (Sha.tagB (BitVec.ofInt 8 67) [s]))) := by
 show Sha.tagF 67 [s] = _
 unfold Sha.tagF
 rw [if_pos ⟨by decide, by decide, by rw [tag_one]; omega⟩]
theorem dig_hex (s : ByteArray) : digest_Hex.f (Sha.ofB (Sha.sha (Sha.tagB (BitVec.ofInt 8 67) [s]))) = some (dig s) := by
 show Sha.hexF _ = _
 unfold Sha.hexF
 rw [if_pos (by rw [sum_size]; decide)]
 rfl
def B0 : ByteArray := ⟨#[]⟩
def B1 : ByteArray := ⟨#[111, 110, 101]⟩
def B2 : ByteArray := ⟨#[1, 0, 3, 111, 110, 101]⟩
def B3 : ByteArray := ⟨#[116]⟩
theorem aw_chk1 : cmd_Check.f 200 1 (⟨#[]⟩ : ByteArray) (⟨#[111, 110, 101]⟩ : ByteArray) (⟨#[]⟩ : ByteArray) 0 0 (⟨#[]⟩ : ByteArray) ([] : List Piece) ([] : List Pick) = some 0 := by kernel_rfl
theorem aw_chk2 : cmd_Check.f 200 1 (⟨#[116]⟩ : ByteArray) (⟨#[111, 110, 101]⟩ : ByteArray) (⟨#[]⟩ : ByteArray) 0 0 (⟨#[]⟩ : ByteArray) ([] : List Piece) ([] : List Pick) = some 0 := by kernel_rfl
theorem aw_told : cmd_told.f 200 1 (⟨#[]⟩ : ByteArray) (⟨#[111, 110, 101]⟩ : ByteArray) (⟨#[]⟩ : ByteArray) 0 0 (⟨#[]⟩ : ByteArray) ([] : List Piece) ([] : List Pick) = some B2 := by kernel_rfl
theorem aw_dec : cmd_Decode.f 200 B2 = some (1, B0, B1, B0, 0, 0, B0, ([] : List Piece), ([] : List Pick), 0) := by kernel_rfl
theorem awake_true (k : Nat) (hk : 200 ≤ k) : stowagelaw16_awake.f k = some true := by
 have h1 := up_to (f := fun k => cmd_Check.f k 1 (⟨#[]⟩ : ByteArray) (⟨#[111, 110, 101]⟩ : ByteArray) (⟨#[]⟩ : ByteArray) 0 0 (⟨#[]⟩ : ByteArray) ([] : List Piece) ([] : List Pick)) (fun k => cmd_Check.mono _ _ _ _ _ _ _ _ _ k) aw_chk1 hk
 have h2 := up_to (f := fun k => cmd_Check.f k 1 (⟨#[116]⟩ : ByteArray) (⟨#[111, 110, 101]⟩ : ByteArray) (⟨#[]⟩ : ByteArray) 0 0 (⟨#[]⟩ : ByteArray) ([] : List Piece) ([] : List Pick)) (fun k => cmd_Check.mono _ _ _ _ _ _ _ _ _ k) aw_chk2 hk
 have h3 := up_to (f := fun k => cmd_told.f k 1 (⟨#[]⟩ : ByteArray) (⟨#[111, 110, 101]⟩ : ByteArray) (⟨#[]⟩ : ByteArray) 0 0 (⟨#[]⟩ : ByteArray) ([] : List Piece) ([] : List Pick)) (fun k => cmd_told.mono _ _ _ _ _ _ _ _ _ k) aw_told hk
 have h4 := up_to (f := fun k => cmd_Decode.f k B2) (fun k => cmd_Decode.mono _ k) aw_dec hk
 have h5 := dig_tag B2 (by decide +kernel)
 have h6 := dig_hex B2
 unfold stowagelaw16_awake.f cmd_Encode.f cmd_Digest.f
 simp only [h1, h2, h3, h4, h5, h6, Option.bind_some, if_true]
 rw [if_pos (by kernel_rfl), if_pos (by kernel_rfl)]
 have h7 : ((((dig B2).size : Nat) : Int) == 64) = true := by rw [dig_size]; rfl
 rw [h7]
end Go.Proofs.YtdidopoalmkhlaaDoor.Pure
end
section
namespace Go.Proofs.YtdidopoalmkhlaaDoor.Pure
open Go.RowKit Go.Proofs.YtdidopoalmkhlaaDoor.Od Go.Proofs.YtdidopoalmkhlaaDoorW.PrintWords Go.Proofs.YtdidopoalmkhlaaDoorW.PrintLast Go.Proofs.YtdidopoalmkhlaaDoorW.PrintMore
set_option linter.unusedVariables false
set_option linter.unusedSimpArgs false
def tokC (c : UInt8) : Bool := decide (33 ≤ c.toNat) && decide (c.toNat ≤ 126)
def tokOk (a : ByteArray) : Bool := a.data.toList.all tokC && (decide (1 ≤ a.size) && decide (a.size ≤ 64))
theorem toList_nil (a : ByteArray) : a.toList = ([] : List UInt8) ↔ a.size = 0 := by
 rw [ByteArray.toList_eq, ← len_eq, List.length_eq_zero_iff]
theorem names_tok (a : ByteArray) (hs : a.size ≤ 9223372036854775807) : ∀ n i k, i + n = a.size → n < k → names_Token.l0 k a (a.size : Int) (i : Int) = some ((a.data.toList.drop i).all tokC && (decide (1 ≤ a.size) && decide (a.size ≤ 64))) := by
 intro n
 induction n with
 | zero =>
  intro i k hi hk
  obtain ⟨k, rfl⟩ : ∃ j, k = j + 1 := ⟨k - 1, by omega⟩
  rw [names_Token.l0, if_neg (by omega), List.drop_of_length_le (by rw [len_eq]; omega)]
  by_cases h0 : a.size = 0
  ·
   rw [if_pos ((toList_nil a).2 h0)]; simp [h0]
  ·
   rw [if_neg (fun h => h0 ((toList_nil a).1 h))]
   have h1 : decide (1 ≤ a.size) = true := decide_eq_true (by omega)
   rw [h1]
   simp only [List.all_nil, Bool.true_and]
   congr 1
   exact decide_eq_decide.2 (by omega)
 | succ n ih =>
  intro i k hi hk
  obtain ⟨k, rfl⟩ : ∃ j, k = j + 1 := ⟨k - 1, by omega⟩
  obtain ⟨c, hd, hb⟩ := bt_get a i (by omega)
  rw [names_Token.l0, if_pos (by omega), if_pos (by omega), if_pos (by omega), hb, hd, List.all_cons]
  by_cases h1 : (c.toNat : Int) < 33
  ·
   rw [if_pos h1]; simp [tokC, show ¬ 33 ≤ c.toNat by omega]
  ·
   rw [if_neg h1]
   by_cases h2 : (c.toNat : Int) > 126
   ·
    rw [if_pos h2]; simp [tokC, show ¬ c.toNat ≤ 126 by omega]
   ·
    rw [if_neg h2, IntWalk.wrap64_in _ (by omega), show ((i : Int) + 1) = ((i + 1 : Nat) : Int) by omega, ih (i + 1) k (by omega) (by omega)]
    have h3 : tokC c = true := by simp [tokC]; omega
    rw [h3, Bool.true_and]
theorem names_Token_eq (a : ByteArray) (hs : a.size ≤ 1073741824) (k : Nat) (hk : 1073741825 ≤ k) : names_Token.f k a = some (tokOk a) :=
 names_tok a (by omega) a.size 0 k (by omega) (by omega)
theorem ref_tok (a : ByteArray) (hs : a.size ≤ 9223372036854775807) : ∀ n i k, i + n = a.size → n < k → stowageref12_Token.l0 k a (i : Int) = some ((a.data.toList.drop i).all tokC && (decide (1 ≤ a.size) && decide (a.size ≤ 64))) := by
 intro n
 induction n with
 | zero =>
  intro i k hi hk
  obtain ⟨k, rfl⟩ : ∃ j, k = j + 1 := ⟨k - 1, by omega⟩
  rw [stowageref12_Token.l0, if_neg (by omega), List.drop_of_length_le (by rw [len_eq]; omega)]
  by_cases h0 : a.size = 0
  ·
   rw [if_neg (by omega)]; simp [h0]
  ·
   rw [if_pos (by omega)]
   have h1 : decide (1 ≤ a.size) = true := decide_eq_true (by omega)
   rw [h1]
   simp only [List.all_nil, Bool.true_and]
   congr 1
   exact decide_eq_decide.2 (by omega)
 | succ n ih =>
  intro i k hi hk
  obtain ⟨k, rfl⟩ : ∃ j, k = j + 1 := ⟨k - 1, by omega⟩
  obtain ⟨c, hd, hb⟩ := bt_get a i (by omega)
  rw [stowageref12_Token.l0, if_pos (by omega), if_pos (by omega), hb, hd, List.all_cons]
  by_cases h1 : (c.toNat : Int) < 33
  ·
   rw [if_pos h1]; simp [tokC, show ¬ 33 ≤ c.toNat by omega]
  ·
   rw [if_neg h1]
   by_cases h2 : (c.toNat : Int) > 126
   ·
    rw [if_pos h2]; simp [tokC, show ¬ c.toNat ≤ 126 by omega]
   ·
    rw [if_neg h2, IntWalk.wrap64_in _ (by omega), show ((i : Int) + 1) = ((i + 1 : Nat) : Int) by omega, ih (i + 1) k (by omega) (by omega)]
    have h3 : tokC c = true := by simp [tokC]; omega
    rw [h3, Bool.true_and]
theorem ref_Token_eq (a : ByteArray) (hs : a.size ≤ 9223372036854775807) (k : Nat) (hk : 9223372036854775808 ≤ k) : stowageref12_Token.f k a = some (tokOk a) :=
 ref_tok a hs a.size 0 k (by omega) (by omega)
def keyOk (a : ByteArray) : Bool := a.data.toList.all (fun c => !(c == 0)) && (decide (1 ≤ a.size) && decide (a.size ≤ 1024))
theorem ref_key (a : ByteArray) (hs : a.size ≤ 9223372036854775807) : ∀ n i k, i + n = a.size → n < k → stowageref12_Key.l0 k a (i : Int) = some ((a.data.toList.drop i).all (fun c => !(c == 0)) && (decide (1 ≤ a.size) && decide (a.size ≤ 1024))) := by
 intro n
 induction n with
 | zero =>
  intro i k hi hk
  obtain ⟨k, rfl⟩ : ∃ j, k = j + 1 := ⟨k - 1, by omega⟩
  rw [stowageref12_Key.l0, if_neg (by omega), List.drop_of_length_le (by rw [len_eq]; omega)]
  by_cases h0 : a.size = 0
  ·
   rw [if_neg (by omega)]; simp [h0]
  ·
   rw [if_pos (by omega)]
   have h1 : decide (1 ≤ a.size) = true := decide_eq_true (by omega)
   rw [h1]
   simp only [List.all_nil, Bool.true_and]
   congr 1
   exact decide_eq_decide.2 (by omega)
 | succ n ih =>
  intro i k hi hk
  obtain ⟨k, rfl⟩ : ∃ j, k = j + 1 := ⟨k - 1, by omega⟩
  obtain ⟨c, hd, hb⟩ := bt_get a i (by omega)
  rw [stowageref12_Key.l0, if_pos (by omega), if_pos (by omega), hb, hd, List.all_cons]
  by_cases h1 : (c.toNat : Int) = 0
  ·
   have hc : c = 0 := UInt8.toNat_inj.1 (by rw [show c.toNat = 0 by omega]; rfl)
   rw [if_pos h1, hc]; rfl
  ·
   have hc : (c == 0) = false := beq_eq_false_iff_ne.2 (fun e => h1 (by rw [e]; rfl))
   rw [if_neg h1, IntWalk.wrap64_in _ (by omega), show ((i : Int) + 1) = ((i + 1 : Nat) : Int) by omega, ih (i + 1) k (by omega) (by omega), hc, Bool.not_false, Bool.true_and]
theorem ref_Key_eq (a : ByteArray) (hs : a.size ≤ 9223372036854775807) (k : Nat) (hk : 9223372036854775808 ≤ k) : stowageref12_Key.f k a = some (keyOk a) :=
 ref_key a hs a.size 0 k (by omega) (by omega)
theorem contains_cons (b : UInt8) (l sub : List UInt8) : Lib.contains (b :: l) sub = (sub.isPrefixOf (b :: l) || Lib.contains l sub) := by
 unfold Lib.contains
 rw [Lib.index]
 have hg := Lib.index_ge l sub
 cases h : sub.isPrefixOf (b :: l) with
 | true => simp
 | false =>
  simp only [Bool.false_eq_true, if_false, Bool.false_or]
  by_cases h1 : Lib.index l sub = -1
  ·
   rw [h1]; decide
  ·
   rw [if_neg (by simpa using h1)]
   exact decide_eq_decide.2 (by omega)
theorem contains_zero : ∀ l : List UInt8, Lib.contains l [0] = !(l.all fun c => !(c == 0))
 | [] => by decide
 | b :: l => by
  rw [contains_cons, contains_zero l, List.all_cons]
  have : List.isPrefixOf [0] (b :: l) = (b == 0) := by simp [List.isPrefixOf, eq_comm, Bool.beq_comm]
  rw [this]
  cases (b == 0) <;> simp
theorem names_Key_eq (a : ByteArray) (hs : a.size ≤ 9223372036854775807) : names_Key.f a = some (keyOk a) := by
 unfold names_Key.f keyOk
 by_cases h0 : a.size = 0
 ·
  rw [if_pos ((toList_nil a).2 h0)]; simp [h0]
 ·
  rw [if_neg (fun h => h0 ((toList_nil a).1 h))]
  have h1 : decide (1 ≤ a.size) = true := decide_eq_true (by omega)
  by_cases h2 : a.size ≤ 1024
  ·
   rw [if_pos (by omega)]
   unfold strings_Contains.f
   rw [if_pos (by omega), Option.bind_some, show (⟨#[0]⟩ : ByteArray).data.toList = [0] from rfl, contains_zero, h1]
   simp [h2]
  ·
   rw [if_neg (by omega)]; simp [h2]
def plainC (c : UInt8) : Bool := (decide (97 ≤ c.toNat) && decide (c.toNat ≤ 122)) || (decide (48 ≤ c.toNat) && decide (c.toNat ≤ 57))
def okC (c : UInt8) : Bool := plainC c || (c == 46 || c == 45)
def dd : List UInt8 → Bool
 | a :: b :: l => (a == 46 && b == 46) || dd (b :: l)
 | _ => false
def endOk : List UInt8 → Bool
 | [] => true
 | [c] => plainC c
 | _ :: b :: l => endOk (b :: l)
def R : Option UInt8 → List UInt8 → Bool
 | _, [] => true
 | p, c :: l => (plainC c || ((c == 45 || c == 46) && (p.isSome && (!l.isEmpty && !(c == 46 && p == some 46))))) && R (some c) l
theorem plain_ne (c : UInt8) (h : plainC c = true) : (c == 46) = false ∧ (c == 45) = false := by
 refine ⟨beq_eq_false_iff_ne.2 ?_, beq_eq_false_iff_ne.2 ?_⟩ <;> (rintro rfl; exact absurd h (by decide))
theorem R_some : ∀ (l : List UInt8) (q : UInt8), R (some q) l = (endOk l && (!dd (q :: l) && l.all okC))
 | [], q => by simp [R, endOk, dd]
 | [c], q => by
  have hp := plain_ne c
  simp only [R, endOk, dd, List.all_cons, List.all_nil, okC, List.isEmpty_nil, Option.isSome_some]
  cases h : plainC c with
  | true => obtain ⟨h1, h2⟩ := hp h; simp [h1, h2]
  | false => simp
 | c :: r :: l, q => by
  have hp := plain_ne c
  have ih := R_some (r :: l) c
  rw [R, ih]
  simp only [endOk, dd, List.all_cons, List.isEmpty_cons, Option.isSome_some, okC]
  have hq : (some q == some (46 : UInt8)) = (q == 46) := rfl
  rw [hq]
  generalize endOk (r :: l) = A
  generalize dd (r :: l) = B
  generalize l.all okC = C
  cases h : plainC c with
  | true => obtain ⟨h1, h2⟩ := hp h; simp [h1, h2, Bool.and_assoc]
  | false => cases (c == 45) <;> cases (c == 46) <;> cases (q == 46) <;> cases (r == 46) <;> cases A <;> cases B <;> cases C <;> simp
theorem R_none (c : UInt8) (l : List UInt8) : R none (c :: l) = (plainC c && (endOk (c :: l) && (!dd (c :: l) && (c :: l).all okC))) := by
 rw [R, R_some]
 have h1 : okC c = (plainC c || (c == 46 || c == 45)) := rfl
 cases h : plainC c with
 | false => simp
 | true =>
  cases l with
  | nil => simp [endOk, h, dd, h1]
  | cons r l => simp [endOk, h, h1]
def bucketOk (a : ByteArray) : Bool := decide (3 ≤ a.size) && (decide (a.size ≤ 63) && R none a.data.toList)
theorem names_plain_eq (c : UInt8) : names_plain.f (c.toNat : Int) = some (plainC c) := by
 have h : ∀ n, n < 256 → names_plain.f (((UInt8.ofNat n).toNat : Nat) : Int) = some (plainC (UInt8.ofNat n)) := by decide +kernel
 have h2 := h c.toNat (UInt8.toNat_lt c)
 rwa [UInt8.ofNat_toNat] at h2
theorem plain_1 (c : UInt8) (h1 : (c.toNat : Int) ≥ 97) (h2 : (c.toNat : Int) ≤ 122) : true = plainC c := by
 unfold plainC; rw [decide_eq_true (by omega : 97 ≤ c.toNat), decide_eq_true (by omega : c.toNat ≤ 122)]; rfl
theorem plain_2 (c : UInt8) (h : ¬ ((c.toNat : Int) ≥ 97 ∧ (c.toNat : Int) ≤ 122)) (h1 : (c.toNat : Int) ≥ 48) : decide ((c.toNat : Int) ≤ 57) = plainC c := by
 unfold plainC
 have h3 : (decide (97 ≤ c.toNat) && decide (c.toNat ≤ 122)) = false := by
  rw [Bool.eq_false_iff]; intro h3; simp only [Bool.and_eq_true, decide_eq_true_eq] at h3; omega
 rw [h3, decide_eq_true (by omega : 48 ≤ c.toNat), Bool.false_or, Bool.true_and]
 exact decide_eq_decide.2 (by omega)
theorem plain_3 (c : UInt8) (h : ¬ ((c.toNat : Int) ≥ 97 ∧ (c.toNat : Int) ≤ 122)) (h1 : ¬ (c.toNat : Int) ≥ 48) : false = plainC c := by
 unfold plainC
 have h3 : (decide (97 ≤ c.toNat) && decide (c.toNat ≤ 122)) = false := by
  rw [Bool.eq_false_iff]; intro h3; simp only [Bool.and_eq_true, decide_eq_true_eq] at h3; omega
 rw [h3, decide_eq_false (by omega : ¬ 48 ≤ c.toNat)]; rfl
def prev (a : ByteArray) (i : Nat) : Option UInt8 := if i = 0 then none else a.data.toList[i - 1]?
theorem prev_bt (a : ByteArray) (i : Nat) (h0 : 0 < i) (h : i ≤ a.size) : ∃ q, prev a i = some q ∧ bt a ((i : Int) - 1) = (q.toNat : Int) ∧ a.data.toList[i - 1]? = some q := by
 obtain ⟨c, hd, hb⟩ := bt_get a (i - 1) (by omega)
 have h1 : a.data.toList[i - 1]? = some c := by
  have := congrArg List.head? hd
  rw [List.head?_drop] at this
  simpa using this
 refine ⟨c, ?_, ?_, h1⟩
 ·
  unfold prev; rw [if_neg (by omega)]; exact h1
 ·
  rw [← hb]; congr 1; omega
theorem c_eq (c : UInt8) (n : Nat) (hn : n < 256) : ((c.toNat : Int) = (n : Int)) ↔ (c == UInt8.ofNat n) = true := by
 rw [beq_iff_eq]
 constructor
 ·
  intro h
  have : c.toNat = n := by omega
  rw [← this, UInt8.ofNat_toNat]
 ·
  intro h
  rw [h]
  have : (UInt8.ofNat n).toNat = n := by simp [UInt8.toNat_ofNat]; omega
  omega
theorem ref_bucket (a : ByteArray) (hs : a.size ≤ 63) : ∀ n i k, i + n = a.size → 2 * n < k → stowageref12_Bucket.l0 k a (a.size : Int) (i : Int) = some (R (prev a i) (a.data.toList.drop i)) := by
 intro n
 induction n with
 | zero =>
  intro i k hi hk
  obtain ⟨k, rfl⟩ : ∃ j, k = j + 1 := ⟨k - 1, by omega⟩
  rw [stowageref12_Bucket.l0, if_neg (by omega), List.drop_of_length_le (by rw [len_eq]; omega)]
  simp [R]
 | succ n ih =>
  intro i k hi hk
  obtain ⟨k, rfl⟩ : ∃ j, k = j + 1 + 1 := ⟨k - 2, by omega⟩
  obtain ⟨c, hd, hb⟩ := bt_get a i (by omega)
  have hnx := ih (i + 1) k (by omega) (by omega)
  have hpn : prev a (i + 1) = some c := by
   obtain ⟨q, h1, h2, h3⟩ := prev_bt a (i + 1) (by omega) (by omega)
   rw [h1]
   have := congrArg List.head? hd
   rw [List.head?_drop] at this
   rw [show i + 1 - 1 = i by omega] at h3
   rw [h3] at this
   simpa using this
  rw [hpn] at hnx
  have hw : (wrap64 ((i : Int) + 1)) = ((i + 1 : Nat) : Int) := by rw [IntWalk.wrap64_in _ (by omega)]; omega
  have hj : ∀ t : Bool, t = plainC c → stowageref12_Bucket.j2 (k + 1) a (a.size : Int) (i : Int) (c.toNat : Int) t = some (R (prev a i) (a.data.toList.drop i)) := by
   intro t ht
   rw [hd, R, stowageref12_Bucket.j2, hw, hnx, ht]
   have hl : (a.data.toList.drop (i + 1)).isEmpty = decide (i + 1 = a.size) := by
    cases hdr : a.data.toList.drop (i + 1) with
    | nil =>
     have h1 := congrArg List.length hdr
     rw [List.length_drop, len_eq] at h1
     simp only [List.length_nil] at h1
     rw [decide_eq_true (by omega)]; rfl
    | cons x l =>
     have h1 := congrArg List.length hdr
     rw [List.length_drop, len_eq] at h1
     simp only [List.length_cons] at h1
     rw [decide_eq_false (by omega)]; rfl
   have hw2 : wrap64 ((a.size : Int) - 1) = (a.size : Int) - 1 := IntWalk.wrap64_in _ (by omega)
   have h45 := c_eq c 45 (by omega)
   have h46 := c_eq c 46 (by omega)
   have e45 : UInt8.ofNat 45 = 45 := rfl
   have e46 : UInt8.ofNat 46 = 46 := rfl
   rw [e45] at h45
   rw [e46] at h46
   cases h : plainC c with
   | true => simp
   | false =>
    rw [if_neg (by simp), Bool.false_or, hl, hw2]
    have hp0 : (prev a i).isSome = decide (0 < i) := by
     by_cases h0 : i = 0
     ·
      rw [h0]; rfl
     ·
      obtain ⟨q, h1, _⟩ := prev_bt a i (by omega) (by omega)
      rw [h1, decide_eq_true (by omega)]; rfl
    rw [hp0]
    by_cases c45 : (c.toNat : Int) = 45
    ·
     have b45 : (c == 45) = true := h45.1 (by omega)
     have b46 : (c == 46) = false := by rw [beq_iff_eq] at b45; rw [b45]; rfl
     rw [if_pos c45, b45, b46]
     by_cases h0 : (i : Int) = 0
     ·
      rw [if_pos h0, decide_eq_false (by omega : ¬ 0 < i)]; rfl
     ·
      rw [if_neg h0, decide_eq_true (by omega : 0 < i)]
      by_cases h9 : (i : Int) = (a.size : Int) - 1
      ·
       rw [if_pos h9, decide_eq_true (by omega : i + 1 = a.size)]; rfl
      ·
       rw [if_neg h9, if_neg (by omega), decide_eq_false (by omega : ¬ i + 1 = a.size)]; rfl
    ·
     have b45 : (c == 45) = false := by
      rw [Bool.eq_false_iff]; intro hh; exact c45 (by have := h45.2 hh; omega)
     rw [if_neg c45, b45]
     by_cases c46 : (c.toNat : Int) = 46
     ·
      have b46 : (c == 46) = true := h46.1 (by omega)
      rw [if_pos c46, b46]
      by_cases h0 : (i : Int) = 0
      ·
       rw [if_pos h0, decide_eq_false (by omega : ¬ 0 < i)]; rfl
      ·
       rw [if_neg h0, decide_eq_true (by omega : 0 < i)]
       by_cases h9 : (i : Int) = (a.size : Int) - 1
       ·
        rw [if_pos h9, decide_eq_true (by omega : i + 1 = a.size)]; rfl
       ·
        have hw3 : wrap64 ((i : Int) - 1) = (i : Int) - 1 := IntWalk.wrap64_in _ (by omega)
        obtain ⟨q, h1, h2, _⟩ := prev_bt a i (by omega) (by omega)
        have hq := c_eq q 46 (by omega)
        rw [e46] at hq
        rw [if_neg h9, decide_eq_false (by omega : ¬ i + 1 = a.size), hw3, if_pos (by omega), if_pos (by omega), h2, h1]
        by_cases hq46 : (q.toNat : Int) = 46
        ·
         have b : (q == 46) = true := hq.1 (by omega)
         rw [if_pos hq46, beq_iff_eq.1 b]; rfl
        ·
         have b : (some q == some (46 : UInt8)) = false := by
          show (q == 46) = false
          rw [Bool.eq_false_iff]; intro hh; exact hq46 (by have := hq.2 hh; omega)
         rw [if_neg hq46, b]; rfl
     ·
      have b46 : (c == 46) = false := by
       rw [Bool.eq_false_iff]; intro hh; exact c46 (by have := h46.2 hh; omega)
      rw [if_neg c46, b46]; rfl
  rw [stowageref12_Bucket.l0, if_pos (by omega), if_pos (by omega), if_pos (by omega), hb]
  by_cases h1 : (c.toNat : Int) ≥ 97
  ·
   rw [if_pos h1]
   by_cases h2 : (c.toNat : Int) ≤ 122
   ·
    rw [if_pos h2]; exact hj _ (plain_1 c h1 h2)
   ·
    rw [if_neg h2, if_pos (by omega)]; exact hj _ (plain_2 c (by omega) (by omega))
  ·
   rw [if_neg h1]
   by_cases h2 : (c.toNat : Int) ≥ 48
   ·
    rw [if_pos h2]; exact hj _ (plain_2 c (by omega) h2)
   ·
    rw [if_neg h2]; exact hj _ (plain_3 c (by omega) h2)
theorem ref_Bucket_eq (a : ByteArray) (hs : a.size ≤ 9223372036854775807) (k : Nat) (hk : 1000 ≤ k) : stowageref12_Bucket.f k a = some (bucketOk a) := by
 obtain ⟨k, rfl⟩ : ∃ j, k = j + 1 := ⟨k - 1, by omega⟩
 unfold stowageref12_Bucket.f bucketOk
 by_cases h1 : a.size < 3
 ·
  rw [if_pos (by omega), stowageref12_Bucket.j0, if_pos rfl, decide_eq_false (by omega : ¬ 3 ≤ a.size)]; rfl
 ·
  rw [if_neg (by omega), stowageref12_Bucket.j0, decide_eq_true (by omega : 3 ≤ a.size)]
  by_cases h2 : a.size ≤ 63
  ·
   rw [if_neg (by simp; omega), decide_eq_true h2]
   have := ref_bucket a h2 a.size 0 k (by omega) (by omega)
   simpa [prev] using this
  ·
   rw [if_pos (by simp; omega), decide_eq_false h2]; rfl
theorem contains_two : ∀ l : List UInt8, Lib.contains l [46, 46] = dd l
 | [] => by decide
 | [a] => by
  rw [contains_cons, contains_two []]
  simp [List.isPrefixOf, dd]
 | a :: b :: l => by
  rw [contains_cons, contains_two (b :: l), dd]
  congr 1
  simp only [List.isPrefixOf, Bool.and_true]
  rw [Bool.beq_comm (a := a), Bool.beq_comm (a := b)]
theorem endOk_last : ∀ (l : List UInt8) (c : UInt8), l.getLast? = some c → endOk l = plainC c
 | [], _, h => by simp at h
 | [x], c, h => by simp at h; rw [endOk, h]
 | _ :: b :: l, c, h => by
  rw [List.getLast?_cons_cons] at h
  rw [endOk]
  exact endOk_last (b :: l) c h
theorem names_loop (a : ByteArray) (hs : a.size ≤ 63) : ∀ n i k, i + n = a.size → n < k → names_Bucket.l0 k a (a.size : Int) (i : Int) = some ((a.data.toList.drop i).all okC) := by
 intro n
 induction n with
 | zero =>
  intro i k hi hk
  obtain ⟨k, rfl⟩ : ∃ j, k = j + 1 := ⟨k - 1, by omega⟩
  rw [names_Bucket.l0, if_neg (by omega), List.drop_of_length_le (by rw [len_eq]; omega)]; rfl
 | succ n ih =>
  intro i k hi hk
  obtain ⟨k, rfl⟩ : ∃ j, k = j + 1 := ⟨k - 1, by omega⟩
  obtain ⟨c, hd, hb⟩ := bt_get a i (by omega)
  have h45 := c_eq c 45 (by omega)
  have h46 := c_eq c 46 (by omega)
  rw [show UInt8.ofNat 45 = 45 from rfl] at h45
  rw [show UInt8.ofNat 46 = 46 from rfl] at h46
  rw [names_Bucket.l0, if_pos (by omega), if_pos (by omega), if_pos (by omega), hb, names_plain_eq, Option.bind_some, hd, List.all_cons, IntWalk.wrap64_in ((i : Int) + 1) (by omega), show ((i : Int) + 1) = ((i + 1 : Nat) : Int) by omega, ih (i + 1) k (by omega) (by omega)]
  have ho : okC c = (plainC c || (c == 46 || c == 45)) := rfl
  rw [ho]
  cases h : plainC c with
  | true => simp
  | false =>
   rw [if_neg (by simp), Bool.false_or]
   by_cases c46 : (c.toNat : Int) = 46
   ·
    rw [if_pos c46, h46.1 (by omega)]; simp
   ·
    have b46 : (c == 46) = false := by rw [Bool.eq_false_iff]; intro hh; exact c46 (by have := h46.2 hh; omega)
    rw [if_neg c46, b46]
    by_cases c45 : (c.toNat : Int) = 45
    ·
     rw [if_pos c45, h45.1 (by omega)]; simp
    ·
     have b45 : (c == 45) = false := by rw [Bool.eq_false_iff]; intro hh; exact c45 (by have := h45.2 hh; omega)
     rw [if_neg c45, b45]; rfl
theorem names_Bucket_eq (a : ByteArray) (hs : a.size ≤ 9223372036854775807) (k : Nat) (hk : 1000 ≤ k) : names_Bucket.f k a = some (bucketOk a) := by
 obtain ⟨k, rfl⟩ : ∃ j, k = j + 1 := ⟨k - 1, by omega⟩
 unfold names_Bucket.f bucketOk
 by_cases h1 : a.size < 3
 ·
  rw [if_pos (by omega), names_Bucket.j0, if_pos rfl, decide_eq_false (by omega : ¬ 3 ≤ a.size)]; rfl
 rw [if_neg (by omega), decide_eq_true (by omega : 3 ≤ a.size)]
 by_cases h2 : a.size ≤ 63
 ·
  obtain ⟨c, hd, hb⟩ := bt_get a 0 (by omega)
  obtain ⟨z, hz1, hz2, hz3⟩ := prev_bt a a.size (by omega) (by omega)
  have hw2 : wrap64 ((a.size : Int) - 1) = (a.size : Int) - 1 := IntWalk.wrap64_in _ (by omega)
  have hl : a.data.toList = c :: a.data.toList.drop 1 := by simpa using hd
  have hzl : (c :: a.data.toList.drop 1).getLast? = some z := by
   rw [← hl, List.getLast?_eq_getElem?, len_eq]; exact hz3
  have hlo := names_loop a h2 a.size 0 k (by omega) (by omega)
  rw [if_neg (by omega), if_pos (by omega), show (bt a 0) = bt a ((0 : Nat) : Int) from rfl, hb, names_plain_eq, Option.bind_some, hw2, hz2, decide_eq_true h2]
  rw [show R none a.data.toList = R none (c :: a.data.toList.drop 1) by rw [← hl], R_none, endOk_last _ z hzl]
  cases hp : plainC c with
  | false => rw [if_neg (by simp), names_Bucket.j0, if_pos rfl]; rfl
  | true =>
   rw [if_pos rfl, if_pos (by omega), if_pos (by omega), names_plain_eq, Option.bind_some]
   cases hq : plainC z with
   | false => rw [if_neg (by simp), names_Bucket.j0, if_pos rfl]; rfl
   | true =>
    rw [if_pos rfl]
    unfold strings_Contains.f
    rw [if_pos (by omega), Option.bind_some, show (⟨#[46, 46]⟩ : ByteArray).data.toList = [46, 46] from rfl, contains_two, names_Bucket.j0]
    rw [← hl]
    cases hD : dd a.data.toList with
    | true => rw [if_pos rfl]; rfl
    | false =>
     rw [if_neg (by simp), show (0 : Int) = ((0 : Nat) : Int) from rfl, hlo]
     simp
 ·
  rw [if_pos (by omega), names_Bucket.j0, if_pos rfl, decide_eq_false h2]; rfl
abbrev rdC (l : List Piece) (i : Nat) : Piece := rd_T82 l (i : Int)
abbrev rdK (l : List Pick) (i : Nat) : Pick := rd_T62 l (i : Int)
theorem dropC (l : List Piece) (i : Nat) (h : i < l.length) : l.drop i = rdC l i :: l.drop (i + 1) := by
 rw [List.drop_eq_getElem_cons h]
 congr 1
 show l[i] = l.getD (i : Int).toNat _
 rw [Int.toNat_natCast, List.getD_eq_getElem?_getD, List.getElem?_eq_getElem h]
 rfl
theorem dropK (l : List Pick) (i : Nat) (h : i < l.length) : l.drop i = rdK l i :: l.drop (i + 1) := by
 rw [List.drop_eq_getElem_cons h]
 congr 1
 show l[i] = l.getD (i : Int).toNat _
 rw [Int.toNat_natCast, List.getD_eq_getElem?_getD, List.getElem?_eq_getElem h]
 rfl
theorem memC (l : List Piece) (i : Nat) (h : i < l.length) : rdC l i ∈ l := by
 have : rdC l i ∈ l.drop i := by rw [dropC l i h]; exact List.mem_cons_self
 exact List.mem_of_mem_drop this
theorem memK (l : List Pick) (i : Nat) (h : i < l.length) : rdK l i ∈ l := by
 have : rdK l i ∈ l.drop i := by rw [dropK l i h]; exact List.mem_cons_self
 exact List.mem_of_mem_drop this
def D (a : ByteArray) : Bool := a.data.toList.all Sha.hb && decide (a.size = 64)
theorem digits_go (a : ByteArray) (hs : a.size ≤ 1048576) : ∀ n i k, i + n = a.size → n < k → chain_digits.l0 k a (a.size : Int) (i : Int) = some ((a.data.toList.drop i).all Sha.hb && decide (a.size = 64)) := by
 intro n
 induction n with
 | zero =>
  intro i k hi hk
  obtain ⟨k, rfl⟩ : ∃ j, k = j + 1 := ⟨k - 1, by omega⟩
  rw [chain_digits.l0, if_neg (by omega), List.drop_of_length_le (by rw [len_eq]; omega)]
  simp only [List.all_nil, Bool.true_and]
  congr 1
  by_cases h : a.size = 64
  ·
   simp [h]
  ·
   rw [decide_eq_false h]
   simpa using (show ¬ (a.size : Int) = 64 by omega)
 | succ n ih =>
  intro i k hi hk
  obtain ⟨k, rfl⟩ : ∃ j, k = j + 1 := ⟨k - 1, by omega⟩
  obtain ⟨c, hd, hb⟩ := bt_get a i (by omega)
  rw [chain_digits.l0, if_pos (by omega), if_pos (by omega), if_pos (by omega), hb, hd, List.all_cons, w1 i (by omega), ih (i + 1) k (by omega) (by omega)]
  by_cases h1 : (c.toNat : Int) < 48
  ·
   rw [if_pos h1, if_pos (by omega)]
   have : Sha.hb c = false := by simp [Sha.hb]; omega
   rw [this, Bool.false_and, Bool.false_and]
  ·
   rw [if_neg h1]
   by_cases h2 : (c.toNat : Int) > 57
   ·
    rw [if_pos h2]
    by_cases h3 : (c.toNat : Int) < 97
    ·
     rw [if_pos h3]
     have : Sha.hb c = false := by simp [Sha.hb]; omega
     rw [this, Bool.false_and, Bool.false_and]
    ·
     rw [if_neg h3]
     by_cases h4 : (c.toNat : Int) > 102
     ·
      rw [if_pos h4]
      have : Sha.hb c = false := by simp [Sha.hb]; omega
      rw [this, Bool.false_and, Bool.false_and]
     ·
      rw [if_neg h4]
      have : Sha.hb c = true := by simp [Sha.hb]; omega
      rw [this, Bool.true_and]
   ·
    rw [if_neg h2]
    have : Sha.hb c = true := by simp [Sha.hb]; omega
    rw [this, Bool.true_and]
theorem digits_eq (a : ByteArray) (hs : a.size ≤ 1048576) (k : Nat) (hk : 1048577 ≤ k) : chain_digits.f k a = some (D a) := digits_go a hs a.size 0 k (by omega) (by omega)
def pcs : List Piece → Int → Int × Int
 | [], s => (s, 0)
 | y :: r, s => if D y.f0 = true ∧ 1 ≤ y.f1 ∧ y.f1 ≤ 4096 then pcs r (s + y.f1) else (0, 1)
def Pc (l : List Piece) : Int × Int := if 512 < l.length then (0, 1) else pcs l 0
theorem pieces_go (l : List Piece) (hl : l.length ≤ 512) (hs : ∀ y ∈ l, y.f0.size ≤ 1048576) : ∀ n i k (s : Int), i + n = l.length → n + 1048577 < k → 0 ≤ s → s ≤ 4096 * i → chain_Pieces.l0 k s l (l.length : Int) (i : Int) = some (pcs (l.drop i) s) := by
 intro n
 induction n with
 | zero =>
  intro i k s hi hk h0 h1
  obtain ⟨k, rfl⟩ : ∃ j, k = j + 1 := ⟨k - 1, by omega⟩
  rw [chain_Pieces.l0, if_neg (by omega), List.drop_of_length_le (by omega)]
  rfl
 | succ n ih =>
  intro i k s hi hk h0 h1
  obtain ⟨k, rfl⟩ : ∃ j, k = j + 1 := ⟨k - 1, by omega⟩
  rw [chain_Pieces.l0, if_pos (by omega), if_pos (by omega), if_pos (by omega), digits_eq _ (hs _ (memC l i (by omega))) k (by omega), Option.bind_some, dropC l i (by omega), pcs, w1 i (by omega)]
  show (if D (rdC l i).f0 = true then (if (rdC l i).f1 < 1 then some (0, 1) else (if (rdC l i).f1 > 4096 then some (0, 1) else chain_Pieces.l0 k (wrap64 (s + (rdC l i).f1)) l (l.length : Int) ((i + 1 : Nat) : Int))) else some (0, 1)) = _
  by_cases hd : D (rdC l i).f0 = true
  ·
   rw [if_pos hd]
   by_cases h2 : (rdC l i).f1 < 1
   ·
    rw [if_pos h2, if_neg (by omega)]
   ·
    rw [if_neg h2]
    by_cases h3 : (rdC l i).f1 > 4096
    ·
     rw [if_pos h3, if_neg (by omega)]
    ·
     rw [if_neg h3, if_pos ⟨hd, by omega, by omega⟩, IntWalk.wrap64_in _ (by omega), ih (i + 1) k _ (by omega) (by omega) (by omega) (by omega)]
  ·
   rw [if_neg hd, if_neg (by intro h; exact hd h.1)]
theorem pieces_eq (l : List Piece) (hs : ∀ y ∈ l, y.f0.size ≤ 1048576) (k : Nat) (hk : 1049100 ≤ k) : chain_Pieces.f k l = some (Pc l) := by
 unfold chain_Pieces.f Pc
 by_cases h : 512 < l.length
 ·
  rw [if_pos (by omega), if_pos h]
 ·
  rw [if_neg (by omega), if_neg h]
  exact pieces_go l (by omega) hs l.length 0 k 0 (by omega) (by omega) (by omega) (by omega)
theorem unhex_some : ∀ l : List UInt8, l.length % 2 = 0 → (Sha.unhexL l).isSome = l.all Sha.hb
 | [], _ => rfl
 | [_], h => by simp at h
 | a :: b :: r, h => by
  have ih := unhex_some r (by simp at h; omega)
  rw [Sha.unhexL, List.all_cons, List.all_cons]
  cases h1 : Sha.hb a
  ·
   simp
  ·
   cases h2 : Sha.hb b
   ·
    simp
   ·
    simp [ih]
theorem unhex_len : ∀ (l : List UInt8) (r : List (BitVec 8)), Sha.unhexL l = some r → l.length = 2 * r.length
 | [], r, h => by
  rw [Sha.unhexL] at h
  cases h
  rfl
 | [_], r, h => by rw [Sha.unhexL] at h; cases h
 | a :: b :: l, r, h => by
  rw [Sha.unhexL] at h
  split at h
  ·
   cases hq : Sha.unhexL l with
   | none => rw [hq] at h; cases h
   | some q =>
    rw [hq] at h
    cases h
    have := unhex_len l q hq
    simp only [List.length_cons]
    omega
  ·
   cases h
theorem cd_eq (a : ByteArray) (hs : a.size ≤ 1073741824) : cmd_digits.f a = some (D a) := by
 unfold cmd_digits.f
 have hU : digest_Unhex.f a = some (Sha.unhexR (Sha.unhexL a.data.toList)) := by
  show Sha.unhexF a = _
  unfold Sha.unhexF
  rw [if_pos (by omega)]
 rw [hU, Option.bind_some]
 unfold D
 cases h : Sha.unhexL a.data.toList with
 | none =>
  show (if (3 : Int) = 0 then _ else some false) = _
  rw [if_neg (by decide)]
  by_cases h6 : a.size = 64
  ·
   have hi := unhex_some a.data.toList (by rw [len_eq, h6])
   rw [h] at hi
   rw [← hi]
   rfl
  ·
   rw [decide_eq_false h6, Bool.and_false]
 | some r =>
  show (if (0 : Int) = 0 then some ((((Sha.ofB r).size : Nat) : Int) == 32) else _) = _
  have hl := unhex_len _ _ h
  rw [len_eq] at hl
  rw [if_pos rfl, Sha.ofB_size]
  by_cases h6 : a.size = 64
  ·
   have hi := unhex_some a.data.toList (by rw [len_eq, h6])
   rw [h] at hi
   rw [← hi, decide_eq_true h6, show r.length = 32 by omega]
   rfl
  ·
   rw [decide_eq_false h6, Bool.and_false]
   congr 1
   exact beq_eq_false_iff_ne.2 (by omega)
def fb (n : Int) : Int := if n = 1 ∨ n = 2 then 3 else if n = 3 then 103 else if n = 4 ∨ n = 6 then 7 else if n = 5 ∨ n = 9 then 15 else if n = 7 then 127 else if n = 8 then 143 else if n = 10 then 8 else 0
theorem fields_eq (n : Int) (k : Nat) (hk : 10 ≤ k) : cmd_fields.f k n = some (fb n) := by
 have go : ∀ m, cmd_fields.f 10 m = some (fb m) → n = m → cmd_fields.f k n = some (fb n) := by
  intro m h1 h3
  subst h3
  exact up_to (f := fun k => cmd_fields.f k n) (fun k => cmd_fields.mono _ k) h1 hk
 by_cases h1 : n = 1
 ·
  exact go 1 (by kernel_rfl) h1
 by_cases h2 : n = 2
 ·
  exact go 2 (by kernel_rfl) h2
 by_cases h3 : n = 3
 ·
  exact go 3 (by kernel_rfl) h3
 by_cases h4 : n = 4
 ·
  exact go 4 (by kernel_rfl) h4
 by_cases h5 : n = 5
 ·
  exact go 5 (by kernel_rfl) h5
 by_cases h6 : n = 6
 ·
  exact go 6 (by kernel_rfl) h6
 by_cases h7 : n = 7
 ·
  exact go 7 (by kernel_rfl) h7
 by_cases h8 : n = 8
 ·
  exact go 8 (by kernel_rfl) h8
 by_cases h9 : n = 9
 ·
  exact go 9 (by kernel_rfl) h9
 by_cases h10 : n = 10
 ·
  exact go 10 (by kernel_rfl) h10
 obtain ⟨k, rfl⟩ : ∃ j, k = j + 1 + 1 + 1 := ⟨k - 3, by omega⟩
 have e : ∀ m : Int, n ≠ m → (n == m) = false := fun m h => beq_eq_false_iff_ne.2 h
 unfold cmd_fields.f fb
 rw [if_neg h1, e 2 h2, cmd_fields.j0, if_neg (by decide), if_neg h3, if_neg h4, e 6 h6, cmd_fields.j1, if_neg (by decide), if_neg h5, e 9 h9, cmd_fields.j2, if_neg (by decide), if_neg h7, if_neg h8, if_neg h10]
 rw [if_neg (by omega), if_neg h3, if_neg (by omega), if_neg (by omega), if_neg h7, if_neg h8, if_neg h10]
theorem fb_kind (n : Int) (h : fb n ≠ 0) : n = 1 ∨ n = 2 ∨ n = 3 ∨ n = 4 ∨ n = 5 ∨ n = 6 ∨ n = 7 ∨ n = 8 ∨ n = 9 ∨ n = 10 := by
 unfold fb at h
 omega
abbrev ba (f bit : Int) : Int := Go.bits .and .i64 f bit
def pk (p : Pick) : Bool := decide (0 ≤ p.f0 ∧ p.f0 ≤ 100) && D p.f1
theorem ck_l0 (l : List Pick) (hl : l.length ≤ 1073741824) (hs : ∀ y ∈ l, y.f1.size ≤ 1073741824) : ∀ n i k (b : Bool), i + n = l.length → n < k → cmd_Check.l0 k b l (l.length : Int) (i : Int) = some (if b = false ∧ (l.drop i).all pk = true then 0 else 1) := by
 intro n
 induction n with
 | zero =>
  intro i k b hi hk
  obtain ⟨k, rfl⟩ : ∃ j, k = j + 1 := ⟨k - 1, by omega⟩
  rw [cmd_Check.l0, if_neg (by omega), List.drop_of_length_le (by omega)]
  cases b <;> rfl
 | succ n ih =>
  intro i k b hi hk
  obtain ⟨k, rfl⟩ : ∃ j, k = j + 1 := ⟨k - 1, by omega⟩
  have IH := fun b => ih (i + 1) k b (by omega) (by omega)
  rw [cmd_Check.l0, if_pos (by omega), if_pos (by omega), if_pos (by omega), w1 i (by omega), dropK l i (by omega), List.all_cons]
  show (if b = true then _ else if (rdK l i).f0 < 0 then _ else if (rdK l i).f0 > 100 then _ else (cmd_digits.f (rdK l i).f1).bind _) = _
  rw [cd_eq _ (hs _ (memK l i (by omega))), Option.bind_some, IH, IH]
  have hpk : pk (rdK l i) = (decide (0 ≤ (rdK l i).f0 ∧ (rdK l i).f0 ≤ 100) && D (rdK l i).f1) := rfl
  rw [hpk]
  cases b with
  | true => simp
  | false =>
   rw [if_neg (by decide)]
   by_cases h1 : (rdK l i).f0 < 0
   ·
    rw [if_pos h1, decide_eq_false (by omega)]; simp
   ·
    rw [if_neg h1]
    by_cases h2 : (rdK l i).f0 > 100
    ·
     rw [if_pos h2, decide_eq_false (by omega)]; simp
    ·
     rw [if_neg h2, decide_eq_true (by omega)]
     cases D (rdK l i).f1 <;> simp
theorem ck_j2 (b : Bool) (a0 : Int) (a1 a2 a3 : ByteArray) (a4 a5 : Int) (a6 : ByteArray) (ps : List Piece) (l : List Pick) (hl : l.length ≤ 1073741824) (hs : ∀ y ∈ l, y.f1.size ≤ 1073741824) (k : Nat) (hk : 1073741826 ≤ k) :
  cmd_Check.j2 k b a0 a1 a2 a3 a4 a5 a6 ps l = some (if b = false ∧ l.all pk = true then 0 else 1) := by
 obtain ⟨k, rfl⟩ : ∃ j, k = j + 1 := ⟨k - 1, by omega⟩
 rw [cmd_Check.j2]
 exact ck_l0 l hl hs l.length 0 k b (by omega) (by omega)
def Q (f a0 a4 a5 : Int) (n : Nat) : Prop := 0 ≤ a4 ∧ a4 ≤ 1099511627776 ∧ (ba f 8 ≠ 0 → a4 = 0 → a0 = 10) ∧ 0 ≤ a5 ∧ a5 ≤ 100 ∧ (ba f 16 ≠ 0 → a5 ≠ 0) ∧ n ≤ 100
instance (f a0 a4 a5 : Int) (n : Nat) : Decidable (Q f a0 a4 a5 n) := by unfold Q; infer_instance
theorem ck_j1 (f : Int) (b : Bool) (a0 : Int) (a1 a2 a3 : ByteArray) (a4 a5 : Int) (a6 : ByteArray) (ps : List Piece) (l : List Pick) (hl : l.length ≤ 1073741824) (hs : ∀ y ∈ l, y.f1.size ≤ 1073741824) (k : Nat) (hk : 1073741827 ≤ k) :
  cmd_Check.j1 k f b a0 a1 a2 a3 a4 a5 a6 ps l = some (if b = false ∧ Q f a0 a4 a5 l.length ∧ l.all pk = true then 0 else 1) := by
 obtain ⟨k, rfl⟩ : ∃ j, k = j + 1 := ⟨k - 1, by omega⟩
 have J := fun c => ck_j2 c a0 a1 a2 a3 a4 a5 a6 ps l hl hs k (by omega)
 have no : ¬ Q f a0 a4 a5 l.length → cmd_Check.j2 k true a0 a1 a2 a3 a4 a5 a6 ps l = some (if b = false ∧ Q f a0 a4 a5 l.length ∧ l.all pk = true then 0 else 1) := fun h => by
  rw [J, if_neg (by simp), if_neg (fun g => h g.2.1)]
 have yes : b = false → (l.length ≤ 100 → Q f a0 a4 a5 l.length) → cmd_Check.j2 k (decide ((l.length : Int) > 100)) a0 a1 a2 a3 a4 a5 a6 ps l = some (if b = false ∧ Q f a0 a4 a5 l.length ∧ l.all pk = true then 0 else 1) := fun hb h => by
  rw [J]
  by_cases hn : l.length ≤ 100
  ·
   rw [decide_eq_false (by omega)]
   simp only [hb, h hn, true_and]
  ·
   rw [decide_eq_true (by omega), if_neg (by simp), if_neg (fun g => hn g.2.1.2.2.2.2.2.2)]
 rw [cmd_Check.j1]
 cases b with
 | true => rw [if_pos rfl, J, if_neg (by simp), if_neg (by simp)]
 | false =>
  rw [if_neg (by decide)]
  unfold Q ba at no yes ⊢
  repeat' (first | exact no (by omega) | exact yes rfl (by intro hn; omega) | split)
def R_ (f : Int) (a2 a3 a6 : ByteArray) (ps : List Piece) : Prop := (ba f 2 ≠ 0 → bucketOk a2 = true) ∧ (ba f 4 ≠ 0 → keyOk a3 = true) ∧ (ba f 32 ≠ 0 → D a6 = true) ∧ (Pc ps).2 = 0 ∧ (Pc ps).1 ≤ 1048576
instance (f : Int) (a2 a3 a6 : ByteArray) (ps : List Piece) : Decidable (R_ f a2 a3 a6 ps) := by unfold R_; infer_instance
structure SmallCmd (a1 a2 a3 a6 : ByteArray) (ps : List Piece) (l : List Pick) : Prop where
 s1 : a1.size ≤ 1073741824
 s2 : a2.size ≤ 1073741824
 s3 : a3.size ≤ 1073741824
 s6 : a6.size ≤ 1073741824
 hp : ps.length ≤ 1048576
 sp : ∀ y ∈ ps, y.f0.size ≤ 1048576
 hl : l.length ≤ 1048576
 sl : ∀ y ∈ l, y.f1.size ≤ 1073741824
theorem ck_j0 (f : Int) (b : Bool) (a0 : Int) (a1 a2 a3 : ByteArray) (a4 a5 : Int) (a6 : ByteArray) (ps : List Piece) (l : List Pick) (h : SmallCmd a1 a2 a3 a6 ps l) (k : Nat) (hk : 1073741828 ≤ k) :
  cmd_Check.j0 k f b a0 a1 a2 a3 a4 a5 a6 ps l = some (if b = false ∧ R_ f a2 a3 a6 ps ∧ Q f a0 a4 a5 l.length ∧ l.all pk = true then 0 else 1) := by
 obtain ⟨k, rfl⟩ : ∃ j, k = j + 1 := ⟨k - 1, by omega⟩
 have J := fun c => ck_j1 f c a0 a1 a2 a3 a4 a5 a6 ps l (by have := h.hl; omega) h.sl k (by omega)
 cases b with
 | true => rw [cmd_Check.j0, if_pos rfl, if_neg (by simp)]
 | false =>
  obtain ⟨X, hX⟩ : ∃ X, X = some (if false = false ∧ R_ f a2 a3 a6 ps ∧ Q f a0 a4 a5 l.length ∧ l.all pk = true then (0 : Int) else 1) := ⟨_, rfl⟩
  rw [← hX]
  have no : ¬ R_ f a2 a3 a6 ps → cmd_Check.j1 k f true a0 a1 a2 a3 a4 a5 a6 ps l = X := fun h => by
   rw [hX, J, if_neg (by simp), if_neg (fun g => h g.2.1)]
  have yes : ((Pc ps).1 ≤ 1048576 → R_ f a2 a3 a6 ps) → cmd_Check.j1 k f (decide ((Pc ps).1 > 1048576)) a0 a1 a2 a3 a4 a5 a6 ps l = X := fun h => by
   rw [hX, J]
   by_cases hn : (Pc ps).1 ≤ 1048576
   ·
    rw [decide_eq_false (by omega)]
    simp only [h hn, true_and]
   ·
    rw [decide_eq_true (by omega), if_neg (by simp), if_neg (fun g => hn g.2.1.2.2.2.2)]
  rw [cmd_Check.j0, if_neg (by decide), pieces_eq ps h.sp k (by omega), Option.bind_some, names_Bucket_eq a2 (by have := h.s2; omega) k (by omega), names_Key_eq a3 (by have := h.s3; omega), cd_eq a6 h.s6]
  simp only [Option.bind_some]
  clear J h hk hX
  unfold R_ ba at no yes
  generalize bucketOk a2 = B2 at no yes ⊢
  generalize keyOk a3 = B3 at no yes ⊢
  generalize D a6 = B6 at no yes ⊢
  generalize (Pc ps).1 = P1 at no yes ⊢
  generalize (Pc ps).2 = P2 at no yes ⊢
  generalize Go.bits .and .i64 f 2 = f2 at no yes ⊢
  generalize Go.bits .and .i64 f 4 = f4 at no yes ⊢
  generalize Go.bits .and .i64 f 32 = f32 at no yes ⊢
  repeat' (first | exact no (by clear no yes; simp_all) | exact yes (by clear no yes; intro hn; simp_all) | split)
theorem ba_ext (a b : ByteArray) : a.toList = b.toList ↔ a = b := by
 rw [ByteArray.toList_eq, ByteArray.toList_eq]
 exact ⟨fun h => ByteArray.ext (Array.ext' h), fun h => by rw [h]⟩
theorem ba_nil (a : ByteArray) : (⟨#[]⟩ : ByteArray) = a ↔ a.size = 0 := by
 constructor
 ·
  rintro rfl; rfl
 ·
  intro h
  apply ByteArray.ext
  apply Array.ext'
  have : a.data.toList = [] := List.length_eq_zero_iff.1 (by rw [len_eq]; exact h)
  rw [this]
theorem pieces_self (l : List Piece) (hl : l.length ≤ 1073741824) : ∀ n i k, i + n = l.length → n < k → api_Piece_68.l0 k l l (l.length : Int) (i : Int) = some true := by
 intro n
 induction n with
 | zero =>
  intro i k hi hk
  obtain ⟨k, rfl⟩ : ∃ j, k = j + 1 := ⟨k - 1, by omega⟩
  rw [api_Piece_68.l0, if_neg (by omega)]
 | succ n ih =>
  intro i k hi hk
  obtain ⟨k, rfl⟩ : ∃ j, k = j + 1 := ⟨k - 1, by omega⟩
  rw [api_Piece_68.l0, if_pos (by omega), if_pos (by omega), if_pos (by omega), if_pos (by omega), if_neg (by simp), w1 i (by omega)]
  exact ih (i + 1) k (by omega) (by omega)
theorem picks_self (l : List Pick) (hl : l.length ≤ 1073741824) : ∀ n i k, i + n = l.length → n < k → api_Pick_69.l0 k l l (l.length : Int) (i : Int) = some true := by
 intro n
 induction n with
 | zero =>
  intro i k hi hk
  obtain ⟨k, rfl⟩ : ∃ j, k = j + 1 := ⟨k - 1, by omega⟩
  rw [api_Pick_69.l0, if_neg (by omega)]
 | succ n ih =>
  intro i k hi hk
  obtain ⟨k, rfl⟩ : ∃ j, k = j + 1 := ⟨k - 1, by omega⟩
  rw [api_Pick_69.l0, if_pos (by omega), if_pos (by omega), if_pos (by omega), if_pos (by omega), if_neg (by simp), w1 i (by omega)]
  exact ih (i + 1) k (by omega) (by omega)
def Z (f : Int) (a1 a2 a3 : ByteArray) (a4 a5 : Int) (a6 : ByteArray) (ps : List Piece) (l : List Pick) : Prop :=
 (ba f 1 = 0 → a1.size = 0) ∧ (ba f 2 = 0 → a2.size = 0) ∧ (ba f 4 = 0 → a3.size = 0) ∧ (ba f 8 = 0 → a4 = 0) ∧ (ba f 16 = 0 → a5 = 0) ∧ (ba f 32 = 0 → a6.size = 0) ∧ (ba f 64 = 0 → ps.length = 0) ∧ (ba f 128 = 0 → l.length = 0)
instance (f : Int) (a1 a2 a3 : ByteArray) (a4 a5 : Int) (a6 : ByteArray) (ps : List Piece) (l : List Pick) : Decidable (Z f a1 a2 a3 a4 a5 a6 ps l) := by unfold Z; infer_instance
theorem cut_t_eq (f bit : Int) (s : ByteArray) : (cmd_cut_t f bit s).toList = s.toList ↔ (ba f bit = 0 → s.size = 0) := by
 unfold cmd_cut_t
 rw [ba_ext]
 by_cases h : ba f bit = 0
 ·
  have : (Go.bits .and .i64 f bit != 0) = false := bne_eq_false_iff_eq.2 h
  rw [this, if_neg (by decide), ba_nil]
  exact ⟨fun g _ => g, fun g => g h⟩
 ·
  have : (Go.bits .and .i64 f bit != 0) = true := bne_iff_ne.2 h
  rw [this, if_pos rfl]
  exact ⟨fun _ g => absurd g h, fun _ => rfl⟩
theorem cut_n_eq (f bit n : Int) : cmd_cut_n f bit n = n ↔ (ba f bit = 0 → n = 0) := by
 unfold cmd_cut_n
 by_cases h : ba f bit = 0
 ·
  have : (Go.bits .and .i64 f bit != 0) = false := bne_eq_false_iff_eq.2 h
  rw [this, if_neg (by decide)]
  exact ⟨fun g _ => g.symm, fun g => (g h).symm⟩
 ·
  have : (Go.bits .and .i64 f bit != 0) = true := bne_iff_ne.2 h
  rw [this, if_pos rfl]
  exact ⟨fun _ g => absurd g h, fun _ => rfl⟩
theorem pieces_cut (f : Int) (ps : List Piece) (hp : ps.length ≤ 1048576) (k : Nat) (hk : 1048580 ≤ k) : ∃ q, (if (Go.bits .and .i64 f 64 != 0) = true then api_Piece_70.f ps else some []) = some q ∧ api_Piece_68.f k q ps = some (decide (ba f 64 = 0 → ps.length = 0)) := by
 by_cases h : ba f 64 = 0
 ·
  have : (Go.bits .and .i64 f 64 != 0) = false := bne_eq_false_iff_eq.2 h
  rw [this, if_neg (by decide)]
  refine ⟨[], rfl, ?_⟩
  unfold api_Piece_68.f
  by_cases h0 : ps.length = 0
  ·
   obtain rfl := List.length_eq_zero_iff.1 h0
   rw [if_pos rfl]
   exact (pieces_self [] (by decide) 0 0 k rfl (by omega)).trans (congrArg some (decide_eq_true (fun _ => rfl)).symm)
  ·
   rw [if_neg (by show ¬ (((0 : Nat) : Int) = _); omega), decide_eq_false (fun g => h0 (g h))]
 ·
  have : (Go.bits .and .i64 f 64 != 0) = true := bne_iff_ne.2 h
  rw [this, if_pos rfl]
  refine ⟨ps, ?_, ?_⟩
  ·
   unfold api_Piece_70.f
   rw [if_pos (by omega)]
  ·
   unfold api_Piece_68.f
   rw [if_pos rfl, decide_eq_true (fun g => absurd g h)]
   exact pieces_self ps (by omega) ps.length 0 k (by omega) (by omega)
theorem picks_cut (f : Int) (l : List Pick) (hp : l.length ≤ 1048576) (k : Nat) (hk : 1048580 ≤ k) : ∃ q, (if (Go.bits .and .i64 f 128 != 0) = true then api_Pick_71.f l else some []) = some q ∧ api_Pick_69.f k q l = some (decide (ba f 128 = 0 → l.length = 0)) := by
 by_cases h : ba f 128 = 0
 ·
  have : (Go.bits .and .i64 f 128 != 0) = false := bne_eq_false_iff_eq.2 h
  rw [this, if_neg (by decide)]
  refine ⟨[], rfl, ?_⟩
  unfold api_Pick_69.f
  by_cases h0 : l.length = 0
  ·
   obtain rfl := List.length_eq_zero_iff.1 h0
   rw [if_pos rfl]
   exact (picks_self [] (by decide) 0 0 k rfl (by omega)).trans (congrArg some (decide_eq_true (fun _ => rfl)).symm)
  ·
   rw [if_neg (by show ¬ (((0 : Nat) : Int) = _); omega), decide_eq_false (fun g => h0 (g h))]
 ·
  have : (Go.bits .and .i64 f 128 != 0) = true := bne_iff_ne.2 h
  rw [this, if_pos rfl]
  refine ⟨l, ?_, ?_⟩
  ·
   unfold api_Pick_71.f
   rw [if_pos (by omega)]
  ·
   unfold api_Pick_69.f
   rw [if_pos rfl, decide_eq_true (fun g => absurd g h)]
   exact picks_self l (by omega) l.length 0 k (by omega) (by omega)
theorem cut_same (f a0 : Int) (a1 a2 a3 : ByteArray) (a4 a5 : Int) (a6 : ByteArray) (ps : List Piece) (l : List Pick) (hp : ps.length ≤ 1048576) (hl : l.length ≤ 1048576) (k : Nat) (hk : 1048580 ≤ k) :
  ∃ c, cmd_cut.f a0 a1 a2 a3 a4 a5 a6 ps l f = some c ∧ cmd_same.f k c.1 c.2.1 c.2.2.1 c.2.2.2.1 c.2.2.2.2.1 c.2.2.2.2.2.1 c.2.2.2.2.2.2.1 c.2.2.2.2.2.2.2.1 c.2.2.2.2.2.2.2.2 a0 a1 a2 a3 a4 a5 a6 ps l = some (decide (Z f a1 a2 a3 a4 a5 a6 ps l)) := by
 obtain ⟨q1, h1, g1⟩ := pieces_cut f ps hp k hk
 obtain ⟨q2, h2, g2⟩ := picks_cut f l hl k hk
 refine ⟨_, by unfold cmd_cut.f; rw [h1, Option.bind_some, h2, Option.bind_some], ?_⟩
 unfold cmd_same.f
 show (if a0 = a0 then (if (cmd_cut_t f 1 a1).toList = a1.toList then (if (cmd_cut_t f 2 a2).toList = a2.toList then (if (cmd_cut_t f 4 a3).toList = a3.toList then (if cmd_cut_n f 8 a4 = a4 then (if cmd_cut_n f 16 a5 = a5 then (if (cmd_cut_t f 32 a6).toList = a6.toList then ((api_Piece_68.f k q1 ps).bind fun t107 => (if t107 = true then ((api_Pick_69.f k q2 l).bind fun t108 => (some t108)) else (some false))) else (some false)) else (some false)) else (some false)) else (some false)) else (some false)) else (some false)) else (some false)) = _
 rw [g1, g2, if_pos rfl]
 simp only [Option.bind_some, cut_t_eq, cut_n_eq, decide_eq_true_eq]
 by_cases e1 : ba f 1 = 0 → a1.size = 0
 ·
  rw [if_pos e1]
  by_cases e2 : ba f 2 = 0 → a2.size = 0
  ·
   rw [if_pos e2]
   by_cases e3 : ba f 4 = 0 → a3.size = 0
   ·
    rw [if_pos e3]
    by_cases e4 : ba f 8 = 0 → a4 = 0
    ·
     rw [if_pos e4]
     by_cases e5 : ba f 16 = 0 → a5 = 0
     ·
      rw [if_pos e5]
      by_cases e6 : ba f 32 = 0 → a6.size = 0
      ·
       rw [if_pos e6]
       by_cases e7 : ba f 64 = 0 → ps.length = 0
       ·
        rw [if_pos e7]
        congr 1
        exact decide_eq_decide.2 ⟨fun g => ⟨e1, e2, e3, e4, e5, e6, e7, g⟩, fun g => g.2.2.2.2.2.2.2⟩
       ·
        rw [if_neg e7, decide_eq_false (fun g => e7 g.2.2.2.2.2.2.1)]
      ·
       rw [if_neg e6, decide_eq_false (fun g => e6 g.2.2.2.2.2.1)]
     ·
      rw [if_neg e5, decide_eq_false (fun g => e5 g.2.2.2.2.1)]
    ·
     rw [if_neg e4, decide_eq_false (fun g => e4 g.2.2.2.1)]
   ·
    rw [if_neg e3, decide_eq_false (fun g => e3 g.2.2.1)]
  ·
   rw [if_neg e2, decide_eq_false (fun g => e2 g.2.1)]
 ·
  rw [if_neg e1, decide_eq_false (fun g => e1 g.1)]
def CK (a0 : Int) (a1 a2 a3 : ByteArray) (a4 a5 : Int) (a6 : ByteArray) (ps : List Piece) (l : List Pick) : Prop :=
 fb a0 ≠ 0 ∧ Z (fb a0) a1 a2 a3 a4 a5 a6 ps l ∧ (a1.size ≠ 0 → tokOk a1 = true) ∧ R_ (fb a0) a2 a3 a6 ps ∧ Q (fb a0) a0 a4 a5 l.length ∧ l.all pk = true
instance (a0 : Int) (a1 a2 a3 : ByteArray) (a4 a5 : Int) (a6 : ByteArray) (ps : List Piece) (l : List Pick) : Decidable (CK a0 a1 a2 a3 a4 a5 a6 ps l) := by unfold CK; infer_instance
theorem check_eq (a0 : Int) (a1 a2 a3 : ByteArray) (a4 a5 : Int) (a6 : ByteArray) (ps : List Piece) (l : List Pick) (h : SmallCmd a1 a2 a3 a6 ps l) (k : Nat) (hk : 1073741828 ≤ k) :
  cmd_Check.f k a0 a1 a2 a3 a4 a5 a6 ps l = some (if CK a0 a1 a2 a3 a4 a5 a6 ps l then 0 else 1) := by
 have J := fun b => ck_j0 (fb a0) b a0 a1 a2 a3 a4 a5 a6 ps l h k hk
 have J1 : cmd_Check.j0 k (fb a0) true a0 a1 a2 a3 a4 a5 a6 ps l = some 1 := by rw [J true, if_neg (by simp)]
 unfold cmd_Check.f
 rw [fields_eq a0 k (by omega), Option.bind_some, J1]
 by_cases h0 : fb a0 = 0
 ·
  rw [if_pos h0, if_neg (fun g => g.1 h0)]
 ·
  rw [if_neg h0]
  obtain ⟨c, g1, g2⟩ := cut_same (fb a0) a0 a1 a2 a3 a4 a5 a6 ps l h.hp h.hl k (by omega)
  rw [g1, Option.bind_some, g2, Option.bind_some]
  by_cases hz : Z (fb a0) a1 a2 a3 a4 a5 a6 ps l
  ·
   rw [if_pos (decide_eq_true hz)]
   by_cases h1 : a1.size = 0
   ·
    rw [if_pos ((toList_nil a1).2 h1), J false]
    congr 1
    by_cases hr : R_ (fb a0) a2 a3 a6 ps ∧ Q (fb a0) a0 a4 a5 l.length ∧ l.all pk = true
    ·
     rw [if_pos ⟨rfl, hr⟩, if_pos ⟨h0, hz, fun g => absurd h1 g, hr⟩]
    ·
     rw [if_neg (fun g => hr g.2), if_neg (fun g => hr g.2.2.2)]
   ·
    rw [if_neg (fun g => h1 ((toList_nil a1).1 g)), names_Token_eq a1 h.s1 k (by omega), Option.bind_some]
    cases ht : tokOk a1 with
    | false =>
     rw [Bool.not_false, J1, if_neg (fun g => by have := g.2.2.1 h1; rw [ht] at this; cases this)]
    | true =>
     rw [Bool.not_true, J false]
     congr 1
     by_cases hr : R_ (fb a0) a2 a3 a6 ps ∧ Q (fb a0) a0 a4 a5 l.length ∧ l.all pk = true
     ·
      rw [if_pos ⟨rfl, hr⟩, if_pos ⟨h0, hz, fun _ => ht, hr⟩]
     ·
      rw [if_neg (fun g => hr g.2), if_neg (fun g => hr g.2.2.2)]
  ·
   rw [if_neg (by simpa using hz), if_neg (fun g => hz g.2.1)]
end Go.Proofs.YtdidopoalmkhlaaDoor.Pure
end
