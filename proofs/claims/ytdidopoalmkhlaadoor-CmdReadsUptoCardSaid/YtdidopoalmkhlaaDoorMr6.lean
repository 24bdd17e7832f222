/- Merged of several texts of this session's by merge.py. -/
import Derived.Test.YtdidopoalmkhlaaDoorMr3
import Derived.Test.YtdidopoalmkhlaaDoorMr5
section
namespace Go.Proofs.YtdidopoalmkhlaaDoor.Or
open Go.RowKit Go.Proofs.YtdidopoalmkhlaaDoorW.PrintWords Go.Proofs.YtdidopoalmkhlaaDoorW.PrintLast Go.Proofs.YtdidopoalmkhlaaDoorW.PrintMore
attribute [local go_sem] max2_int min2_int max_two min_two max_three min_three max_four min_four
set_option linter.unusedVariables false
set_option linter.unusedSimpArgs false
mutual
def stowageref16_Check.j0 : Nat → Bool → Int → ByteArray → ByteArray → ByteArray → Int → Int → ByteArray → List (S95) → List (S61) → Option (Int)
 | 0, _, _, _, _, _, _, _, _, _, _ => none
 | k + 1, x13, x241000, x241001, x241002, x241003, x241004, x241005, x241006, x241007, x241008 => if x13 = true then (some 1) else (if x241001.toList = ([] : List UInt8) then (stowageref16_Check.j1 k false x241000 x241001 x241002 x241003 x241004 x241005 x241006 x241007 x241008) else (if x241000 = 10 then (stowageref16_Check.j1 k true x241000 x241001 x241002 x241003 x241004 x241005 x241006 x241007 x241008) else ((stowageref12_Token.f k x241001).bind fun t241 => (stowageref16_Check.j1 k (!t241) x241000 x241001 x241002 x241003 x241004 x241005 x241006 x241007 x241008))))
def stowageref16_Check.j1 : Nat → Bool → Int → ByteArray → ByteArray → ByteArray → Int → Int → ByteArray → List (S95) → List (S61) → Option (Int)
 | 0, _, _, _, _, _, _, _, _, _, _ => none
 | k + 1, x27, x241000, x241001, x241002, x241003, x241004, x241005, x241006, x241007, x241008 => if x27 = true then (some 1) else (if x241000 = 10 then (if x241002.toList = ([] : List UInt8) then (if x241000 < 10 then ((stowageref12_Bucket.f k x241002).bind fun t242 => (stowageref16_Check.j2 k (!t242) x241000 x241001 x241002 x241003 x241004 x241005 x241006 x241007 x241008)) else (stowageref16_Check.j2 k false x241000 x241001 x241002 x241003 x241004 x241005 x241006 x241007 x241008)) else (stowageref16_Check.j2 k true x241000 x241001 x241002 x241003 x241004 x241005 x241006 x241007 x241008)) else (if x241000 < 10 then ((stowageref12_Bucket.f k x241002).bind fun t243 => (stowageref16_Check.j2 k (!t243) x241000 x241001 x241002 x241003 x241004 x241005 x241006 x241007 x241008)) else (stowageref16_Check.j2 k false x241000 x241001 x241002 x241003 x241004 x241005 x241006 x241007 x241008)))
def stowageref16_Check.j2 : Nat → Bool → Int → ByteArray → ByteArray → ByteArray → Int → Int → ByteArray → List (S95) → List (S61) → Option (Int)
 | 0, _, _, _, _, _, _, _, _, _, _ => none
 | k + 1, x46, x241000, x241001, x241002, x241003, x241004, x241005, x241006, x241007, x241008 => if x46 = true then (some 1) else ((stowageref16_HasKey.f x241000).bind fun t244 => (if t244 = true then ((stowageref12_Key.f k x241003).bind fun t245 => (if t245 = true then ((stowageref16_HasKey.f x241000).bind fun t246 => (if t246 = true then (stowageref16_Check.j3 k false x241000 x241001 x241002 x241003 x241004 x241005 x241006 x241007 x241008) else (stowageref16_Check.j3 k (x241003.toList != ([] : List UInt8)) x241000 x241001 x241002 x241003 x241004 x241005 x241006 x241007 x241008))) else (stowageref16_Check.j3 k true x241000 x241001 x241002 x241003 x241004 x241005 x241006 x241007 x241008))) else ((stowageref16_HasKey.f x241000).bind fun t247 => (if t247 = true then (stowageref16_Check.j3 k false x241000 x241001 x241002 x241003 x241004 x241005 x241006 x241007 x241008) else (stowageref16_Check.j3 k (x241003.toList != ([] : List UInt8)) x241000 x241001 x241002 x241003 x241004 x241005 x241006 x241007 x241008)))))
def stowageref16_Check.j3 : Nat → Bool → Int → ByteArray → ByteArray → ByteArray → Int → Int → ByteArray → List (S95) → List (S61) → Option (Int)
 | 0, _, _, _, _, _, _, _, _, _, _ => none
 | k + 1, x66, x241000, x241001, x241002, x241003, x241004, x241005, x241006, x241007, x241008 => if x66 = true then (some 1) else (if x241004 < 0 then (stowageref16_Check.j4 k true x241000 x241001 x241002 x241003 x241004 x241005 x241006 x241007 x241008) else (if x241004 > 1099511627776 then (stowageref16_Check.j4 k true x241000 x241001 x241002 x241003 x241004 x241005 x241006 x241007 x241008) else ((stowageref16_hasID.f x241000).bind fun t248 => (if t248 = true then ((stowageref16_hasID.f x241000).bind fun t249 => (if t249 = true then (if x241000 < 10 then (stowageref16_Check.j4 k (x241004 == 0) x241000 x241001 x241002 x241003 x241004 x241005 x241006 x241007 x241008) else (stowageref16_Check.j4 k false x241000 x241001 x241002 x241003 x241004 x241005 x241006 x241007 x241008)) else (stowageref16_Check.j4 k false x241000 x241001 x241002 x241003 x241004 x241005 x241006 x241007 x241008))) else (if x241004 = 0 then ((stowageref16_hasID.f x241000).bind fun t250 => (if t250 = true then (if x241000 < 10 then (stowageref16_Check.j4 k (x241004 == 0) x241000 x241001 x241002 x241003 x241004 x241005 x241006 x241007 x241008) else (stowageref16_Check.j4 k false x241000 x241001 x241002 x241003 x241004 x241005 x241006 x241007 x241008)) else (stowageref16_Check.j4 k false x241000 x241001 x241002 x241003 x241004 x241005 x241006 x241007 x241008))) else (stowageref16_Check.j4 k true x241000 x241001 x241002 x241003 x241004 x241005 x241006 x241007 x241008))))))
def stowageref16_Check.j4 : Nat → Bool → Int → ByteArray → ByteArray → ByteArray → Int → Int → ByteArray → List (S95) → List (S61) → Option (Int)
 | 0, _, _, _, _, _, _, _, _, _, _ => none
 | k + 1, x100, x241000, x241001, x241002, x241003, x241004, x241005, x241006, x241007, x241008 => if x100 = true then (some 1) else (if x241000 = 7 then (if x241005 < 1 then (stowageref16_Check.j5 k true x241000 x241001 x241002 x241003 x241004 x241005 x241006 x241007 x241008) else (if x241005 > 100 then (stowageref16_Check.j5 k true x241000 x241001 x241002 x241003 x241004 x241005 x241006 x241007 x241008) else (stowageref16_Check.j5 k false x241000 x241001 x241002 x241003 x241004 x241005 x241006 x241007 x241008))) else (stowageref16_Check.j5 k (x241005 != 0) x241000 x241001 x241002 x241003 x241004 x241005 x241006 x241007 x241008))
def stowageref16_Check.j5 : Nat → Bool → Int → ByteArray → ByteArray → ByteArray → Int → Int → ByteArray → List (S95) → List (S61) → Option (Int)
 | 0, _, _, _, _, _, _, _, _, _, _ => none
 | k + 1, x123, x241000, x241001, x241002, x241003, x241004, x241005, x241006, x241007, x241008 => if x123 = true then (some 1) else ((stowageref13_Pieces.f k x241007).bind fun bt251 => ((stowageref16_hasSum.f x241000).bind fun t253 => (if t253 = true then ((stowageref06_May.f k x241006).bind fun t254 => (if t254 = true then (if bt251.2 = 0 then (if bt251.1 > 1048576 then (stowageref16_Check.j6 k true x241000 x241001 x241002 x241003 x241004 x241005 x241006 x241007 x241008) else ((stowageref16_hasSum.f x241000).bind fun t255 => (if t255 = true then (stowageref16_Check.j6 k false x241000 x241001 x241002 x241003 x241004 x241005 x241006 x241007 x241008) else (if x241006.toList = ([] : List UInt8) then (stowageref16_Check.j6 k (decide ((x241007.length : Int) > 0)) x241000 x241001 x241002 x241003 x241004 x241005 x241006 x241007 x241008) else (stowageref16_Check.j6 k true x241000 x241001 x241002 x241003 x241004 x241005 x241006 x241007 x241008))))) else (stowageref16_Check.j6 k true x241000 x241001 x241002 x241003 x241004 x241005 x241006 x241007 x241008)) else (stowageref16_Check.j6 k true x241000 x241001 x241002 x241003 x241004 x241005 x241006 x241007 x241008))) else ((stowageref16_hasSum.f x241000).bind fun t256 => (if t256 = true then (stowageref16_Check.j6 k false x241000 x241001 x241002 x241003 x241004 x241005 x241006 x241007 x241008) else (if x241006.toList = ([] : List UInt8) then (stowageref16_Check.j6 k (decide ((x241007.length : Int) > 0)) x241000 x241001 x241002 x241003 x241004 x241005 x241006 x241007 x241008) else (stowageref16_Check.j6 k true x241000 x241001 x241002 x241003 x241004 x241005 x241006 x241007 x241008)))))))
def stowageref16_Check.j6 : Nat → Bool → Int → ByteArray → ByteArray → ByteArray → Int → Int → ByteArray → List (S95) → List (S61) → Option (Int)
 | 0, _, _, _, _, _, _, _, _, _, _ => none
 | k + 1, x163, x241000, x241001, x241002, x241003, x241004, x241005, x241006, x241007, x241008 => if x163 = true then (some 1) else (if (x241008.length : Int) > 100 then (stowageref16_Check.j7 k true x241000 x241001 x241002 x241003 x241004 x241005 x241006 x241007 x241008) else (if x241000 = 8 then (stowageref16_Check.j7 k false x241000 x241001 x241002 x241003 x241004 x241005 x241006 x241007 x241008) else (stowageref16_Check.j7 k (decide ((x241008.length : Int) > 0)) x241000 x241001 x241002 x241003 x241004 x241005 x241006 x241007 x241008)))
def stowageref16_Check.j7 : Nat → Bool → Int → ByteArray → ByteArray → ByteArray → Int → Int → ByteArray → List (S95) → List (S61) → Option (Int)
 | 0, _, _, _, _, _, _, _, _, _, _ => none
 | k + 1, x178, x241000, x241001, x241002, x241003, x241004, x241005, x241006, x241007, x241008 => if x178 = true then (some 1) else (stowageref16_Check.l0 k 0 x241000 x241001 x241002 x241003 x241004 x241005 x241006 x241007 x241008)
def stowageref16_Check.l0 : Nat → Int → Int → ByteArray → ByteArray → ByteArray → Int → Int → ByteArray → List (S95) → List (S61) → Option (Int)
 | 0, _, _, _, _, _, _, _, _, _, _ => none
 | k + 1, x5, x241000, x241001, x241002, x241003, x241004, x241005, x241006, x241007, x241008 => if x5 < (x241008.length : Int) then (if 0 ≤ x5 then (if ((rd_T61 x241008 x5).f0) < 0 then (some 1) else (if ((rd_T61 x241008 x5).f0) > 100 then (some 1) else ((stowageref06_May.f k ((rd_T61 x241008 x5).f1)).bind fun t260 => (if t260 = true then (stowageref16_Check.l0 k (wrap64 (x5 + 1)) x241000 x241001 x241002 x241003 x241004 x241005 x241006 x241007 x241008) else (some 1))))) else (none)) else (some 0)
end
def stowageref16_Check.f (k : Nat) (a0_0 : Int) (a0_1 : ByteArray) (a0_2 : ByteArray) (a0_3 : ByteArray) (a0_4 : Int) (a0_5 : Int) (a0_6 : ByteArray) (l0_7 : List (S95)) (l0_8 : List (S61)) : Option (Int) := if a0_0 < 1 then (stowageref16_Check.j0 k true a0_0 a0_1 a0_2 a0_3 a0_4 a0_5 a0_6 l0_7 l0_8) else (stowageref16_Check.j0 k (decide (a0_0 > 10)) a0_0 a0_1 a0_2 a0_3 a0_4 a0_5 a0_6 l0_7 l0_8)
theorem stowageref16_Check.mono_l : ∀ k, (∀ y0 y1 y2 y3 y4 y5 y6 y7 y8 y9, LeO (stowageref16_Check.j0 k y0 y1 y2 y3 y4 y5 y6 y7 y8 y9) (stowageref16_Check.j0 (k + 1) y0 y1 y2 y3 y4 y5 y6 y7 y8 y9)) ∧ (∀ y0 y1 y2 y3 y4 y5 y6 y7 y8 y9, LeO (stowageref16_Check.j1 k y0 y1 y2 y3 y4 y5 y6 y7 y8 y9) (stowageref16_Check.j1 (k + 1) y0 y1 y2 y3 y4 y5 y6 y7 y8 y9)) ∧ (∀ y0 y1 y2 y3 y4 y5 y6 y7 y8 y9, LeO (stowageref16_Check.j2 k y0 y1 y2 y3 y4 y5 y6 y7 y8 y9) (stowageref16_Check.j2 (k + 1) y0 y1 y2 y3 y4 y5 y6 y7 y8 y9)) ∧ (∀ y0 y1 y2 y3 y4 y5 y6 y7 y8 y9, LeO (stowageref16_Check.j3 k y0 y1 y2 y3 y4 y5 y6 y7 y8 y9) (stowageref16_Check.j3 (k + 1) y0 y1 y2 y3 y4 y5 y6 y7 y8 y9)) ∧ (∀ y0 y1 y2 y3 y4 y5 y6 y7 y8 y9, LeO (stowageref16_Check.j4 k y0 y1 y2 y3 y4 y5 y6 y7 y8 y9) (stowageref16_Check.j4 (k + 1) y0 y1 y2 y3 y4 y5 y6 y7 y8 y9)) ∧ (∀ y0 y1 y2 y3 y4 y5 y6 y7 y8 y9, LeO (stowageref16_Check.j5 k y0 y1 y2 y3 y4 y5 y6 y7 y8 y9) (stowageref16_Check.j5 (k + 1) y0 y1 y2 y3 y4 y5 y6 y7 y8 y9)) ∧ (∀ y0 y1 y2 y3 y4 y5 y6 y7 y8 y9, LeO (stowageref16_Check.j6 k y0 y1 y2 y3 y4 y5 y6 y7 y8 y9) (stowageref16_Check.j6 (k + 1) y0 y1 y2 y3 y4 y5 y6 y7 y8 y9)) ∧ (∀ y0 y1 y2 y3 y4 y5 y6 y7 y8 y9, LeO (stowageref16_Check.j7 k y0 y1 y2 y3 y4 y5 y6 y7 y8 y9) (stowageref16_Check.j7 (k + 1) y0 y1 y2 y3 y4 y5 y6 y7 y8 y9)) ∧ (∀ y0 y1 y2 y3 y4 y5 y6 y7 y8 y9, LeO (stowageref16_Check.l0 k y0 y1 y2 y3 y4 y5 y6 y7 y8 y9) (stowageref16_Check.l0 (k + 1) y0 y1 y2 y3 y4 y5 y6 y7 y8 y9))
 | 0 => ⟨fun _ _ _ _ _ _ _ _ _ _ r h => by simp [stowageref16_Check.j0] at h, fun _ _ _ _ _ _ _ _ _ _ r h => by simp [stowageref16_Check.j1] at h, fun _ _ _ _ _ _ _ _ _ _ r h => by simp [stowageref16_Check.j2] at h, fun _ _ _ _ _ _ _ _ _ _ r h => by simp [stowageref16_Check.j3] at h, fun _ _ _ _ _ _ _ _ _ _ r h => by simp [stowageref16_Check.j4] at h, fun _ _ _ _ _ _ _ _ _ _ r h => by simp [stowageref16_Check.j5] at h, fun _ _ _ _ _ _ _ _ _ _ r h => by simp [stowageref16_Check.j6] at h, fun _ _ _ _ _ _ _ _ _ _ r h => by simp [stowageref16_Check.j7] at h, fun _ _ _ _ _ _ _ _ _ _ r h => by simp [stowageref16_Check.l0] at h⟩
 | k + 1 => by
  obtain ⟨ih0, ih1, ih2, ih3, ih4, ih5, ih6, ih7, ih8⟩ := stowageref16_Check.mono_l k
  refine ⟨?_, ?_, ?_, ?_, ?_, ?_, ?_, ?_, ?_⟩
  all_goals intros
  all_goals first | unfold stowageref16_Check.j0 | unfold stowageref16_Check.j1 | unfold stowageref16_Check.j2 | unfold stowageref16_Check.j3 | unfold stowageref16_Check.j4 | unfold stowageref16_Check.j5 | unfold stowageref16_Check.j6 | unfold stowageref16_Check.j7 | unfold stowageref16_Check.l0
  all_goals repeat' (with_reducible first | exact ih0 _ _ _ _ _ _ _ _ _ _ | exact ih1 _ _ _ _ _ _ _ _ _ _ | exact ih2 _ _ _ _ _ _ _ _ _ _ | exact ih3 _ _ _ _ _ _ _ _ _ _ | exact ih4 _ _ _ _ _ _ _ _ _ _ | exact ih5 _ _ _ _ _ _ _ _ _ _ | exact ih6 _ _ _ _ _ _ _ _ _ _ | exact ih7 _ _ _ _ _ _ _ _ _ _ | exact ih8 _ _ _ _ _ _ _ _ _ _ | exact stowageref06_May.mono _ _ | exact stowageref12_Bucket.mono _ _ | exact stowageref12_Key.mono _ _ | exact stowageref12_Token.mono _ _ | exact stowageref13_Pieces.mono _ _ | exact LeO.refl _ | exact LeO.none _ | refine LeO.ite ?_ ?_ | refine LeO.bind ?_ (fun _ => ?_))
theorem stowageref16_Check.mono : ∀ a0 a1 a2 a3 a4 a5 a6 a7 a8 k, LeO (stowageref16_Check.f k a0 a1 a2 a3 a4 a5 a6 a7 a8) (stowageref16_Check.f (k + 1) a0 a1 a2 a3 a4 a5 a6 a7 a8) := by
 intro a0 a1 a2 a3 a4 a5 a6 a7 a8 k
 obtain ⟨ih0, ih1, ih2, ih3, ih4, ih5, ih6, ih7, ih8⟩ := stowageref16_Check.mono_l k
 unfold stowageref16_Check.f
 repeat' (with_reducible first | exact ih0 _ _ _ _ _ _ _ _ _ _ | exact ih1 _ _ _ _ _ _ _ _ _ _ | exact ih2 _ _ _ _ _ _ _ _ _ _ | exact ih3 _ _ _ _ _ _ _ _ _ _ | exact ih4 _ _ _ _ _ _ _ _ _ _ | exact ih5 _ _ _ _ _ _ _ _ _ _ | exact ih6 _ _ _ _ _ _ _ _ _ _ | exact ih7 _ _ _ _ _ _ _ _ _ _ | exact ih8 _ _ _ _ _ _ _ _ _ _ | exact stowageref06_May.mono _ _ | exact stowageref12_Bucket.mono _ _ | exact stowageref12_Key.mono _ _ | exact stowageref12_Token.mono _ _ | exact stowageref13_Pieces.mono _ _ | exact LeO.refl _ | exact LeO.none _ | refine LeO.ite ?_ ?_ | refine LeO.bind ?_ (fun _ => ?_))
set_option maxHeartbeats 8000000 in
set_option maxRecDepth 100000 in
theorem stowageref16_Check.calls (k : Nat) (a0_0 : Int) (a0_1 : ByteArray) (a0_2 : ByteArray) (a0_3 : ByteArray) (a0_4 : Int) (a0_5 : Int) (a0_6 : ByteArray) (A0_7 : Option Addr) (c0_7 : Nat) (l0_7 : List (S95)) (A0_8 : Option Addr) (c0_8 : Nat) (l0_8 : List (S61)) (r : Int) (w : World) (hr0_7 : Kd.C k95 w A0_7 l0_7.length l0_7) (hc0_7 : l0_7.length ≤ c0_7) (hr0_8 : Kd.C k61 w A0_8 l0_8.length l0_8) (hc0_8 : l0_8.length ≤ c0_8) (h : stowageref16_Check.f k a0_0 a0_1 a0_2 a0_3 a0_4 a0_5 a0_6 l0_7 l0_8 = some r) :
  Calls Tryd.prog 15 #[.agg #[.int .i64 a0_0, .string a0_1, .string a0_2, .string a0_3, .int .i64 a0_4, .int .i64 a0_5, .string a0_6, .slice A0_7 l0_7.length c0_7, .slice A0_8 l0_8.length c0_8]] w fun e w' => e = .returned (.int .i64 r) ∧ Below w.heap.size w w' := by
 have hu34 := Tryd.underlying34
 have HR0_7 := am hr0_7
 have HC0_7 := am hc0_7
 clear hr0_7 hc0_7
 have HR0_8 := am hr0_8
 have HC0_8 := am hc0_8
 clear hr0_8 hc0_8
 have HB := am (Below.refl w.heap.size w)
 have H := h
 clear h
 unfold stowageref16_Check.f at H
 have HC2 := am H
 clear H
 go_enter Tryd.func15, Tryd.ntmps15
 go_upto_region 1 with (first | ((with_reducible refine gate_dst (N := 1) rfl ?_); (try (refine gate_guard (by rfl) ?_; dsimp only)); refine bx 1 #[.int .i64 a0_0, .string a0_1, .string a0_2, .string a0_3, .int .i64 a0_4, .int .i64 a0_5, .string a0_6, .slice A0_7 l0_7.length c0_7, .slice A0_8 l0_8.length c0_8] 34 ?_; intro gb240 hg w3 hbox hb; have BK240 := am (hbox); have GW240 := gsz hg HB.out; have GE240 := gsz hg HB.out; replace HB := am (below_step (bw HB.out) hb); clear hb hbox hg))
 (try simp only [Act.put, List.setIfInBounds_toArray, List.set_cons_zero, List.set_cons_succ])
 go_cut [13] (fun v13 wc => ∃ (kq : Nat) (x13_1 : Bool), v13 = .bool x13_1 ∧ Aside0 (stowageref16_Check.j0 kq x13_1 a0_0 a0_1 a0_2 a0_3 a0_4 a0_5 a0_6 l0_7 l0_8 = some r) ∧ Aside0 (kq ≤ k) ∧ Aside0 (wc.heap[gb240]? = some (.cells #[.int .i64 a0_0, .string a0_1, .string a0_2, .string a0_3, .int .i64 a0_4, .int .i64 a0_5, .string a0_6, (.slice A0_7 l0_7.length c0_7), (.slice A0_8 l0_8.length c0_8)] 34 (0, 0))) ∧ Aside0 (Below w.heap.size w wc))
 case first => as_aux_lemma =>
  have H := HC2.out
  clear HC2
  replace H := iteD H
  rcases H with ⟨c4b0, H⟩ | ⟨c4b0, H⟩
  ·
   (first | rw [c4b0] | (simp only [i64_w, i32_w]; rw [c4b0]) | skip)
   have H' := am H
   clear H
   obtain ⟨hcz5_0, hcz5_1, hcz5_2, hcz5_3, hcz5_4, hcz5_5, hcz5_6, hcz5_7, hcz5_8, hfz5_0, hfz5_1, hfz5_2, hfz5_3, hfz5_4, hfz5_5, hfz5_6, hfz5_7, hfz5_8⟩ := cz9 BK240.out
   go_wp2
   go_meet
   case rel => exact ⟨_, (true), rs, H', ⟨om⟩, ⟨bk BK240.out⟩, ⟨bws HB.out⟩⟩
  ·
   (first | rw [c4b0] | (simp only [i64_w, i32_w]; rw [c4b0]) | skip)
   have H' := am H
   clear H
   obtain ⟨hcz6_0, hcz6_1, hcz6_2, hcz6_3, hcz6_4, hcz6_5, hcz6_6, hcz6_7, hcz6_8, hfz6_0, hfz6_1, hfz6_2, hfz6_3, hfz6_4, hfz6_5, hfz6_6, hfz6_7, hfz6_8⟩ := cz9 BK240.out
   go_wp2
   go_meet
   case rel => exact ⟨_, (decide (a0_0 > 10)), rs, H', ⟨om⟩, ⟨bk BK240.out⟩, ⟨bws HB.out⟩⟩
 case rest => as_aux_lemma =>
  clear HC2
  obtain ⟨kq, x13_1, rfl, HA, HJ1, BK240, HB⟩ := hcut
  cases kq with
  | zero => exact absurd HA.out (by simp [stowageref16_Check.j0])
  | succ kj1 =>
   have H := HA.out
   clear HA
   simp only [stowageref16_Check.j0] at H
   by_cases c7 : x13_1 = true
   ·
    subst c7
    rw [if_pos rfl] at H
    obtain rfl := Option.some.inj H
    go_wp2
    go_ret
    exact ⟨rf, bws HB.out⟩
   · as_aux_lemma =>
    replace c7 := Bool.eq_false_iff.mpr c7
    subst c7
    rw [if_neg (show ¬ (false = true) by decide)] at H
    have HC8 := am H
    clear H
    go_upto_region 3 with (fail)
    go_cut [27] (fun v27 wc => ∃ (kq : Nat) (x27_7 : Bool), v27 = .bool x27_7 ∧ Aside0 (stowageref16_Check.j1 kq x27_7 a0_0 a0_1 a0_2 a0_3 a0_4 a0_5 a0_6 l0_7 l0_8 = some r) ∧ Aside0 (kq ≤ kj1) ∧ Aside0 (wc.heap[gb240]? = some (.cells #[.int .i64 a0_0, .string a0_1, .string a0_2, .string a0_3, .int .i64 a0_4, .int .i64 a0_5, .string a0_6, (.slice A0_7 l0_7.length c0_7), (.slice A0_8 l0_8.length c0_8)] 34 (0, 0))) ∧ Aside0 (Below w.heap.size w wc))
    case first => as_aux_lemma =>
     have H := HC8.out
     clear HC8
     by_cases c9 : a0_1.toList = ([] : List UInt8)
     ·
      rw [if_pos c9] at H
      have c9b0 := beq_iff_eq.mpr c9
      have c9b1 := bne_eq_false_iff_eq.mpr c9
      clear c9
      (first | rw [c9b0] | (simp only [i64_w, i32_w]; rw [c9b0]) | skip)
      have H' := am H
      clear H
      obtain ⟨hcz10_0, hcz10_1, hcz10_2, hcz10_3, hcz10_4, hcz10_5, hcz10_6, hcz10_7, hcz10_8, hfz10_0, hfz10_1, hfz10_2, hfz10_3, hfz10_4, hfz10_5, hfz10_6, hfz10_7, hfz10_8⟩ := cz9 BK240.out
      go_wp2
      go_meet
      case rel => exact ⟨_, (false), rs, H', ⟨by have := HJ1.out; first | omega | exact Nat.le_refl _⟩, ⟨bk BK240.out⟩, ⟨bws HB.out⟩⟩
     ·
      rw [if_neg c9] at H
      have c9b0 := beq_eq_false_iff_ne.mpr c9
      have c9b1 := bne_iff_ne.mpr c9
      (first | rw [c9b0] | (simp only [i64_w, i32_w]; rw [c9b0]) | skip)
      by_cases c11 : a0_0 = 10
      ·
       rw [if_pos c11] at H
       have c11b0 := beq_iff_eq.mpr c11
       have c11b1 := bne_eq_false_iff_eq.mpr c11
       clear c11
       have H' := am H
       clear H
       obtain ⟨hcz12_0, hcz12_1, hcz12_2, hcz12_3, hcz12_4, hcz12_5, hcz12_6, hcz12_7, hcz12_8, hfz12_0, hfz12_1, hfz12_2, hfz12_3, hfz12_4, hfz12_5, hfz12_6, hfz12_7, hfz12_8⟩ := cz9 BK240.out
       go_wp2
       go_meet
       case rel => exact ⟨_, (true), rs, H', ⟨by have := HJ1.out; first | omega | exact Nat.le_refl _⟩, ⟨bk BK240.out⟩, ⟨bws HB.out⟩⟩
      ·
       rw [if_neg c11] at H
       have c11b0 := beq_eq_false_iff_ne.mpr c11
       have c11b1 := bne_iff_ne.mpr c11
       replace H := obE H
       obtain ⟨t241, A13, H⟩ := H
       have H' := am H
       clear H
       obtain ⟨hcz14_0, hcz14_1, hcz14_2, hcz14_3, hcz14_4, hcz14_5, hcz14_6, hcz14_7, hcz14_8, hfz14_0, hfz14_1, hfz14_2, hfz14_3, hfz14_4, hfz14_5, hfz14_6, hfz14_7, hfz14_8⟩ := cz9 BK240.out
       go_wp2_with (first | (go_at_call 38; (with_reducible refine (stowageref12_Token.calls kj1 a0_1 t241 _ A13.out).mono ?_); rintro e w' ⟨rfl, ⟨nd, rfl⟩⟩))
       go_meet
       case rel => exact ⟨_, (!t241), rs, H', ⟨by have := HJ1.out; first | omega | exact Nat.le_refl _⟩, ⟨bk BK240.out⟩, ⟨bws HB.out⟩⟩
    case rest => as_aux_lemma =>
     clear HC8
     try clear c7
     obtain ⟨kq, x27_7, rfl, HA, HJ7, BK240, HB⟩ := hcut
     cases kq with
     | zero => exact absurd HA.out (by simp [stowageref16_Check.j1])
     | succ kj7 =>
      have H := HA.out
      clear HA
      simp only [stowageref16_Check.j1] at H
      by_cases c15 : x27_7 = true
      ·
       subst c15
       rw [if_pos rfl] at H
       obtain rfl := Option.some.inj H
       go_wp2
       go_ret
       exact ⟨rf, bws HB.out⟩
      · as_aux_lemma =>
       replace c15 := Bool.eq_false_iff.mpr c15
       subst c15
       rw [if_neg (show ¬ (false = true) by decide)] at H
       have HC16 := am H
       clear H
       go_upto_region 5 with (fail)
       go_cut [46] (fun v46 wc => ∃ (kq : Nat) (x46_15 : Bool), v46 = .bool x46_15 ∧ Aside0 (stowageref16_Check.j2 kq x46_15 a0_0 a0_1 a0_2 a0_3 a0_4 a0_5 a0_6 l0_7 l0_8 = some r) ∧ Aside0 (kq ≤ kj7) ∧ Aside0 (wc.heap[gb240]? = some (.cells #[.int .i64 a0_0, .string a0_1, .string a0_2, .string a0_3, .int .i64 a0_4, .int .i64 a0_5, .string a0_6, (.slice A0_7 l0_7.length c0_7), (.slice A0_8 l0_8.length c0_8)] 34 (0, 0))) ∧ Aside0 (Below w.heap.size w wc))
       case first => as_aux_lemma =>
        have H := HC16.out
        clear HC16
        by_cases c17 : a0_0 = 10
        ·
         rw [if_pos c17] at H
         have c17b0 := beq_iff_eq.mpr c17
         have c17b1 := bne_eq_false_iff_eq.mpr c17
         clear c17
         (first | rw [c17b0] | (simp only [i64_w, i32_w]; rw [c17b0]) | skip)
         by_cases c18 : a0_2.toList = ([] : List UInt8)
         ·
          rw [if_pos c18] at H
          have c18b0 := beq_iff_eq.mpr c18
          have c18b1 := bne_eq_false_iff_eq.mpr c18
          clear c18
          replace H := iteD H
          rcases H with ⟨c19b0, H⟩ | ⟨c19b0, H⟩
          ·
           replace H := obE H
           obtain ⟨t242, A20, H⟩ := H
           have H' := am H
           clear H
           obtain ⟨hcz21_0, hcz21_1, hcz21_2, hcz21_3, hcz21_4, hcz21_5, hcz21_6, hcz21_7, hcz21_8, hfz21_0, hfz21_1, hfz21_2, hfz21_3, hfz21_4, hfz21_5, hfz21_6, hfz21_7, hfz21_8⟩ := cz9 BK240.out
           go_wp2_with (first | (go_at_call 39; (with_reducible refine (stowageref12_Bucket.calls kj7 a0_2 t242 _ A20.out).mono ?_); rintro e w' ⟨rfl, ⟨nd, rfl⟩⟩))
           go_meet
           case rel => exact ⟨_, (!t242), rs, H', ⟨by have := HJ1.out; have := HJ7.out; first | omega | exact Nat.le_refl _⟩, ⟨bk BK240.out⟩, ⟨bws HB.out⟩⟩
          ·
           have H' := am H
           clear H
           obtain ⟨hcz22_0, hcz22_1, hcz22_2, hcz22_3, hcz22_4, hcz22_5, hcz22_6, hcz22_7, hcz22_8, hfz22_0, hfz22_1, hfz22_2, hfz22_3, hfz22_4, hfz22_5, hfz22_6, hfz22_7, hfz22_8⟩ := cz9 BK240.out
           go_wp2
           go_meet
           case rel => exact ⟨_, (false), rs, H', ⟨by have := HJ1.out; have := HJ7.out; first | omega | exact Nat.le_refl _⟩, ⟨bk BK240.out⟩, ⟨bws HB.out⟩⟩
         ·
          rw [if_neg c18] at H
          have c18b0 := beq_eq_false_iff_ne.mpr c18
          have c18b1 := bne_iff_ne.mpr c18
          have H' := am H
          clear H
          obtain ⟨hcz23_0, hcz23_1, hcz23_2, hcz23_3, hcz23_4, hcz23_5, hcz23_6, hcz23_7, hcz23_8, hfz23_0, hfz23_1, hfz23_2, hfz23_3, hfz23_4, hfz23_5, hfz23_6, hfz23_7, hfz23_8⟩ := cz9 BK240.out
          go_wp2
          go_meet
          case rel => exact ⟨_, (true), rs, H', ⟨by have := HJ1.out; have := HJ7.out; first | omega | exact Nat.le_refl _⟩, ⟨bk BK240.out⟩, ⟨bws HB.out⟩⟩
        ·
         rw [if_neg c17] at H
         have c17b0 := beq_eq_false_iff_ne.mpr c17
         have c17b1 := bne_iff_ne.mpr c17
         (first | rw [c17b0] | (simp only [i64_w, i32_w]; rw [c17b0]) | skip)
         replace H := iteD H
         rcases H with ⟨c24b0, H⟩ | ⟨c24b0, H⟩
         ·
          replace H := obE H
          obtain ⟨t243, A25, H⟩ := H
          have H' := am H
          clear H
          obtain ⟨hcz26_0, hcz26_1, hcz26_2, hcz26_3, hcz26_4, hcz26_5, hcz26_6, hcz26_7, hcz26_8, hfz26_0, hfz26_1, hfz26_2, hfz26_3, hfz26_4, hfz26_5, hfz26_6, hfz26_7, hfz26_8⟩ := cz9 BK240.out
          go_wp2_with (first | (go_at_call 39; (with_reducible refine (stowageref12_Bucket.calls kj7 a0_2 t243 _ A25.out).mono ?_); rintro e w' ⟨rfl, ⟨nd, rfl⟩⟩))
          go_meet
          case rel => exact ⟨_, (!t243), rs, H', ⟨by have := HJ1.out; have := HJ7.out; first | omega | exact Nat.le_refl _⟩, ⟨bk BK240.out⟩, ⟨bws HB.out⟩⟩
         ·
          have H' := am H
          clear H
          obtain ⟨hcz27_0, hcz27_1, hcz27_2, hcz27_3, hcz27_4, hcz27_5, hcz27_6, hcz27_7, hcz27_8, hfz27_0, hfz27_1, hfz27_2, hfz27_3, hfz27_4, hfz27_5, hfz27_6, hfz27_7, hfz27_8⟩ := cz9 BK240.out
          go_wp2
          go_meet
          case rel => exact ⟨_, (false), rs, H', ⟨by have := HJ1.out; have := HJ7.out; first | omega | exact Nat.le_refl _⟩, ⟨bk BK240.out⟩, ⟨bws HB.out⟩⟩
       case rest => as_aux_lemma =>
        clear HC16
        try clear c7
        try clear c15
        obtain ⟨kq, x46_15, rfl, HA, HJ15, BK240, HB⟩ := hcut
        cases kq with
        | zero => exact absurd HA.out (by simp [stowageref16_Check.j2])
        | succ kj15 =>
         have H := HA.out
         clear HA
         simp only [stowageref16_Check.j2] at H
         by_cases c28 : x46_15 = true
         ·
          subst c28
          rw [if_pos rfl] at H
          obtain rfl := Option.some.inj H
          go_wp2
          go_ret
          exact ⟨rf, bws HB.out⟩
         · as_aux_lemma =>
          replace c28 := Bool.eq_false_iff.mpr c28
          subst c28
          rw [if_neg (show ¬ (false = true) by decide)] at H
          have HC29 := am H
          clear H
          go_upto_region 7 with (fail)
          go_cut [66] (fun v66 wc => ∃ (kq : Nat) (x66_28 : Bool), v66 = .bool x66_28 ∧ Aside0 (stowageref16_Check.j3 kq x66_28 a0_0 a0_1 a0_2 a0_3 a0_4 a0_5 a0_6 l0_7 l0_8 = some r) ∧ Aside0 (kq ≤ kj15) ∧ Aside0 (wc.heap[gb240]? = some (.cells #[.int .i64 a0_0, .string a0_1, .string a0_2, .string a0_3, .int .i64 a0_4, .int .i64 a0_5, .string a0_6, (.slice A0_7 l0_7.length c0_7), (.slice A0_8 l0_8.length c0_8)] 34 (0, 0))) ∧ Aside0 (Below w.heap.size w wc))
          case first => as_aux_lemma =>
           have H := HC29.out
           clear HC29
           replace H := obE H
           obtain ⟨t244, A30, H⟩ := H
           by_cases c31 : t244 = true
           · as_aux_lemma =>
            subst c31
            rw [if_pos rfl] at H
            replace H := obE H
            obtain ⟨t245, A32, H⟩ := H
            by_cases c33 : t245 = true
            ·
             subst c33
             rw [if_pos rfl] at H
             replace H := obE H
             obtain ⟨t246, A34, H⟩ := H
             by_cases c35 : t246 = true
             ·
              subst c35
              rw [if_pos rfl] at H
              have H' := am H
              clear H
              obtain ⟨hcz36_0, hcz36_1, hcz36_2, hcz36_3, hcz36_4, hcz36_5, hcz36_6, hcz36_7, hcz36_8, hfz36_0, hfz36_1, hfz36_2, hfz36_3, hfz36_4, hfz36_5, hfz36_6, hfz36_7, hfz36_8⟩ := cz9 BK240.out
              go_wp2_with (first | ((with_reducible refine gate_callee (f := 40) rfl ?_); refine goesL_ (some 49) rfl rfl Tryd.func40 (by kernel_rfl) rfl #[.int .i64 a0_0] rfl gl ?_; (with_reducible refine (stowageref16_HasKey.calls a0_0 true _ A30.out).mono ?_); rintro e w' ⟨rfl, ⟨nd, rfl⟩⟩; refine ⟨_, rfl, ?_⟩) | (go_at_call 41; (with_reducible refine (stowageref12_Key.calls kj15 a0_3 true _ A32.out).mono ?_); rintro e w' ⟨rfl, ⟨nd, rfl⟩⟩) | (go_at_call 40; (with_reducible refine (stowageref16_HasKey.calls a0_0 true _ A34.out).mono ?_); rintro e w' ⟨rfl, ⟨nd, rfl⟩⟩))
              go_meet
              case rel => exact ⟨_, (false), rs, H', ⟨by have := HJ1.out; have := HJ7.out; have := HJ15.out; first | omega | exact Nat.le_refl _⟩, ⟨bk BK240.out⟩, ⟨bws HB.out⟩⟩
             ·
              replace c35 := Bool.eq_false_iff.mpr c35
              subst c35
              rw [if_neg (show ¬ (false = true) by decide)] at H
              have H' := am H
              clear H
              obtain ⟨hcz37_0, hcz37_1, hcz37_2, hcz37_3, hcz37_4, hcz37_5, hcz37_6, hcz37_7, hcz37_8, hfz37_0, hfz37_1, hfz37_2, hfz37_3, hfz37_4, hfz37_5, hfz37_6, hfz37_7, hfz37_8⟩ := cz9 BK240.out
              go_wp2_with (first | ((with_reducible refine gate_callee (f := 40) rfl ?_); refine goesL_ (some 49) rfl rfl Tryd.func40 (by kernel_rfl) rfl #[.int .i64 a0_0] rfl gl ?_; (with_reducible refine (stowageref16_HasKey.calls a0_0 true _ A30.out).mono ?_); rintro e w' ⟨rfl, ⟨nd, rfl⟩⟩; refine ⟨_, rfl, ?_⟩) | (go_at_call 41; (with_reducible refine (stowageref12_Key.calls kj15 a0_3 true _ A32.out).mono ?_); rintro e w' ⟨rfl, ⟨nd, rfl⟩⟩) | (go_at_call 40; (with_reducible refine (stowageref16_HasKey.calls a0_0 false _ A34.out).mono ?_); rintro e w' ⟨rfl, ⟨nd, rfl⟩⟩))
              go_meet
              case rel => exact ⟨_, ((a0_3.toList != ([] : List UInt8))), (by first | (simp; done) | (cases a0_3.toList <;> rfl) | (cases a0_3.toList <;> simp)), H', ⟨by have := HJ1.out; have := HJ7.out; have := HJ15.out; first | omega | exact Nat.le_refl _⟩, ⟨bk BK240.out⟩, ⟨bws HB.out⟩⟩
            ·
             replace c33 := Bool.eq_false_iff.mpr c33
             subst c33
             rw [if_neg (show ¬ (false = true) by decide)] at H
             have H' := am H
             clear H
             obtain ⟨hcz38_0, hcz38_1, hcz38_2, hcz38_3, hcz38_4, hcz38_5, hcz38_6, hcz38_7, hcz38_8, hfz38_0, hfz38_1, hfz38_2, hfz38_3, hfz38_4, hfz38_5, hfz38_6, hfz38_7, hfz38_8⟩ := cz9 BK240.out
             go_wp2_with (first | ((with_reducible refine gate_callee (f := 40) rfl ?_); refine goesL_ (some 49) rfl rfl Tryd.func40 (by kernel_rfl) rfl #[.int .i64 a0_0] rfl gl ?_; (with_reducible refine (stowageref16_HasKey.calls a0_0 true _ A30.out).mono ?_); rintro e w' ⟨rfl, ⟨nd, rfl⟩⟩; refine ⟨_, rfl, ?_⟩) | (go_at_call 41; (with_reducible refine (stowageref12_Key.calls kj15 a0_3 false _ A32.out).mono ?_); rintro e w' ⟨rfl, ⟨nd, rfl⟩⟩))
             go_meet
             case rel => exact ⟨_, (true), rs, H', ⟨by have := HJ1.out; have := HJ7.out; have := HJ15.out; first | omega | exact Nat.le_refl _⟩, ⟨bk BK240.out⟩, ⟨bws HB.out⟩⟩
           ·
            replace c31 := Bool.eq_false_iff.mpr c31
            subst c31
            rw [if_neg (show ¬ (false = true) by decide)] at H
            replace H := obE H
            obtain ⟨t247, A39, H⟩ := H
            by_cases c40 : t247 = true
            ·
             subst c40
             rw [if_pos rfl] at H
             have H' := am H
             clear H
             obtain ⟨hcz41_0, hcz41_1, hcz41_2, hcz41_3, hcz41_4, hcz41_5, hcz41_6, hcz41_7, hcz41_8, hfz41_0, hfz41_1, hfz41_2, hfz41_3, hfz41_4, hfz41_5, hfz41_6, hfz41_7, hfz41_8⟩ := cz9 BK240.out
             go_wp2_with (first | ((with_reducible refine gate_callee (f := 40) rfl ?_); refine goesL_ (some 49) rfl rfl Tryd.func40 (by kernel_rfl) rfl #[.int .i64 a0_0] rfl gl ?_; (with_reducible refine (stowageref16_HasKey.calls a0_0 false _ A30.out).mono ?_); rintro e w' ⟨rfl, ⟨nd, rfl⟩⟩; refine ⟨_, rfl, ?_⟩) | (go_at_call 40; (with_reducible refine (stowageref16_HasKey.calls a0_0 true _ A39.out).mono ?_); rintro e w' ⟨rfl, ⟨nd, rfl⟩⟩))
             go_meet
             case rel => exact ⟨_, (false), rs, H', ⟨by have := HJ1.out; have := HJ7.out; have := HJ15.out; first | omega | exact Nat.le_refl _⟩, ⟨bk BK240.out⟩, ⟨bws HB.out⟩⟩
            ·
             replace c40 := Bool.eq_false_iff.mpr c40
             subst c40
             rw [if_neg (show ¬ (false = true) by decide)] at H
             have H' := am H
             clear H
             obtain ⟨hcz42_0, hcz42_1, hcz42_2, hcz42_3, hcz42_4, hcz42_5, hcz42_6, hcz42_7, hcz42_8, hfz42_0, hfz42_1, hfz42_2, hfz42_3, hfz42_4, hfz42_5, hfz42_6, hfz42_7, hfz42_8⟩ := cz9 BK240.out
             go_wp2_with (first | ((with_reducible refine gate_callee (f := 40) rfl ?_); refine goesL_ (some 49) rfl rfl Tryd.func40 (by kernel_rfl) rfl #[.int .i64 a0_0] rfl gl ?_; (with_reducible refine (stowageref16_HasKey.calls a0_0 false _ A30.out).mono ?_); rintro e w' ⟨rfl, ⟨nd, rfl⟩⟩; refine ⟨_, rfl, ?_⟩) | (go_at_call 40; (with_reducible refine (stowageref16_HasKey.calls a0_0 false _ A39.out).mono ?_); rintro e w' ⟨rfl, ⟨nd, rfl⟩⟩))
             go_meet
             case rel => exact ⟨_, ((a0_3.toList != ([] : List UInt8))), (by first | (simp; done) | (cases a0_3.toList <;> rfl) | (cases a0_3.toList <;> simp)), H', ⟨by have := HJ1.out; have := HJ7.out; have := HJ15.out; first | omega | exact Nat.le_refl _⟩, ⟨bk BK240.out⟩, ⟨bws HB.out⟩⟩
          case rest => as_aux_lemma =>
           clear HC29
           try clear c7
           try clear c15
           try clear c28
           obtain ⟨kq, x66_28, rfl, HA, HJ28, BK240, HB⟩ := hcut
           cases kq with
           | zero => exact absurd HA.out (by simp [stowageref16_Check.j3])
           | succ kj28 =>
            have H := HA.out
            clear HA
            simp only [stowageref16_Check.j3] at H
            by_cases c43 : x66_28 = true
            ·
             subst c43
             rw [if_pos rfl] at H
             obtain rfl := Option.some.inj H
             go_wp2
             go_ret
             exact ⟨rf, bws HB.out⟩
            · as_aux_lemma =>
             replace c43 := Bool.eq_false_iff.mpr c43
             subst c43
             rw [if_neg (show ¬ (false = true) by decide)] at H
             have HC44 := am H
             clear H
             go_upto_region 9 with (fail)
             go_cut [100] (fun v100 wc => ∃ (kq : Nat) (x100_43 : Bool), v100 = .bool x100_43 ∧ Aside0 (stowageref16_Check.j4 kq x100_43 a0_0 a0_1 a0_2 a0_3 a0_4 a0_5 a0_6 l0_7 l0_8 = some r) ∧ Aside0 (kq ≤ kj28) ∧ Aside0 (wc.heap[gb240]? = some (.cells #[.int .i64 a0_0, .string a0_1, .string a0_2, .string a0_3, .int .i64 a0_4, .int .i64 a0_5, .string a0_6, (.slice A0_7 l0_7.length c0_7), (.slice A0_8 l0_8.length c0_8)] 34 (0, 0))) ∧ Aside0 (Below w.heap.size w wc))
             case first => as_aux_lemma =>
              have H := HC44.out
              clear HC44
              replace H := iteD H
              rcases H with ⟨c45b0, H⟩ | ⟨c45b0, H⟩
              ·
               (first | rw [c45b0] | (simp only [i64_w, i32_w]; rw [c45b0]) | skip)
               have H' := am H
               clear H
               obtain ⟨hcz46_0, hcz46_1, hcz46_2, hcz46_3, hcz46_4, hcz46_5, hcz46_6, hcz46_7, hcz46_8, hfz46_0, hfz46_1, hfz46_2, hfz46_3, hfz46_4, hfz46_5, hfz46_6, hfz46_7, hfz46_8⟩ := cz9 BK240.out
               go_wp2
               go_meet
               case rel => exact ⟨_, (true), rs, H', ⟨by have := HJ1.out; have := HJ7.out; have := HJ15.out; have := HJ28.out; first | omega | exact Nat.le_refl _⟩, ⟨bk BK240.out⟩, ⟨bws HB.out⟩⟩
              · as_aux_lemma =>
               (first | rw [c45b0] | (simp only [i64_w, i32_w]; rw [c45b0]) | skip)
               replace H := iteD H
               rcases H with ⟨c47b0, H⟩ | ⟨c47b0, H⟩
               ·
                have H' := am H
                clear H
                obtain ⟨hcz48_0, hcz48_1, hcz48_2, hcz48_3, hcz48_4, hcz48_5, hcz48_6, hcz48_7, hcz48_8, hfz48_0, hfz48_1, hfz48_2, hfz48_3, hfz48_4, hfz48_5, hfz48_6, hfz48_7, hfz48_8⟩ := cz9 BK240.out
                go_wp2
                go_meet
                case rel => exact ⟨_, (true), rs, H', ⟨by have := HJ1.out; have := HJ7.out; have := HJ15.out; have := HJ28.out; first | omega | exact Nat.le_refl _⟩, ⟨bk BK240.out⟩, ⟨bws HB.out⟩⟩
               · as_aux_lemma =>
                replace H := obE H
                obtain ⟨t248, A49, H⟩ := H
                by_cases c50 : t248 = true
                ·
                 subst c50
                 rw [if_pos rfl] at H
                 replace H := obE H
                 obtain ⟨t249, A51, H⟩ := H
                 by_cases c52 : t249 = true
                 ·
                  subst c52
                  rw [if_pos rfl] at H
                  replace H := iteD H
                  rcases H with ⟨c53b0, H⟩ | ⟨c53b0, H⟩
                  ·
                   have H' := am H
                   clear H
                   obtain ⟨hcz54_0, hcz54_1, hcz54_2, hcz54_3, hcz54_4, hcz54_5, hcz54_6, hcz54_7, hcz54_8, hfz54_0, hfz54_1, hfz54_2, hfz54_3, hfz54_4, hfz54_5, hfz54_6, hfz54_7, hfz54_8⟩ := cz9 BK240.out
                   go_wp2_with (first | (go_at_call 42; (with_reducible refine (stowageref16_hasID.calls a0_0 true _ A49.out).mono ?_); rintro e w' ⟨rfl, ⟨nd, rfl⟩⟩; clear A49) | (go_at_call 42; (with_reducible refine (stowageref16_hasID.calls a0_0 true _ A51.out).mono ?_); rintro e w' ⟨rfl, ⟨nd, rfl⟩⟩; clear A51))
                   go_meet
                   case rel => exact ⟨_, ((a0_4 == 0)), rs, H', ⟨by have := HJ1.out; have := HJ7.out; have := HJ15.out; have := HJ28.out; first | omega | exact Nat.le_refl _⟩, ⟨bk BK240.out⟩, ⟨bws HB.out⟩⟩
                  ·
                   have H' := am H
                   clear H
                   obtain ⟨hcz55_0, hcz55_1, hcz55_2, hcz55_3, hcz55_4, hcz55_5, hcz55_6, hcz55_7, hcz55_8, hfz55_0, hfz55_1, hfz55_2, hfz55_3, hfz55_4, hfz55_5, hfz55_6, hfz55_7, hfz55_8⟩ := cz9 BK240.out
                   go_wp2_with (first | (go_at_call 42; (with_reducible refine (stowageref16_hasID.calls a0_0 true _ A49.out).mono ?_); rintro e w' ⟨rfl, ⟨nd, rfl⟩⟩; clear A49) | (go_at_call 42; (with_reducible refine (stowageref16_hasID.calls a0_0 true _ A51.out).mono ?_); rintro e w' ⟨rfl, ⟨nd, rfl⟩⟩; clear A51))
                   go_meet
                   case rel => exact ⟨_, (false), rs, H', ⟨by have := HJ1.out; have := HJ7.out; have := HJ15.out; have := HJ28.out; first | omega | exact Nat.le_refl _⟩, ⟨bk BK240.out⟩, ⟨bws HB.out⟩⟩
                 ·
                  replace c52 := Bool.eq_false_iff.mpr c52
                  subst c52
                  rw [if_neg (show ¬ (false = true) by decide)] at H
                  have H' := am H
                  clear H
                  obtain ⟨hcz56_0, hcz56_1, hcz56_2, hcz56_3, hcz56_4, hcz56_5, hcz56_6, hcz56_7, hcz56_8, hfz56_0, hfz56_1, hfz56_2, hfz56_3, hfz56_4, hfz56_5, hfz56_6, hfz56_7, hfz56_8⟩ := cz9 BK240.out
                  go_wp2_with (first | (go_at_call 42; (with_reducible refine (stowageref16_hasID.calls a0_0 true _ A49.out).mono ?_); rintro e w' ⟨rfl, ⟨nd, rfl⟩⟩; clear A49) | (go_at_call 42; (with_reducible refine (stowageref16_hasID.calls a0_0 false _ A51.out).mono ?_); rintro e w' ⟨rfl, ⟨nd, rfl⟩⟩; clear A51))
                  go_meet
                  case rel => exact ⟨_, (false), rs, H', ⟨by have := HJ1.out; have := HJ7.out; have := HJ15.out; have := HJ28.out; first | omega | exact Nat.le_refl _⟩, ⟨bk BK240.out⟩, ⟨bws HB.out⟩⟩
                · as_aux_lemma =>
                 replace c50 := Bool.eq_false_iff.mpr c50
                 subst c50
                 rw [if_neg (show ¬ (false = true) by decide)] at H
                 by_cases c57 : a0_4 = 0
                 ·
                  rw [if_pos c57] at H
                  have c57b0 := beq_iff_eq.mpr c57
                  have c57b1 := bne_eq_false_iff_eq.mpr c57
                  clear c57
                  replace H := obE H
                  obtain ⟨t250, A58, H⟩ := H
                  by_cases c59 : t250 = true
                  ·
                   subst c59
                   rw [if_pos rfl] at H
                   replace H := iteD H
                   rcases H with ⟨c60b0, H⟩ | ⟨c60b0, H⟩
                   ·
                    have H' := am H
                    clear H
                    obtain ⟨hcz61_0, hcz61_1, hcz61_2, hcz61_3, hcz61_4, hcz61_5, hcz61_6, hcz61_7, hcz61_8, hfz61_0, hfz61_1, hfz61_2, hfz61_3, hfz61_4, hfz61_5, hfz61_6, hfz61_7, hfz61_8⟩ := cz9 BK240.out
                    go_wp2_with (first | (go_at_call 42; (with_reducible refine (stowageref16_hasID.calls a0_0 false _ A49.out).mono ?_); rintro e w' ⟨rfl, ⟨nd, rfl⟩⟩; clear A49) | (go_at_call 42; (with_reducible refine (stowageref16_hasID.calls a0_0 true _ A58.out).mono ?_); rintro e w' ⟨rfl, ⟨nd, rfl⟩⟩; clear A58))
                    go_meet
                    case rel => exact ⟨_, ((a0_4 == 0)), rs, H', ⟨by have := HJ1.out; have := HJ7.out; have := HJ15.out; have := HJ28.out; first | omega | exact Nat.le_refl _⟩, ⟨bk BK240.out⟩, ⟨bws HB.out⟩⟩
                   ·
                    have H' := am H
                    clear H
                    obtain ⟨hcz62_0, hcz62_1, hcz62_2, hcz62_3, hcz62_4, hcz62_5, hcz62_6, hcz62_7, hcz62_8, hfz62_0, hfz62_1, hfz62_2, hfz62_3, hfz62_4, hfz62_5, hfz62_6, hfz62_7, hfz62_8⟩ := cz9 BK240.out
                    go_wp2_with (first | (go_at_call 42; (with_reducible refine (stowageref16_hasID.calls a0_0 false _ A49.out).mono ?_); rintro e w' ⟨rfl, ⟨nd, rfl⟩⟩; clear A49) | (go_at_call 42; (with_reducible refine (stowageref16_hasID.calls a0_0 true _ A58.out).mono ?_); rintro e w' ⟨rfl, ⟨nd, rfl⟩⟩; clear A58))
                    go_meet
                    case rel => exact ⟨_, (false), rs, H', ⟨by have := HJ1.out; have := HJ7.out; have := HJ15.out; have := HJ28.out; first | omega | exact Nat.le_refl _⟩, ⟨bk BK240.out⟩, ⟨bws HB.out⟩⟩
                  ·
                   replace c59 := Bool.eq_false_iff.mpr c59
                   subst c59
                   rw [if_neg (show ¬ (false = true) by decide)] at H
                   have H' := am H
                   clear H
                   obtain ⟨hcz63_0, hcz63_1, hcz63_2, hcz63_3, hcz63_4, hcz63_5, hcz63_6, hcz63_7, hcz63_8, hfz63_0, hfz63_1, hfz63_2, hfz63_3, hfz63_4, hfz63_5, hfz63_6, hfz63_7, hfz63_8⟩ := cz9 BK240.out
                   go_wp2_with (first | (go_at_call 42; (with_reducible refine (stowageref16_hasID.calls a0_0 false _ A49.out).mono ?_); rintro e w' ⟨rfl, ⟨nd, rfl⟩⟩; clear A49) | (go_at_call 42; (with_reducible refine (stowageref16_hasID.calls a0_0 false _ A58.out).mono ?_); rintro e w' ⟨rfl, ⟨nd, rfl⟩⟩; clear A58))
                   go_meet
                   case rel => exact ⟨_, (false), rs, H', ⟨by have := HJ1.out; have := HJ7.out; have := HJ15.out; have := HJ28.out; first | omega | exact Nat.le_refl _⟩, ⟨bk BK240.out⟩, ⟨bws HB.out⟩⟩
                 ·
                  rw [if_neg c57] at H
                  have c57b0 := beq_eq_false_iff_ne.mpr c57
                  have c57b1 := bne_iff_ne.mpr c57
                  have H' := am H
                  clear H
                  obtain ⟨hcz64_0, hcz64_1, hcz64_2, hcz64_3, hcz64_4, hcz64_5, hcz64_6, hcz64_7, hcz64_8, hfz64_0, hfz64_1, hfz64_2, hfz64_3, hfz64_4, hfz64_5, hfz64_6, hfz64_7, hfz64_8⟩ := cz9 BK240.out
                  go_wp2_with (first | (go_at_call 42; (with_reducible refine (stowageref16_hasID.calls a0_0 false _ A49.out).mono ?_); rintro e w' ⟨rfl, ⟨nd, rfl⟩⟩))
                  go_meet
                  case rel => exact ⟨_, (true), rs, H', ⟨by have := HJ1.out; have := HJ7.out; have := HJ15.out; have := HJ28.out; first | omega | exact Nat.le_refl _⟩, ⟨bk BK240.out⟩, ⟨bws HB.out⟩⟩
             case rest => as_aux_lemma =>
              clear HC44
              try clear c43
              obtain ⟨kq, x100_43, rfl, HA, HJ43, BK240, HB⟩ := hcut
              cases kq with
              | zero => exact absurd HA.out (by simp [stowageref16_Check.j4])
              | succ kj43 =>
               have H := HA.out
               clear HA
               simp only [stowageref16_Check.j4] at H
               by_cases c65 : x100_43 = true
               ·
                subst c65
                rw [if_pos rfl] at H
                obtain rfl := Option.some.inj H
                go_wp2
                go_ret
                exact ⟨rf, bws HB.out⟩
               · as_aux_lemma =>
                replace c65 := Bool.eq_false_iff.mpr c65
                subst c65
                rw [if_neg (show ¬ (false = true) by decide)] at H
                have HC66 := am H
                clear H
                go_upto_region 11 with (fail)
                go_cut [123] (fun v123 wc => ∃ (kq : Nat) (x123_65 : Bool), v123 = .bool x123_65 ∧ Aside0 (stowageref16_Check.j5 kq x123_65 a0_0 a0_1 a0_2 a0_3 a0_4 a0_5 a0_6 l0_7 l0_8 = some r) ∧ Aside0 (kq ≤ kj43) ∧ Aside0 (wc.heap[gb240]? = some (.cells #[.int .i64 a0_0, .string a0_1, .string a0_2, .string a0_3, .int .i64 a0_4, .int .i64 a0_5, .string a0_6, (.slice A0_7 l0_7.length c0_7), (.slice A0_8 l0_8.length c0_8)] 34 (0, 0))) ∧ Aside0 (Below w.heap.size w wc))
                case first => as_aux_lemma =>
                 have H := HC66.out
                 clear HC66
                 by_cases c67 : a0_0 = 7
                 ·
                  rw [if_pos c67] at H
                  have c67b0 := beq_iff_eq.mpr c67
                  have c67b1 := bne_eq_false_iff_eq.mpr c67
                  clear c67
                  (first | rw [c67b0] | (simp only [i64_w, i32_w]; rw [c67b0]) | skip)
                  replace H := iteD H
                  rcases H with ⟨c68b0, H⟩ | ⟨c68b0, H⟩
                  ·
                   have H' := am H
                   clear H
                   obtain ⟨hcz69_0, hcz69_1, hcz69_2, hcz69_3, hcz69_4, hcz69_5, hcz69_6, hcz69_7, hcz69_8, hfz69_0, hfz69_1, hfz69_2, hfz69_3, hfz69_4, hfz69_5, hfz69_6, hfz69_7, hfz69_8⟩ := cz9 BK240.out
                   go_wp2
                   go_meet
                   case rel => exact ⟨_, (true), rs, H', ⟨by have := HJ1.out; have := HJ7.out; have := HJ15.out; have := HJ28.out; have := HJ43.out; first | omega | exact Nat.le_refl _⟩, ⟨bk BK240.out⟩, ⟨bws HB.out⟩⟩
                  ·
                   replace H := iteD H
                   rcases H with ⟨c70b0, H⟩ | ⟨c70b0, H⟩
                   ·
                    have H' := am H
                    clear H
                    obtain ⟨hcz71_0, hcz71_1, hcz71_2, hcz71_3, hcz71_4, hcz71_5, hcz71_6, hcz71_7, hcz71_8, hfz71_0, hfz71_1, hfz71_2, hfz71_3, hfz71_4, hfz71_5, hfz71_6, hfz71_7, hfz71_8⟩ := cz9 BK240.out
                    go_wp2
                    go_meet
                    case rel => exact ⟨_, (true), rs, H', ⟨by have := HJ1.out; have := HJ7.out; have := HJ15.out; have := HJ28.out; have := HJ43.out; first | omega | exact Nat.le_refl _⟩, ⟨bk BK240.out⟩, ⟨bws HB.out⟩⟩
                   ·
                    have H' := am H
                    clear H
                    obtain ⟨hcz72_0, hcz72_1, hcz72_2, hcz72_3, hcz72_4, hcz72_5, hcz72_6, hcz72_7, hcz72_8, hfz72_0, hfz72_1, hfz72_2, hfz72_3, hfz72_4, hfz72_5, hfz72_6, hfz72_7, hfz72_8⟩ := cz9 BK240.out
                    go_wp2
                    go_meet
                    case rel => exact ⟨_, (false), rs, H', ⟨by have := HJ1.out; have := HJ7.out; have := HJ15.out; have := HJ28.out; have := HJ43.out; first | omega | exact Nat.le_refl _⟩, ⟨bk BK240.out⟩, ⟨bws HB.out⟩⟩
                 ·
                  rw [if_neg c67] at H
                  have c67b0 := beq_eq_false_iff_ne.mpr c67
                  have c67b1 := bne_iff_ne.mpr c67
                  (first | rw [c67b0] | (simp only [i64_w, i32_w]; rw [c67b0]) | skip)
                  have H' := am H
                  clear H
                  obtain ⟨hcz73_0, hcz73_1, hcz73_2, hcz73_3, hcz73_4, hcz73_5, hcz73_6, hcz73_7, hcz73_8, hfz73_0, hfz73_1, hfz73_2, hfz73_3, hfz73_4, hfz73_5, hfz73_6, hfz73_7, hfz73_8⟩ := cz9 BK240.out
                  go_wp2
                  go_meet
                  case rel => exact ⟨_, ((a0_5 != 0)), rs, H', ⟨by have := HJ1.out; have := HJ7.out; have := HJ15.out; have := HJ28.out; have := HJ43.out; first | omega | exact Nat.le_refl _⟩, ⟨bk BK240.out⟩, ⟨bws HB.out⟩⟩
                case rest => as_aux_lemma =>
                 clear HC66
                 try clear c7
                 try clear c43
                 try clear c65
                 obtain ⟨kq, x123_65, rfl, HA, HJ65, BK240, HB⟩ := hcut
                 cases kq with
                 | zero => exact absurd HA.out (by simp [stowageref16_Check.j5])
                 | succ kj65 =>
                  have H := HA.out
                  clear HA
                  simp only [stowageref16_Check.j5] at H
                  by_cases c74 : x123_65 = true
                  ·
                   subst c74
                   rw [if_pos rfl] at H
                   obtain rfl := Option.some.inj H
                   go_wp2
                   go_ret
                   exact ⟨rf, bws HB.out⟩
                  · as_aux_lemma =>
                   replace c74 := Bool.eq_false_iff.mpr c74
                   subst c74
                   rw [if_neg (show ¬ (false = true) by decide)] at H
                   replace H := obE H
                   obtain ⟨⟨t251, t252⟩, A75, H⟩ := H
                   try dsimp only at H
                   have HC76 := am H
                   clear H
                   obtain ⟨hcz77_0, hcz77_1, hcz77_2, hcz77_3, hcz77_4, hcz77_5, hcz77_6, hcz77_7, hcz77_8, hfz77_0, hfz77_1, hfz77_2, hfz77_3, hfz77_4, hfz77_5, hfz77_6, hfz77_7, hfz77_8⟩ := cz9 BK240.out
                   go_upto_region 14 with (first | ((with_reducible refine gate_callee (f := 43) rfl ?_); refine goesL_ (some 127) rfl rfl Tryd.func43 (by kernel_rfl) rfl #[.slice A0_7 l0_7.length c0_7] rfl gl ?_; (with_reducible refine (stowageref13_Pieces.calls kj65 _ _ l0_7 t251 t252 _ ?side1 ?side2 A75.out).mono ?_); (case side1 => exact kC (Kd.C_below HR0_7.out HB.out)); (case side2 => exact HC0_7.out); rintro e w78 ⟨rfl, hb⟩; refine ⟨_, rfl, ?_⟩; replace BK240 := bb BK240.out hb; replace HB := am (below_step (bws HB.out) hb); (try clear hb)))
                   (try simp only [Act.put, List.setIfInBounds_toArray, List.set_cons_zero, List.set_cons_succ])
                   go_cut [163] (fun v163 wc => ∃ (kq : Nat) (x163_75 : Bool), v163 = .bool x163_75 ∧ Aside0 (stowageref16_Check.j6 kq x163_75 a0_0 a0_1 a0_2 a0_3 a0_4 a0_5 a0_6 l0_7 l0_8 = some r) ∧ Aside0 (kq ≤ kj65) ∧ Aside0 (wc.heap[gb240]? = some (.cells #[.int .i64 a0_0, .string a0_1, .string a0_2, .string a0_3, .int .i64 a0_4, .int .i64 a0_5, .string a0_6, (.slice A0_7 l0_7.length c0_7), (.slice A0_8 l0_8.length c0_8)] 34 (0, 0))) ∧ Aside0 (Below w.heap.size w wc))
                   case first => as_aux_lemma =>
                    have H := HC76.out
                    clear HC76
                    replace H := obE H
                    obtain ⟨t253, A79, H⟩ := H
                    by_cases c80 : t253 = true
                    · as_aux_lemma =>
                     subst c80
                     rw [if_pos rfl] at H
                     replace H := obE H
                     obtain ⟨t254, A81, H⟩ := H
                     by_cases c82 : t254 = true
                     · as_aux_lemma =>
                      subst c82
                      rw [if_pos rfl] at H
                      by_cases c83 : t252 = 0
                      · as_aux_lemma =>
                       rw [if_pos c83] at H
                       have c83b0 := beq_iff_eq.mpr c83
                       have c83b1 := bne_eq_false_iff_eq.mpr c83
                       clear c83
                       (first | rw [c83b0] | (simp only [i64_w, i32_w]; rw [c83b0]) | skip)
                       replace H := iteD H
                       rcases H with ⟨c84b0, H⟩ | ⟨c84b0, H⟩
                       ·
                        have H' := am H
                        clear H
                        obtain ⟨hcz85_0, hcz85_1, hcz85_2, hcz85_3, hcz85_4, hcz85_5, hcz85_6, hcz85_7, hcz85_8, hfz85_0, hfz85_1, hfz85_2, hfz85_3, hfz85_4, hfz85_5, hfz85_6, hfz85_7, hfz85_8⟩ := cz9 BK240.out
                        go_wp2_with (first | ((with_reducible refine gate_callee (f := 44) rfl ?_); refine goesL_ (some 132) rfl rfl Tryd.func44 (by kernel_rfl) rfl #[.int .i64 a0_0] rfl gl ?_; (with_reducible refine (stowageref16_hasSum.calls a0_0 true _ A79.out).mono ?_); rintro e w' ⟨rfl, ⟨nd, rfl⟩⟩; refine ⟨_, rfl, ?_⟩) | (go_at_call 45; (with_reducible refine (stowageref06_May.calls kj65 a0_6 true _ A81.out).mono ?_); rintro e w86 ⟨rfl, hb⟩; replace BK240 := bb BK240.out hb; replace HB := am (below_step (bws HB.out) hb); (try clear hb)))
                        go_meet
                        case rel => exact ⟨_, (true), rs, H', ⟨by have := HJ1.out; have := HJ7.out; have := HJ15.out; have := HJ28.out; have := HJ43.out; have := HJ65.out; first | omega | exact Nat.le_refl _⟩, ⟨bk BK240.out⟩, ⟨bws HB.out⟩⟩
                       ·
                        replace H := obE H
                        obtain ⟨t255, A87, H⟩ := H
                        by_cases c88 : t255 = true
                        ·
                         subst c88
                         rw [if_pos rfl] at H
                         have H' := am H
                         clear H
                         obtain ⟨hcz89_0, hcz89_1, hcz89_2, hcz89_3, hcz89_4, hcz89_5, hcz89_6, hcz89_7, hcz89_8, hfz89_0, hfz89_1, hfz89_2, hfz89_3, hfz89_4, hfz89_5, hfz89_6, hfz89_7, hfz89_8⟩ := cz9 BK240.out
                         go_wp2_with (first | ((with_reducible refine gate_callee (f := 44) rfl ?_); refine goesL_ (some 132) rfl rfl Tryd.func44 (by kernel_rfl) rfl #[.int .i64 a0_0] rfl gl ?_; (with_reducible refine (stowageref16_hasSum.calls a0_0 true _ A79.out).mono ?_); rintro e w' ⟨rfl, ⟨nd, rfl⟩⟩; refine ⟨_, rfl, ?_⟩) | (go_at_call 45; (with_reducible refine (stowageref06_May.calls kj65 a0_6 true _ A81.out).mono ?_); rintro e w90 ⟨rfl, hb⟩; replace BK240 := bb BK240.out hb; replace HB := am (below_step (bws HB.out) hb); (try clear hb); obtain ⟨hcz91_0, hcz91_1, hcz91_2, hcz91_3, hcz91_4, hcz91_5, hcz91_6, hcz91_7, hcz91_8, hfz91_0, hfz91_1, hfz91_2, hfz91_3, hfz91_4, hfz91_5, hfz91_6, hfz91_7, hfz91_8⟩ := cz9 BK240.out) | (go_at_call 44; (with_reducible refine (stowageref16_hasSum.calls a0_0 true _ A87.out).mono ?_); rintro e w' ⟨rfl, ⟨nd, rfl⟩⟩))
                         go_meet
                         case rel => exact ⟨_, (false), rs, H', ⟨by have := HJ1.out; have := HJ7.out; have := HJ15.out; have := HJ28.out; have := HJ43.out; have := HJ65.out; first | omega | exact Nat.le_refl _⟩, ⟨bk BK240.out⟩, ⟨bws HB.out⟩⟩
                        ·
                         replace c88 := Bool.eq_false_iff.mpr c88
                         subst c88
                         rw [if_neg (show ¬ (false = true) by decide)] at H
                         by_cases c92 : a0_6.toList = ([] : List UInt8)
                         ·
                          rw [if_pos c92] at H
                          have c92b0 := beq_iff_eq.mpr c92
                          have c92b1 := bne_eq_false_iff_eq.mpr c92
                          clear c92
                          have H' := am H
                          clear H
                          obtain ⟨hcz93_0, hcz93_1, hcz93_2, hcz93_3, hcz93_4, hcz93_5, hcz93_6, hcz93_7, hcz93_8, hfz93_0, hfz93_1, hfz93_2, hfz93_3, hfz93_4, hfz93_5, hfz93_6, hfz93_7, hfz93_8⟩ := cz9 BK240.out
                          go_wp2_with (first | ((with_reducible refine gate_callee (f := 44) rfl ?_); refine goesL_ (some 132) rfl rfl Tryd.func44 (by kernel_rfl) rfl #[.int .i64 a0_0] rfl gl ?_; (with_reducible refine (stowageref16_hasSum.calls a0_0 true _ A79.out).mono ?_); rintro e w' ⟨rfl, ⟨nd, rfl⟩⟩; refine ⟨_, rfl, ?_⟩) | (go_at_call 45; (with_reducible refine (stowageref06_May.calls kj65 a0_6 true _ A81.out).mono ?_); rintro e w94 ⟨rfl, hb⟩; replace BK240 := bb BK240.out hb; replace HB := am (below_step (bws HB.out) hb); (try clear hb); obtain ⟨hcz95_0, hcz95_1, hcz95_2, hcz95_3, hcz95_4, hcz95_5, hcz95_6, hcz95_7, hcz95_8, hfz95_0, hfz95_1, hfz95_2, hfz95_3, hfz95_4, hfz95_5, hfz95_6, hfz95_7, hfz95_8⟩ := cz9 BK240.out) | (go_at_call 44; (with_reducible refine (stowageref16_hasSum.calls a0_0 false _ A87.out).mono ?_); rintro e w' ⟨rfl, ⟨nd, rfl⟩⟩))
                          go_meet
                          case rel => exact ⟨_, (decide ((l0_7.length : Int) > 0)), rs, H', ⟨by have := HJ1.out; have := HJ7.out; have := HJ15.out; have := HJ28.out; have := HJ43.out; have := HJ65.out; first | omega | exact Nat.le_refl _⟩, ⟨bk BK240.out⟩, ⟨bws HB.out⟩⟩
                         ·
                          rw [if_neg c92] at H
                          have c92b0 := beq_eq_false_iff_ne.mpr c92
                          have c92b1 := bne_iff_ne.mpr c92
                          have H' := am H
                          clear H
                          obtain ⟨hcz96_0, hcz96_1, hcz96_2, hcz96_3, hcz96_4, hcz96_5, hcz96_6, hcz96_7, hcz96_8, hfz96_0, hfz96_1, hfz96_2, hfz96_3, hfz96_4, hfz96_5, hfz96_6, hfz96_7, hfz96_8⟩ := cz9 BK240.out
                          go_wp2_with (first | ((with_reducible refine gate_callee (f := 44) rfl ?_); refine goesL_ (some 132) rfl rfl Tryd.func44 (by kernel_rfl) rfl #[.int .i64 a0_0] rfl gl ?_; (with_reducible refine (stowageref16_hasSum.calls a0_0 true _ A79.out).mono ?_); rintro e w' ⟨rfl, ⟨nd, rfl⟩⟩; refine ⟨_, rfl, ?_⟩) | (go_at_call 45; (with_reducible refine (stowageref06_May.calls kj65 a0_6 true _ A81.out).mono ?_); rintro e w97 ⟨rfl, hb⟩; replace BK240 := bb BK240.out hb; replace HB := am (below_step (bws HB.out) hb); (try clear hb); obtain ⟨hcz98_0, hcz98_1, hcz98_2, hcz98_3, hcz98_4, hcz98_5, hcz98_6, hcz98_7, hcz98_8, hfz98_0, hfz98_1, hfz98_2, hfz98_3, hfz98_4, hfz98_5, hfz98_6, hfz98_7, hfz98_8⟩ := cz9 BK240.out) | (go_at_call 44; (with_reducible refine (stowageref16_hasSum.calls a0_0 false _ A87.out).mono ?_); rintro e w' ⟨rfl, ⟨nd, rfl⟩⟩))
                          go_meet
                          case rel => exact ⟨_, (true), rs, H', ⟨by have := HJ1.out; have := HJ7.out; have := HJ15.out; have := HJ28.out; have := HJ43.out; have := HJ65.out; first | omega | exact Nat.le_refl _⟩, ⟨bk BK240.out⟩, ⟨bws HB.out⟩⟩
                      ·
                       rw [if_neg c83] at H
                       have c83b0 := beq_eq_false_iff_ne.mpr c83
                       have c83b1 := bne_iff_ne.mpr c83
                       (first | rw [c83b0] | (simp only [i64_w, i32_w]; rw [c83b0]) | skip)
                       have H' := am H
                       clear H
                       obtain ⟨hcz99_0, hcz99_1, hcz99_2, hcz99_3, hcz99_4, hcz99_5, hcz99_6, hcz99_7, hcz99_8, hfz99_0, hfz99_1, hfz99_2, hfz99_3, hfz99_4, hfz99_5, hfz99_6, hfz99_7, hfz99_8⟩ := cz9 BK240.out
                       go_wp2_with (first | ((with_reducible refine gate_callee (f := 44) rfl ?_); refine goesL_ (some 132) rfl rfl Tryd.func44 (by kernel_rfl) rfl #[.int .i64 a0_0] rfl gl ?_; (with_reducible refine (stowageref16_hasSum.calls a0_0 true _ A79.out).mono ?_); rintro e w' ⟨rfl, ⟨nd, rfl⟩⟩; refine ⟨_, rfl, ?_⟩) | (go_at_call 45; (with_reducible refine (stowageref06_May.calls kj65 a0_6 true _ A81.out).mono ?_); rintro e w100 ⟨rfl, hb⟩; replace BK240 := bb BK240.out hb; replace HB := am (below_step (bws HB.out) hb); (try clear hb)))
                       go_meet
                       case rel => exact ⟨_, (true), rs, H', ⟨by have := HJ1.out; have := HJ7.out; have := HJ15.out; have := HJ28.out; have := HJ43.out; have := HJ65.out; first | omega | exact Nat.le_refl _⟩, ⟨bk BK240.out⟩, ⟨bws HB.out⟩⟩
                     ·
                      replace c82 := Bool.eq_false_iff.mpr c82
                      subst c82
                      rw [if_neg (show ¬ (false = true) by decide)] at H
                      have H' := am H
                      clear H
                      obtain ⟨hcz101_0, hcz101_1, hcz101_2, hcz101_3, hcz101_4, hcz101_5, hcz101_6, hcz101_7, hcz101_8, hfz101_0, hfz101_1, hfz101_2, hfz101_3, hfz101_4, hfz101_5, hfz101_6, hfz101_7, hfz101_8⟩ := cz9 BK240.out
                      go_wp2_with (first | ((with_reducible refine gate_callee (f := 44) rfl ?_); refine goesL_ (some 132) rfl rfl Tryd.func44 (by kernel_rfl) rfl #[.int .i64 a0_0] rfl gl ?_; (with_reducible refine (stowageref16_hasSum.calls a0_0 true _ A79.out).mono ?_); rintro e w' ⟨rfl, ⟨nd, rfl⟩⟩; refine ⟨_, rfl, ?_⟩) | (go_at_call 45; (with_reducible refine (stowageref06_May.calls kj65 a0_6 false _ A81.out).mono ?_); rintro e w102 ⟨rfl, hb⟩; replace BK240 := bb BK240.out hb; replace HB := am (below_step (bws HB.out) hb); (try clear hb)))
                      go_meet
                      case rel => exact ⟨_, (true), rs, H', ⟨by have := HJ1.out; have := HJ7.out; have := HJ15.out; have := HJ28.out; have := HJ43.out; have := HJ65.out; first | omega | exact Nat.le_refl _⟩, ⟨bk BK240.out⟩, ⟨bws HB.out⟩⟩
                    · as_aux_lemma =>
                     replace c80 := Bool.eq_false_iff.mpr c80
                     subst c80
                     rw [if_neg (show ¬ (false = true) by decide)] at H
                     replace H := obE H
                     obtain ⟨t256, A103, H⟩ := H
                     by_cases c104 : t256 = true
                     ·
                      subst c104
                      rw [if_pos rfl] at H
                      have H' := am H
                      clear H
                      obtain ⟨hcz105_0, hcz105_1, hcz105_2, hcz105_3, hcz105_4, hcz105_5, hcz105_6, hcz105_7, hcz105_8, hfz105_0, hfz105_1, hfz105_2, hfz105_3, hfz105_4, hfz105_5, hfz105_6, hfz105_7, hfz105_8⟩ := cz9 BK240.out
                      go_wp2_with (first | ((with_reducible refine gate_callee (f := 44) rfl ?_); refine goesL_ (some 132) rfl rfl Tryd.func44 (by kernel_rfl) rfl #[.int .i64 a0_0] rfl gl ?_; (with_reducible refine (stowageref16_hasSum.calls a0_0 false _ A79.out).mono ?_); rintro e w' ⟨rfl, ⟨nd, rfl⟩⟩; refine ⟨_, rfl, ?_⟩) | (go_at_call 44; (with_reducible refine (stowageref16_hasSum.calls a0_0 true _ A103.out).mono ?_); rintro e w' ⟨rfl, ⟨nd, rfl⟩⟩))
                      go_meet
                      case rel => exact ⟨_, (false), rs, H', ⟨by have := HJ1.out; have := HJ7.out; have := HJ15.out; have := HJ28.out; have := HJ43.out; have := HJ65.out; first | omega | exact Nat.le_refl _⟩, ⟨bk BK240.out⟩, ⟨bws HB.out⟩⟩
                     ·
                      replace c104 := Bool.eq_false_iff.mpr c104
                      subst c104
                      rw [if_neg (show ¬ (false = true) by decide)] at H
                      by_cases c106 : a0_6.toList = ([] : List UInt8)
                      ·
                       rw [if_pos c106] at H
                       have c106b0 := beq_iff_eq.mpr c106
                       have c106b1 := bne_eq_false_iff_eq.mpr c106
                       clear c106
                       have H' := am H
                       clear H
                       obtain ⟨hcz107_0, hcz107_1, hcz107_2, hcz107_3, hcz107_4, hcz107_5, hcz107_6, hcz107_7, hcz107_8, hfz107_0, hfz107_1, hfz107_2, hfz107_3, hfz107_4, hfz107_5, hfz107_6, hfz107_7, hfz107_8⟩ := cz9 BK240.out
                       go_wp2_with (first | ((with_reducible refine gate_callee (f := 44) rfl ?_); refine goesL_ (some 132) rfl rfl Tryd.func44 (by kernel_rfl) rfl #[.int .i64 a0_0] rfl gl ?_; (with_reducible refine (stowageref16_hasSum.calls a0_0 false _ A79.out).mono ?_); rintro e w' ⟨rfl, ⟨nd, rfl⟩⟩; refine ⟨_, rfl, ?_⟩) | (go_at_call 44; (with_reducible refine (stowageref16_hasSum.calls a0_0 false _ A103.out).mono ?_); rintro e w' ⟨rfl, ⟨nd, rfl⟩⟩))
                       go_meet
                       case rel => exact ⟨_, (decide ((l0_7.length : Int) > 0)), rs, H', ⟨by have := HJ1.out; have := HJ7.out; have := HJ15.out; have := HJ28.out; have := HJ43.out; have := HJ65.out; first | omega | exact Nat.le_refl _⟩, ⟨bk BK240.out⟩, ⟨bws HB.out⟩⟩
                      ·
                       rw [if_neg c106] at H
                       have c106b0 := beq_eq_false_iff_ne.mpr c106
                       have c106b1 := bne_iff_ne.mpr c106
                       have H' := am H
                       clear H
                       obtain ⟨hcz108_0, hcz108_1, hcz108_2, hcz108_3, hcz108_4, hcz108_5, hcz108_6, hcz108_7, hcz108_8, hfz108_0, hfz108_1, hfz108_2, hfz108_3, hfz108_4, hfz108_5, hfz108_6, hfz108_7, hfz108_8⟩ := cz9 BK240.out
                       go_wp2_with (first | ((with_reducible refine gate_callee (f := 44) rfl ?_); refine goesL_ (some 132) rfl rfl Tryd.func44 (by kernel_rfl) rfl #[.int .i64 a0_0] rfl gl ?_; (with_reducible refine (stowageref16_hasSum.calls a0_0 false _ A79.out).mono ?_); rintro e w' ⟨rfl, ⟨nd, rfl⟩⟩; refine ⟨_, rfl, ?_⟩) | (go_at_call 44; (with_reducible refine (stowageref16_hasSum.calls a0_0 false _ A103.out).mono ?_); rintro e w' ⟨rfl, ⟨nd, rfl⟩⟩))
                       go_meet
                       case rel => exact ⟨_, (true), rs, H', ⟨by have := HJ1.out; have := HJ7.out; have := HJ15.out; have := HJ28.out; have := HJ43.out; have := HJ65.out; first | omega | exact Nat.le_refl _⟩, ⟨bk BK240.out⟩, ⟨bws HB.out⟩⟩
                   case rest => as_aux_lemma =>
                    clear HC76
                    try clear c7
                    try clear c43
                    try clear c74
                    try clear hcz77_0 hcz77_1 hcz77_2 hcz77_3 hcz77_4 hcz77_5 hcz77_6 hcz77_7 hcz77_8 hfz77_0 hfz77_1 hfz77_2 hfz77_3 hfz77_4 hfz77_5 hfz77_6 hfz77_7 hfz77_8
                    obtain ⟨kq, x163_75, rfl, HA, HJ75, BK240, HB⟩ := hcut
                    cases kq with
                    | zero => exact absurd HA.out (by simp [stowageref16_Check.j6])
                    | succ kj75 =>
                     have H := HA.out
                     clear HA
                     simp only [stowageref16_Check.j6] at H
                     by_cases c109 : x163_75 = true
                     ·
                      subst c109
                      rw [if_pos rfl] at H
                      obtain rfl := Option.some.inj H
                      go_wp2
                      go_ret
                      exact ⟨rf, bws HB.out⟩
                     · as_aux_lemma =>
                      replace c109 := Bool.eq_false_iff.mpr c109
                      subst c109
                      rw [if_neg (show ¬ (false = true) by decide)] at H
                      have HC110 := am H
                      clear H
                      go_upto_region 16 with (fail)
                      go_cut [178] (fun v178 wc => ∃ (kq : Nat) (x178_109 : Bool), v178 = .bool x178_109 ∧ Aside0 (stowageref16_Check.j7 kq x178_109 a0_0 a0_1 a0_2 a0_3 a0_4 a0_5 a0_6 l0_7 l0_8 = some r) ∧ Aside0 (kq ≤ kj75) ∧ Aside0 (wc.heap[gb240]? = some (.cells #[.int .i64 a0_0, .string a0_1, .string a0_2, .string a0_3, .int .i64 a0_4, .int .i64 a0_5, .string a0_6, (.slice A0_7 l0_7.length c0_7), (.slice A0_8 l0_8.length c0_8)] 34 (0, 0))) ∧ Aside0 (Below w.heap.size w wc))
                      case first => as_aux_lemma =>
                       have H := HC110.out
                       clear HC110
                       by_cases c111 : (l0_8.length : Int) > 100
                       ·
                        rw [if_pos c111] at H
                        have c111b0 := decide_eq_true c111
                        have c111b1 : decide (100 < l0_8.length) = true := decide_eq_true (by omega)
                        clear c111
                        (first | rw [c111b0] | (simp only [i64_w, i32_w]; rw [c111b0]) | skip)
                        have H' := am H
                        clear H
                        obtain ⟨hcz112_0, hcz112_1, hcz112_2, hcz112_3, hcz112_4, hcz112_5, hcz112_6, hcz112_7, hcz112_8, hfz112_0, hfz112_1, hfz112_2, hfz112_3, hfz112_4, hfz112_5, hfz112_6, hfz112_7, hfz112_8⟩ := cz9 BK240.out
                        go_wp2
                        go_meet
                        case rel => exact ⟨_, (true), rs, H', ⟨by have := HJ1.out; have := HJ7.out; have := HJ15.out; have := HJ28.out; have := HJ43.out; have := HJ65.out; have := HJ75.out; first | omega | exact Nat.le_refl _⟩, ⟨bk BK240.out⟩, ⟨bws HB.out⟩⟩
                       ·
                        rw [if_neg c111] at H
                        have c111b0 := decide_eq_false c111
                        have c111b1 : decide (100 < l0_8.length) = false := decide_eq_false (by omega)
                        clear c111
                        (first | rw [c111b0] | (simp only [i64_w, i32_w]; rw [c111b0]) | skip)
                        by_cases c113 : a0_0 = 8
                        ·
                         rw [if_pos c113] at H
                         have c113b0 := beq_iff_eq.mpr c113
                         have c113b1 := bne_eq_false_iff_eq.mpr c113
                         clear c113
                         have H' := am H
                         clear H
                         obtain ⟨hcz114_0, hcz114_1, hcz114_2, hcz114_3, hcz114_4, hcz114_5, hcz114_6, hcz114_7, hcz114_8, hfz114_0, hfz114_1, hfz114_2, hfz114_3, hfz114_4, hfz114_5, hfz114_6, hfz114_7, hfz114_8⟩ := cz9 BK240.out
                         go_wp2
                         go_meet
                         case rel => exact ⟨_, (false), rs, H', ⟨by have := HJ1.out; have := HJ7.out; have := HJ15.out; have := HJ28.out; have := HJ43.out; have := HJ65.out; have := HJ75.out; first | omega | exact Nat.le_refl _⟩, ⟨bk BK240.out⟩, ⟨bws HB.out⟩⟩
                        ·
                         rw [if_neg c113] at H
                         have c113b0 := beq_eq_false_iff_ne.mpr c113
                         have c113b1 := bne_iff_ne.mpr c113
                         have H' := am H
                         clear H
                         obtain ⟨hcz115_0, hcz115_1, hcz115_2, hcz115_3, hcz115_4, hcz115_5, hcz115_6, hcz115_7, hcz115_8, hfz115_0, hfz115_1, hfz115_2, hfz115_3, hfz115_4, hfz115_5, hfz115_6, hfz115_7, hfz115_8⟩ := cz9 BK240.out
                         go_wp2
                         go_meet
                         case rel => exact ⟨_, (decide ((l0_8.length : Int) > 0)), rs, H', ⟨by have := HJ1.out; have := HJ7.out; have := HJ15.out; have := HJ28.out; have := HJ43.out; have := HJ65.out; have := HJ75.out; first | omega | exact Nat.le_refl _⟩, ⟨bk BK240.out⟩, ⟨bws HB.out⟩⟩
                      case rest => as_aux_lemma =>
                       clear HC110
                       try clear c109
                       try clear hcz77_0 hcz77_1 hcz77_2 hcz77_3 hcz77_4 hcz77_5 hcz77_6 hcz77_7 hcz77_8 hfz77_0 hfz77_1 hfz77_2 hfz77_3 hfz77_4 hfz77_5 hfz77_6 hfz77_7 hfz77_8
                       obtain ⟨kq, x178_109, rfl, HA, HJ109, BK240, HB⟩ := hcut
                       cases kq with
                       | zero => exact absurd HA.out (by simp [stowageref16_Check.j7])
                       | succ kj109 =>
                        have H := HA.out
                        clear HA
                        simp only [stowageref16_Check.j7] at H
                        by_cases c116 : x178_109 = true
                        ·
                         subst c116
                         rw [if_pos rfl] at H
                         obtain rfl := Option.some.inj H
                         go_wp2
                         go_ret
                         exact ⟨rf, bws HB.out⟩
                        · as_aux_lemma =>
                         replace c116 := Bool.eq_false_iff.mpr c116
                         subst c116
                         rw [if_neg (show ¬ (false = true) by decide)] at H
                         have H' := am H
                         clear H
                         go_wp2
                         go_loopg [5] kj109 (fun kq v5 w' => ∃ (x5_9 : Int), v5 = .int .i64 x5_9 ∧ Aside0 (stowageref16_Check.l0 kq x5_9 a0_0 a0_1 a0_2 a0_3 a0_4 a0_5 a0_6 l0_7 l0_8 = some r) ∧ Aside0 (kq ≤ kj109) ∧ Aside0 (w'.heap[gb240]? = some (.cells #[.int .i64 a0_0, .string a0_1, .string a0_2, .string a0_3, .int .i64 a0_4, .int .i64 a0_5, .string a0_6, (.slice A0_7 l0_7.length c0_7), (.slice A0_8 l0_8.length c0_8)] 34 (0, 0))) ∧ Aside0 (Below w.heap.size w w'))
                         case atStart => exact ⟨(0), rs, H', ⟨Nat.le_refl _⟩, ⟨bk BK240.out⟩, ⟨bws HB.out⟩⟩
                         case round => as_aux_lemma =>
                          clear H'
                          try clear c109
                          try clear c116
                          try clear hcz77_0 hcz77_1 hcz77_2 hcz77_3 hcz77_4 hcz77_5 hcz77_6 hcz77_7 hcz77_8 hfz77_0 hfz77_1 hfz77_2 hfz77_3 hfz77_4 hfz77_5 hfz77_6 hfz77_7 hfz77_8
                          obtain ⟨x5_9, rfl, HA, HK9, BK240, HB⟩ := hrel
                          cases gk with
                          | zero => exact absurd HA.out (by simp [stowageref16_Check.l0])
                          | succ k9 =>
                           have H := HA.out
                           clear HA
                           simp only [stowageref16_Check.l0] at H
                           replace H := iteD H
                           rcases H with ⟨c117b0, H⟩ | ⟨c117b0, H⟩
                           · as_aux_lemma =>
                            replace H := iteD H
                            rcases H with ⟨c118b0, H⟩ | ⟨_, H⟩
                            · as_aux_lemma =>
                             replace H := iteD H
                             rcases H with ⟨c119b0, H⟩ | ⟨c119b0, H⟩
                             ·
                              obtain rfl := Option.some.inj H
                              obtain ⟨hcz120_0, hcz120_1, hcz120_2, hcz120_3, hcz120_4, hcz120_5, hcz120_6, hcz120_7, hcz120_8, hfz120_0, hfz120_1, hfz120_2, hfz120_3, hfz120_4, hfz120_5, hfz120_6, hfz120_7, hfz120_8⟩ := cz9 BK240.out
                              have p257 := pz x5_9
                              have q257 := pl x5_9 (l0_8.length : Int)
                              obtain ⟨ad257, e257, hx257_0, hx257_1⟩ := at_T61 HR0_8.out x5_9 (of_eq_true p257) (of_eq_true q257)
                              cases e257
                              replace hx257_0 := bc HB.out hx257_0
                              replace hx257_1 := bc HB.out hx257_1
                              go_wp2
                              go_ret
                              exact ⟨rf, bws HB.out⟩
                             · as_aux_lemma =>
                              replace H := iteD H
                              rcases H with ⟨c121b0, H⟩ | ⟨c121b0, H⟩
                              ·
                               obtain rfl := Option.some.inj H
                               obtain ⟨hcz122_0, hcz122_1, hcz122_2, hcz122_3, hcz122_4, hcz122_5, hcz122_6, hcz122_7, hcz122_8, hfz122_0, hfz122_1, hfz122_2, hfz122_3, hfz122_4, hfz122_5, hfz122_6, hfz122_7, hfz122_8⟩ := cz9 BK240.out
                               have p257 := pz x5_9
                               have q257 := pl x5_9 (l0_8.length : Int)
                               obtain ⟨ad257, e257, hx257_0, hx257_1⟩ := at_T61 HR0_8.out x5_9 (of_eq_true p257) (of_eq_true q257)
                               cases e257
                               replace hx257_0 := bc HB.out hx257_0
                               replace hx257_1 := bc HB.out hx257_1
                               have p258 := pz x5_9
                               have q258 := pl x5_9 (l0_8.length : Int)
                               obtain ⟨ad258, e258, hx258_0, hx258_1⟩ := at_T61 HR0_8.out x5_9 (of_eq_true p258) (of_eq_true q258)
                               obtain rfl : ad257 = ad258 := (by injection e258)
                               replace hx258_0 := bc HB.out hx258_0
                               replace hx258_1 := bc HB.out hx258_1
                               go_wp2
                               go_ret
                               exact ⟨rf, bws HB.out⟩
                              · as_aux_lemma =>
                               replace H := obE H
                               obtain ⟨t260, A123, H⟩ := H
                               by_cases c124 : t260 = true
                               ·
                                subst c124
                                rw [if_pos rfl] at H
                                have H' := am H
                                clear H
                                obtain ⟨hcz125_0, hcz125_1, hcz125_2, hcz125_3, hcz125_4, hcz125_5, hcz125_6, hcz125_7, hcz125_8, hfz125_0, hfz125_1, hfz125_2, hfz125_3, hfz125_4, hfz125_5, hfz125_6, hfz125_7, hfz125_8⟩ := cz9 BK240.out
                                have p257 := pz x5_9
                                have q257 := pl x5_9 (l0_8.length : Int)
                                obtain ⟨ad257, e257, hx257_0, hx257_1⟩ := at_T61 HR0_8.out x5_9 (of_eq_true p257) (of_eq_true q257)
                                cases e257
                                replace hx257_0 := bc HB.out hx257_0
                                replace hx257_1 := bc HB.out hx257_1
                                have p258 := pz x5_9
                                have q258 := pl x5_9 (l0_8.length : Int)
                                obtain ⟨ad258, e258, hx258_0, hx258_1⟩ := at_T61 HR0_8.out x5_9 (of_eq_true p258) (of_eq_true q258)
                                obtain rfl : ad257 = ad258 := (by injection e258)
                                replace hx258_0 := bc HB.out hx258_0
                                replace hx258_1 := bc HB.out hx258_1
                                have p259 := pz x5_9
                                have q259 := pl x5_9 (l0_8.length : Int)
                                obtain ⟨ad259, e259, hx259_0, hx259_1⟩ := at_T61 HR0_8.out x5_9 (of_eq_true p259) (of_eq_true q259)
                                obtain rfl : ad257 = ad259 := (by injection e259)
                                replace hx259_0 := bc HB.out hx259_0
                                replace hx259_1 := bc HB.out hx259_1
                                go_wp2_with (first | (go_at_call 45; (with_reducible refine (stowageref06_May.calls k9 ((rd_T61 l0_8 x5_9).f1) true _ A123.out).mono ?_); rintro e w126 ⟨rfl, hb⟩; replace BK240 := bb BK240.out hb; replace HB := am (below_step (bws HB.out) hb); (try clear hb)))
                                go_roundg k9
                                case measure => have := HJ1.out; have := HJ7.out; have := HJ15.out; have := HJ28.out; have := HJ43.out; have := HJ65.out; have := HJ75.out; have := HJ109.out; have := HK9.out; omega
                                case rel => exact ⟨(wrap64 (x5_9 + 1)), rs, H', ⟨by have := HJ1.out; have := HJ7.out; have := HJ15.out; have := HJ28.out; have := HJ43.out; have := HJ65.out; have := HJ75.out; have := HJ109.out; have := HK9.out; omega⟩, ⟨bk BK240.out⟩, ⟨bws HB.out⟩⟩
                               ·
                                replace c124 := Bool.eq_false_iff.mpr c124
                                subst c124
                                rw [if_neg (show ¬ (false = true) by decide)] at H
                                obtain rfl := Option.some.inj H
                                obtain ⟨hcz127_0, hcz127_1, hcz127_2, hcz127_3, hcz127_4, hcz127_5, hcz127_6, hcz127_7, hcz127_8, hfz127_0, hfz127_1, hfz127_2, hfz127_3, hfz127_4, hfz127_5, hfz127_6, hfz127_7, hfz127_8⟩ := cz9 BK240.out
                                have p257 := pz x5_9
                                have q257 := pl x5_9 (l0_8.length : Int)
                                obtain ⟨ad257, e257, hx257_0, hx257_1⟩ := at_T61 HR0_8.out x5_9 (of_eq_true p257) (of_eq_true q257)
                                cases e257
                                replace hx257_0 := bc HB.out hx257_0
                                replace hx257_1 := bc HB.out hx257_1
                                have p258 := pz x5_9
                                have q258 := pl x5_9 (l0_8.length : Int)
                                obtain ⟨ad258, e258, hx258_0, hx258_1⟩ := at_T61 HR0_8.out x5_9 (of_eq_true p258) (of_eq_true q258)
                                obtain rfl : ad257 = ad258 := (by injection e258)
                                replace hx258_0 := bc HB.out hx258_0
                                replace hx258_1 := bc HB.out hx258_1
                                have p259 := pz x5_9
                                have q259 := pl x5_9 (l0_8.length : Int)
                                obtain ⟨ad259, e259, hx259_0, hx259_1⟩ := at_T61 HR0_8.out x5_9 (of_eq_true p259) (of_eq_true q259)
                                obtain rfl : ad257 = ad259 := (by injection e259)
                                replace hx259_0 := bc HB.out hx259_0
                                replace hx259_1 := bc HB.out hx259_1
                                go_wp2_with (first | (go_at_call 45; (with_reducible refine (stowageref06_May.calls k9 ((rd_T61 l0_8 x5_9).f1) false _ A123.out).mono ?_); rintro e w128 ⟨rfl, hb⟩; replace BK240 := bb BK240.out hb; replace HB := am (below_step (bws HB.out) hb); (try clear hb)))
                                go_ret
                                exact ⟨rf, bws HB.out⟩
                            ·
                             exact absurd H (by simp)
                           ·
                            obtain rfl := Option.some.inj H
                            obtain ⟨hcz129_0, hcz129_1, hcz129_2, hcz129_3, hcz129_4, hcz129_5, hcz129_6, hcz129_7, hcz129_8, hfz129_0, hfz129_1, hfz129_2, hfz129_3, hfz129_4, hfz129_5, hfz129_6, hfz129_7, hfz129_8⟩ := cz9 BK240.out
                            go_wp2
                            go_ret
                            exact ⟨rf, bws HB.out⟩
end Go.Proofs.YtdidopoalmkhlaaDoor.Or
end
section
namespace Go.Proofs.YtdidopoalmkhlaaDoor.Or
open Go.RowKit Go.Proofs.YtdidopoalmkhlaaDoorW.PrintWords Go.Proofs.YtdidopoalmkhlaaDoorW.PrintLast Go.Proofs.YtdidopoalmkhlaaDoorW.PrintMore
attribute [local go_sem] max2_int min2_int max_two min_two max_three min_three max_four min_four
set_option linter.unusedVariables false
set_option linter.unusedSimpArgs false
mutual
def stowageref01_ReadNumber.j0 : Nat → ByteArray → Int → Bool → Option (Int × Int × Int)
 | 0, _, _, _ => none
 | k + 1, x0, x1, x18 => if x18 = true then (some (0, 0, 1)) else (stowageref01_ReadNumber.l0 k x0 x1 0 1 x1)
def stowageref01_ReadNumber.l0 : Nat → ByteArray → Int → Int → Int → Int → Option (Int × Int × Int)
 | 0, _, _, _, _, _ => none
 | k + 1, x0, x1, x7, x8, x9 => if x9 ≥ (x0.size : Int) then (some (0, 0, 5)) else (if 0 ≤ x9 then (if x9 < (x0.size : Int) then (if (wrap64 (x9 - x1)) = 9 then (if (IntKind.u64.wrap (bt x0 x9)) > 1 then (stowageref01_ReadNumber.j2 k x0 x1 x7 x8 x9 (IntKind.u64.wrap (bt x0 x9)) true) else (if x9 > x1 then (stowageref01_ReadNumber.j2 k x0 x1 x7 x8 x9 (IntKind.u64.wrap (bt x0 x9)) ((IntKind.u64.wrap (bt x0 x9)) == 0)) else (stowageref01_ReadNumber.j2 k x0 x1 x7 x8 x9 (IntKind.u64.wrap (bt x0 x9)) false))) else (if x9 > x1 then (stowageref01_ReadNumber.j2 k x0 x1 x7 x8 x9 (IntKind.u64.wrap (bt x0 x9)) ((IntKind.u64.wrap (bt x0 x9)) == 0)) else (stowageref01_ReadNumber.j2 k x0 x1 x7 x8 x9 (IntKind.u64.wrap (bt x0 x9)) false))) else (none)) else (none))
def stowageref01_ReadNumber.j2 : Nat → ByteArray → Int → Int → Int → Int → Int → Bool → Option (Int × Int × Int)
 | 0, _, _, _, _, _, _, _ => none
 | k + 1, x0, x1, x7, x8, x9, x10, x46 => if x46 = true then (some (0, 0, 3)) else (if x10 < 128 then (some (IntKind.u64.wrap (x7 + (IntKind.u64.wrap ((Int.tmod x10 128) * x8))), wrap64 (x9 + 1), 0)) else (stowageref01_ReadNumber.l0 k x0 x1 (IntKind.u64.wrap (x7 + (IntKind.u64.wrap ((Int.tmod x10 128) * x8)))) (IntKind.u64.wrap (x8 * 128)) (wrap64 (x9 + 1))))
end
def stowageref01_ReadNumber.f (k : Nat) (a0 : ByteArray) (a1 : Int) : Option (Int × Int × Int) := if a1 < 0 then (stowageref01_ReadNumber.j0 k a0 a1 true) else (stowageref01_ReadNumber.j0 k a0 a1 (decide (a1 > (a0.size : Int))))
theorem stowageref01_ReadNumber.mono_l : ∀ k, (∀ y0 y1 y2, LeO (stowageref01_ReadNumber.j0 k y0 y1 y2) (stowageref01_ReadNumber.j0 (k + 1) y0 y1 y2)) ∧ (∀ y0 y1 y2 y3 y4, LeO (stowageref01_ReadNumber.l0 k y0 y1 y2 y3 y4) (stowageref01_ReadNumber.l0 (k + 1) y0 y1 y2 y3 y4)) ∧ (∀ y0 y1 y2 y3 y4 y5 y6, LeO (stowageref01_ReadNumber.j2 k y0 y1 y2 y3 y4 y5 y6) (stowageref01_ReadNumber.j2 (k + 1) y0 y1 y2 y3 y4 y5 y6))
 | 0 => ⟨fun _ _ _ r h => by simp [stowageref01_ReadNumber.j0] at h, fun _ _ _ _ _ r h => by simp [stowageref01_ReadNumber.l0] at h, fun _ _ _ _ _ _ _ r h => by simp [stowageref01_ReadNumber.j2] at h⟩
 | k + 1 => by
  obtain ⟨ih0, ih1, ih2⟩ := stowageref01_ReadNumber.mono_l k
  refine ⟨?_, ?_, ?_⟩
  all_goals intros
  all_goals first | unfold stowageref01_ReadNumber.j0 | unfold stowageref01_ReadNumber.l0 | unfold stowageref01_ReadNumber.j2
  all_goals repeat' (with_reducible first | exact ih0 _ _ _ | exact ih1 _ _ _ _ _ | exact ih2 _ _ _ _ _ _ _ | exact LeO.refl _ | exact LeO.none _ | refine LeO.ite ?_ ?_ | refine LeO.bind ?_ (fun _ => ?_))
theorem stowageref01_ReadNumber.mono : ∀ a0 a1 k, LeO (stowageref01_ReadNumber.f k a0 a1) (stowageref01_ReadNumber.f (k + 1) a0 a1) := by
 intro a0 a1 k
 obtain ⟨ih0, ih1, ih2⟩ := stowageref01_ReadNumber.mono_l k
 unfold stowageref01_ReadNumber.f
 repeat' (with_reducible first | exact ih0 _ _ _ | exact ih1 _ _ _ _ _ | exact ih2 _ _ _ _ _ _ _ | exact LeO.refl _ | exact LeO.none _ | refine LeO.ite ?_ ?_ | refine LeO.bind ?_ (fun _ => ?_))
set_option maxHeartbeats 8000000 in
set_option maxRecDepth 100000 in
theorem stowageref01_ReadNumber.calls (k : Nat) (a0 : ByteArray) (a1 : Int) (r1 : Int) (r2 : Int) (r3 : Int) (w : World) (h : stowageref01_ReadNumber.f k a0 a1 = some (r1, r2, r3)) :
  Calls Tryd.prog 82 #[.string a0, .int .i64 a1] w fun e w' => e = .returned (.tuple #[.int .u64 r1, .int .i64 r2, .int .i64 r3]) ∧ Drawn0 w w' := by
 have H := h
 clear h
 unfold stowageref01_ReadNumber.f at H
 have HC3 := am H
 clear H
 go_enter Tryd.func82, Tryd.ntmps82
 go_upto_region 1 with (fail)
 go_cut [18] (fun v18 wc => ∃ (kq : Nat) (x18_2 : Bool), v18 = .bool x18_2 ∧ Aside0 (stowageref01_ReadNumber.j0 kq a0 a1 x18_2 = some (r1, r2, r3)) ∧ Aside0 (kq ≤ k) ∧ Drawn0 w wc)
 case first =>
  have H := HC3.out
  clear HC3
  replace H := iteD H
  rcases H with ⟨c4b0, H⟩ | ⟨c4b0, H⟩
  ·
   (first | rw [c4b0] | (simp only [i64_w, i32_w]; rw [c4b0]) | skip)
   have H' := am H
   clear H
   go_wp2
   go_meet
   case rel => exact ⟨_, (true), rs, H', ⟨om⟩, by repeat (first | exact Drawn0.refl _ | apply Drawn0.step)⟩
  ·
   (first | rw [c4b0] | (simp only [i64_w, i32_w]; rw [c4b0]) | skip)
   have H' := am H
   clear H
   go_wp2
   go_meet
   case rel => exact ⟨_, (decide (a1 > (a0.size : Int))), rs, H', ⟨om⟩, by repeat (first | exact Drawn0.refl _ | apply Drawn0.step)⟩
 case rest =>
  clear HC3
  obtain ⟨kq, x18_2, rfl, HA, HJ2, ⟨mc2, rfl⟩⟩ := hcut
  cases kq with
  | zero => exact absurd HA.out (by simp [stowageref01_ReadNumber.j0])
  | succ kj2 =>
   have H := HA.out
   clear HA
   simp only [stowageref01_ReadNumber.j0] at H
   by_cases c5 : x18_2 = true
   ·
    subst c5
    rw [if_pos rfl] at H
    simp only [Option.some.injEq, Prod.mk.injEq] at H
    obtain ⟨rfl, rfl, rfl⟩ := H
    go_wp2
    go_ret3
    exact ⟨by first | rfl | (simp; done) | (simp [*]; done), by repeat (first | exact Drawn0.refl _ | apply Drawn0.step)⟩
   ·
    replace c5 := Bool.eq_false_iff.mpr c5
    subst c5
    rw [if_neg (show ¬ (false = true) by decide)] at H
    have H' := am H
    clear H
    go_wp2
    go_loopg [7, 8, 9] kj2 (fun kq v7 v8 v9 w' => ∃ (x7_2 : Int) (x8_2 : Int) (x9_2 : Int), v7 = .int .u64 x7_2 ∧ v8 = .int .u64 x8_2 ∧ v9 = .int .i64 x9_2 ∧ Aside0 (stowageref01_ReadNumber.l0 kq a0 a1 x7_2 x8_2 x9_2 = some (r1, r2, r3)) ∧ Aside0 (kq ≤ kj2) ∧ Drawn0 w w')
    case atStart => exact ⟨(0), (1), (a1), rs, rs, rs, H', ⟨Nat.le_refl _⟩, by repeat (first | exact Drawn0.refl _ | apply Drawn0.step)⟩
    case round =>
     clear H'
     try clear c5
     obtain ⟨x7_2, x8_2, x9_2, rfl, rfl, rfl, HA, HK2, ⟨m2, rfl⟩⟩ := hrel
     cases gk with
     | zero => exact absurd HA.out (by simp [stowageref01_ReadNumber.l0])
     | succ k2 =>
      have H := HA.out
      clear HA
      simp only [stowageref01_ReadNumber.l0] at H
      replace H := iteD H
      rcases H with ⟨c6b0, H⟩ | ⟨c6b0, H⟩
      ·
       simp only [Option.some.injEq, Prod.mk.injEq] at H
       obtain ⟨rfl, rfl, rfl⟩ := H
       go_wp2
       go_ret3
       exact ⟨by first | rfl | (simp; done) | (simp [*]; done), by repeat (first | exact Drawn0.refl _ | apply Drawn0.step)⟩
      ·
       by_cases c7 : 0 ≤ x9_2
       ·
        rw [if_pos c7] at H
        have c7b0 := decide_eq_true c7
        clear c7
        replace H := iteD H
        rcases H with ⟨c8b0, H⟩ | ⟨_, H⟩
        ·
         have HC10 := am H
         clear H
         have p9 := pz x9_2
         have q9 := pl x9_2 (a0.size : Int)
         have hx9 := bt_at a0 x9_2
         go_upto_region 10 with (fail)
         go_cut [46] (fun v46 wc => ∃ (kq : Nat) (x46_9 : Bool), v46 = .bool x46_9 ∧ Aside0 (stowageref01_ReadNumber.j2 kq a0 a1 x7_2 x8_2 x9_2 (IntKind.u64.wrap (bt a0 x9_2)) x46_9 = some (r1, r2, r3)) ∧ Aside0 (kq ≤ k2) ∧ Drawn0 w wc)
         case first =>
          have H := HC10.out
          clear HC10
          by_cases c11 : (wrap64 (x9_2 - a1)) = 9
          ·
           rw [if_pos c11] at H
           have c11b0 := beq_iff_eq.mpr c11
           have c11b1 := bne_eq_false_iff_eq.mpr c11
           clear c11
           (first | rw [c11b0] | (simp only [i64_w, i32_w]; rw [c11b0]) | skip)
           replace H := iteD H
           rcases H with ⟨c12b0, H⟩ | ⟨c12b0, H⟩
           ·
            have H' := am H
            clear H
            go_wp2
            go_meet
            case rel => exact ⟨_, (true), rs, H', ⟨by have := HJ2.out; have := HK2.out; first | omega | exact Nat.le_refl _⟩, by repeat (first | exact Drawn0.refl _ | apply Drawn0.step)⟩
           ·
            replace H := iteD H
            rcases H with ⟨c13b0, H⟩ | ⟨c13b0, H⟩
            ·
             have H' := am H
             clear H
             go_wp2
             go_meet
             case rel => exact ⟨_, (((IntKind.u64.wrap (bt a0 x9_2)) == 0)), rs, H', ⟨by have := HJ2.out; have := HK2.out; first | omega | exact Nat.le_refl _⟩, by repeat (first | exact Drawn0.refl _ | apply Drawn0.step)⟩
            ·
             have H' := am H
             clear H
             go_wp2
             go_meet
             case rel => exact ⟨_, (false), rs, H', ⟨by have := HJ2.out; have := HK2.out; first | omega | exact Nat.le_refl _⟩, by repeat (first | exact Drawn0.refl _ | apply Drawn0.step)⟩
          ·
           rw [if_neg c11] at H
           have c11b0 := beq_eq_false_iff_ne.mpr c11
           have c11b1 := bne_iff_ne.mpr c11
           (first | rw [c11b0] | (simp only [i64_w, i32_w]; rw [c11b0]) | skip)
           replace H := iteD H
           rcases H with ⟨c14b0, H⟩ | ⟨c14b0, H⟩
           ·
            have H' := am H
            clear H
            go_wp2
            go_meet
            case rel => exact ⟨_, (((IntKind.u64.wrap (bt a0 x9_2)) == 0)), rs, H', ⟨by have := HJ2.out; have := HK2.out; first | omega | exact Nat.le_refl _⟩, by repeat (first | exact Drawn0.refl _ | apply Drawn0.step)⟩
           ·
            have H' := am H
            clear H
            go_wp2
            go_meet
            case rel => exact ⟨_, (false), rs, H', ⟨by have := HJ2.out; have := HK2.out; first | omega | exact Nat.le_refl _⟩, by repeat (first | exact Drawn0.refl _ | apply Drawn0.step)⟩
         case rest =>
          clear HC10
          try clear c5
          try clear c6b0
          try clear c7
          try clear c7b0
          try clear c8b0
          try clear p9
          try clear q9
          try clear hx9
          obtain ⟨kq, x46_9, rfl, HA, HJ9, ⟨mc9, rfl⟩⟩ := hcut
          cases kq with
          | zero => exact absurd HA.out (by simp [stowageref01_ReadNumber.j2])
          | succ kj9 =>
           have H := HA.out
           clear HA
           simp only [stowageref01_ReadNumber.j2] at H
           by_cases c15 : x46_9 = true
           ·
            subst c15
            rw [if_pos rfl] at H
            simp only [Option.some.injEq, Prod.mk.injEq] at H
            obtain ⟨rfl, rfl, rfl⟩ := H
            go_wp2
            go_ret3
            exact ⟨by first | rfl | (simp; done) | (simp [*]; done), by repeat (first | exact Drawn0.refl _ | apply Drawn0.step)⟩
           ·
            replace c15 := Bool.eq_false_iff.mpr c15
            subst c15
            rw [if_neg (show ¬ (false = true) by decide)] at H
            replace H := iteD H
            rcases H with ⟨c16b0, H⟩ | ⟨c16b0, H⟩
            ·
             simp only [Option.some.injEq, Prod.mk.injEq] at H
             obtain ⟨rfl, rfl, rfl⟩ := H
             go_wp2
             go_ret3
             exact ⟨by first | rfl | (simp; done) | (simp [*]; done), by repeat (first | exact Drawn0.refl _ | apply Drawn0.step)⟩
            ·
             have H' := am H
             clear H
             go_wp2
             go_roundg kj9
             case measure => have := HJ2.out; have := HK2.out; have := HJ9.out; omega
             case rel => exact ⟨(IntKind.u64.wrap (x7_2 + (IntKind.u64.wrap ((Int.tmod (IntKind.u64.wrap (bt a0 x9_2)) 128) * x8_2)))), (IntKind.u64.wrap (x8_2 * 128)), (wrap64 (x9_2 + 1)), rs, rs, rs, H', ⟨by have := HJ2.out; have := HK2.out; have := HJ9.out; omega⟩, by repeat (first | exact Drawn0.refl _ | apply Drawn0.step)⟩
        ·
         exact absurd H (by simp)
       ·
        rw [if_neg c7] at H
        exact absurd H (by simp)
def stowageref01_Reader_Number.f (k : Nat) (a0_0 : ByteArray) (a0_1 : Int) (a0_2 : Int) (a1 : Int) : Option (ByteArray × Int × Int × Int) := if a0_2 = 0 then ((stowageref01_ReadNumber.f k a0_0 a0_1).bind fun bt263 => (if bt263.2.2 = 0 then (if bt263.1 > a1 then (some (a0_0, a0_1, 2, 0)) else (some (a0_0, bt263.2.1, a0_2, bt263.1))) else (some (a0_0, a0_1, bt263.2.2, 0)))) else (some (a0_0, a0_1, a0_2, 0))
theorem stowageref01_Reader_Number.mono : ∀ a0 a1 a2 a3 k, LeO (stowageref01_Reader_Number.f k a0 a1 a2 a3) (stowageref01_Reader_Number.f (k + 1) a0 a1 a2 a3) := by
 intro a0 a1 a2 a3 k
 unfold stowageref01_Reader_Number.f
 repeat' (with_reducible first | exact stowageref01_ReadNumber.mono _ _ _ | exact LeO.refl _ | exact LeO.none _ | refine LeO.ite ?_ ?_ | refine LeO.bind ?_ (fun _ => ?_))
set_option maxHeartbeats 8000000 in
set_option maxRecDepth 100000 in
theorem stowageref01_Reader_Number.calls (k : Nat) (a0_0 : ByteArray) (a0_1 : Int) (a0_2 : Int) (a1 : Int) (r1 : ByteArray) (r2 : Int) (r3 : Int) (r4 : Int) (w : World) (h : stowageref01_Reader_Number.f k a0_0 a0_1 a0_2 a1 = some (r1, r2, r3, r4)) :
  Calls Tryd.prog 81 #[.agg #[.string a0_0, .int .i64 a0_1, .int .i64 a0_2], .int .u64 a1] w fun e w' => e = .returned (.tuple #[.agg #[.string r1, .int .i64 r2, .int .i64 r3], .int .u64 r4]) ∧ Below w.heap.size w w' := by
 have hu85 := Tryd.underlying85
 have HB := am (Below.refl w.heap.size w)
 have H := h
 clear h
 unfold stowageref01_Reader_Number.f at H
 by_cases c3 : a0_2 = 0
 ·
  rw [if_pos c3] at H
  have c3b0 := beq_iff_eq.mpr c3
  have c3b1 := bne_eq_false_iff_eq.mpr c3
  clear c3
  replace H := obE H
  obtain ⟨⟨t263, t264, t265⟩, A4, H⟩ := H
  try dsimp only at H
  by_cases c5 : t265 = 0
  ·
   rw [if_pos c5] at H
   have c5b0 := beq_iff_eq.mpr c5
   have c5b1 := bne_eq_false_iff_eq.mpr c5
   clear c5
   replace H := iteD H
   rcases H with ⟨c6b0, H⟩ | ⟨c6b0, H⟩
   ·
    simp only [Option.some.injEq, Prod.mk.injEq] at H
    obtain ⟨rfl, rfl, rfl, rfl⟩ := H
    go_enter Tryd.func81, Tryd.ntmps81
    go_wp2_with (first | ((with_reducible refine gate_dst (N := 2) rfl ?_); refine bx 2 #[.string a0_0, .int .i64 a0_1, .int .i64 a0_2] 85 ?_; intro gb261 hg w7 hbox hb; have BK261 := am (hbox); have GW261 := gsz hg HB.out; have GE261 := gsz hg HB.out; replace HB := am (below_step (bw HB.out) hb); clear hb hbox hg) | ((with_reducible refine gate_dst (N := 4) rfl ?_); refine bx 4 #[.string (⟨#[]⟩ : ByteArray), .int .i64 0, .int .i64 0] 85 ?_; intro gb262 hg w8 hbox hb; have BK262 := am (hbox); have GW262 := gsz hg HB.out; have GE262 := gsz hg HB.out; have NB261_262 := nlt (g := gb261) hg BK261.out; have NB262_261 := ngt (g := gb261) hg BK261.out; replace BK261 := bb BK261.out hb; replace HB := am (below_step (bws HB.out) hb); clear hb hbox hg; have hnb9 := NB261_262.out; have hnc9 := NB262_261.out; obtain ⟨hcz10_0, hcz10_1, hcz10_2, hfz10_0, hfz10_1, hfz10_2⟩ := cz3 BK261.out) | ((with_reducible refine gate_callee (f := 82) rfl ?_); refine goesL_ (some 18) rfl rfl Tryd.func82 (by kernel_rfl) rfl #[.string a0_0, .int .i64 a0_1] rfl gl ?_; (with_reducible refine (stowageref01_ReadNumber.calls k a0_0 a0_1 t263 t264 t265 _ A4.out).mono ?_); rintro e w' ⟨rfl, ⟨nd, rfl⟩⟩; refine ⟨_, rfl, ?_⟩; (try (rw [drewN_self w8]; generalize hq_ : World.drewN w8 _ = w8; have n0_ : Aside0 (w8.heap[gb261]? = some (.cells #[.string a0_0, .int .i64 a0_1, .int .i64 a0_2] 85 (0, 0))) := ⟨by rw [← hq_]; exact (bk BK261.out)⟩; have n1_ : Aside0 (w8.heap[gb262]? = some (.cells #[.string (⟨#[]⟩ : ByteArray), .int .i64 0, .int .i64 0] 85 (0, 0))) := ⟨by rw [← hq_]; exact (bk BK262.out)⟩; have n2_ : Aside0 (Below w.heap.size w w8) := ⟨by rw [← hq_]; exact (bws HB.out)⟩; clear BK261 BK262 HB hq_; have BK261 := n0_; have BK262 := n1_; have HB := n2_; clear n0_ n1_ n2_)); obtain ⟨hcz11_0, hcz11_1, hcz11_2, hfz11_0, hfz11_1, hfz11_2⟩ := cz3 BK262.out; have hcr261_0 : w8.cell? ⟨gb261, 0, none⟩ = some (.string a0_0) := (blk_cell BK261.out 0).trans rfl; have hfr261_0 := blk_frozen BK261.out 0; have hcr261_1 : w8.cell? ⟨gb261, 1, none⟩ = some (.int .i64 a0_1) := (blk_cell BK261.out 1).trans rfl; have hfr261_1 := blk_frozen BK261.out 1; have hcr261_2 : w8.cell? ⟨gb261, 2, none⟩ = some (.int .i64 a0_2) := (blk_cell BK261.out 2).trans rfl; have hfr261_2 := blk_frozen BK261.out 2))
    refine bodyPost_ret (results_ct rfl _ _ gb262 85 #[.string a0_0, .int .i64 a0_1, .int .i64 2] (0, 0) _ rfl (bkf BK262.out) Tryd.underlying85 rfl (by kernel_rfl)) rfl ?_
    exact ⟨rf, bws HB.out⟩
   ·
    simp only [Option.some.injEq, Prod.mk.injEq] at H
    obtain ⟨rfl, rfl, rfl, rfl⟩ := H
    go_enter Tryd.func81, Tryd.ntmps81
    go_wp2_with (first | ((with_reducible refine gate_dst (N := 2) rfl ?_); refine bx 2 #[.string a0_0, .int .i64 a0_1, .int .i64 a0_2] 85 ?_; intro gb261 hg w12 hbox hb; have BK261 := am (hbox); have GW261 := gsz hg HB.out; have GE261 := gsz hg HB.out; replace HB := am (below_step (bw HB.out) hb); clear hb hbox hg) | ((with_reducible refine gate_dst (N := 4) rfl ?_); refine bx 4 #[.string (⟨#[]⟩ : ByteArray), .int .i64 0, .int .i64 0] 85 ?_; intro gb262 hg w13 hbox hb; have BK262 := am (hbox); have GW262 := gsz hg HB.out; have GE262 := gsz hg HB.out; have NB261_262 := nlt (g := gb261) hg BK261.out; have NB262_261 := ngt (g := gb261) hg BK261.out; replace BK261 := bb BK261.out hb; replace HB := am (below_step (bws HB.out) hb); clear hb hbox hg; have hnb14 := NB261_262.out; have hnc14 := NB262_261.out; obtain ⟨hcz15_0, hcz15_1, hcz15_2, hfz15_0, hfz15_1, hfz15_2⟩ := cz3 BK261.out) | ((with_reducible refine gate_callee (f := 82) rfl ?_); refine goesL_ (some 18) rfl rfl Tryd.func82 (by kernel_rfl) rfl #[.string a0_0, .int .i64 a0_1] rfl gl ?_; (with_reducible refine (stowageref01_ReadNumber.calls k a0_0 a0_1 t263 t264 t265 _ A4.out).mono ?_); rintro e w' ⟨rfl, ⟨nd, rfl⟩⟩; refine ⟨_, rfl, ?_⟩; (try (rw [drewN_self w13]; generalize hq_ : World.drewN w13 _ = w13; have n0_ : Aside0 (w13.heap[gb261]? = some (.cells #[.string a0_0, .int .i64 a0_1, .int .i64 a0_2] 85 (0, 0))) := ⟨by rw [← hq_]; exact (bk BK261.out)⟩; have n1_ : Aside0 (w13.heap[gb262]? = some (.cells #[.string (⟨#[]⟩ : ByteArray), .int .i64 0, .int .i64 0] 85 (0, 0))) := ⟨by rw [← hq_]; exact (bk BK262.out)⟩; have n2_ : Aside0 (Below w.heap.size w w13) := ⟨by rw [← hq_]; exact (bws HB.out)⟩; clear BK261 BK262 HB hq_; have BK261 := n0_; have BK262 := n1_; have HB := n2_; clear n0_ n1_ n2_)); obtain ⟨hcz16_0, hcz16_1, hcz16_2, hfz16_0, hfz16_1, hfz16_2⟩ := cz3 BK262.out; have hcr261_0 : w13.cell? ⟨gb261, 0, none⟩ = some (.string a0_0) := (blk_cell BK261.out 0).trans rfl; have hfr261_0 := blk_frozen BK261.out 0; have hcr261_1 : w13.cell? ⟨gb261, 1, none⟩ = some (.int .i64 a0_1) := (blk_cell BK261.out 1).trans rfl; have hfr261_1 := blk_frozen BK261.out 1; have hcr261_2 : w13.cell? ⟨gb261, 2, none⟩ = some (.int .i64 a0_2) := (blk_cell BK261.out 2).trans rfl; have hfr261_2 := blk_frozen BK261.out 2))
    refine bodyPost_ret (results_ct rfl _ _ gb262 85 #[.string a0_0, .int .i64 t264, .int .i64 a0_2] (0, 0) _ rfl (bkf BK262.out) Tryd.underlying85 rfl (by kernel_rfl)) rfl ?_
    exact ⟨rf, bws HB.out⟩
  ·
   rw [if_neg c5] at H
   have c5b0 := beq_eq_false_iff_ne.mpr c5
   have c5b1 := bne_iff_ne.mpr c5
   simp only [Option.some.injEq, Prod.mk.injEq] at H
   obtain ⟨rfl, rfl, rfl, rfl⟩ := H
   go_enter Tryd.func81, Tryd.ntmps81
   go_wp2_with (first | ((with_reducible refine gate_dst (N := 2) rfl ?_); refine bx 2 #[.string a0_0, .int .i64 a0_1, .int .i64 a0_2] 85 ?_; intro gb261 hg w17 hbox hb; have BK261 := am (hbox); have GW261 := gsz hg HB.out; have GE261 := gsz hg HB.out; replace HB := am (below_step (bw HB.out) hb); clear hb hbox hg) | ((with_reducible refine gate_dst (N := 4) rfl ?_); refine bx 4 #[.string (⟨#[]⟩ : ByteArray), .int .i64 0, .int .i64 0] 85 ?_; intro gb262 hg w18 hbox hb; have BK262 := am (hbox); have GW262 := gsz hg HB.out; have GE262 := gsz hg HB.out; have NB261_262 := nlt (g := gb261) hg BK261.out; have NB262_261 := ngt (g := gb261) hg BK261.out; replace BK261 := bb BK261.out hb; replace HB := am (below_step (bws HB.out) hb); clear hb hbox hg; have hnb19 := NB261_262.out; have hnc19 := NB262_261.out; obtain ⟨hcz20_0, hcz20_1, hcz20_2, hfz20_0, hfz20_1, hfz20_2⟩ := cz3 BK261.out) | ((with_reducible refine gate_callee (f := 82) rfl ?_); refine goesL_ (some 18) rfl rfl Tryd.func82 (by kernel_rfl) rfl #[.string a0_0, .int .i64 a0_1] rfl gl ?_; (with_reducible refine (stowageref01_ReadNumber.calls k a0_0 a0_1 t263 t264 t265 _ A4.out).mono ?_); rintro e w' ⟨rfl, ⟨nd, rfl⟩⟩; refine ⟨_, rfl, ?_⟩; (try (rw [drewN_self w18]; generalize hq_ : World.drewN w18 _ = w18; have n0_ : Aside0 (w18.heap[gb261]? = some (.cells #[.string a0_0, .int .i64 a0_1, .int .i64 a0_2] 85 (0, 0))) := ⟨by rw [← hq_]; exact (bk BK261.out)⟩; have n1_ : Aside0 (w18.heap[gb262]? = some (.cells #[.string (⟨#[]⟩ : ByteArray), .int .i64 0, .int .i64 0] 85 (0, 0))) := ⟨by rw [← hq_]; exact (bk BK262.out)⟩; have n2_ : Aside0 (Below w.heap.size w w18) := ⟨by rw [← hq_]; exact (bws HB.out)⟩; clear BK261 BK262 HB hq_; have BK261 := n0_; have BK262 := n1_; have HB := n2_; clear n0_ n1_ n2_)); obtain ⟨hcz21_0, hcz21_1, hcz21_2, hfz21_0, hfz21_1, hfz21_2⟩ := cz3 BK262.out; have hcr261_0 : w18.cell? ⟨gb261, 0, none⟩ = some (.string a0_0) := (blk_cell BK261.out 0).trans rfl; have hfr261_0 := blk_frozen BK261.out 0; have hcr261_1 : w18.cell? ⟨gb261, 1, none⟩ = some (.int .i64 a0_1) := (blk_cell BK261.out 1).trans rfl; have hfr261_1 := blk_frozen BK261.out 1; have hcr261_2 : w18.cell? ⟨gb261, 2, none⟩ = some (.int .i64 a0_2) := (blk_cell BK261.out 2).trans rfl; have hfr261_2 := blk_frozen BK261.out 2))
   refine bodyPost_ret (results_ct rfl _ _ gb262 85 #[.string a0_0, .int .i64 a0_1, .int .i64 t265] (0, 0) _ rfl (bkf BK262.out) Tryd.underlying85 rfl (by kernel_rfl)) rfl ?_
   exact ⟨rf, bws HB.out⟩
 ·
  rw [if_neg c3] at H
  have c3b0 := beq_eq_false_iff_ne.mpr c3
  have c3b1 := bne_iff_ne.mpr c3
  simp only [Option.some.injEq, Prod.mk.injEq] at H
  obtain ⟨rfl, rfl, rfl, rfl⟩ := H
  go_enter Tryd.func81, Tryd.ntmps81
  go_wp2_with (first | ((with_reducible refine gate_dst (N := 2) rfl ?_); refine bx 2 #[.string a0_0, .int .i64 a0_1, .int .i64 a0_2] 85 ?_; intro gb261 hg w22 hbox hb; have BK261 := am (hbox); have GW261 := gsz hg HB.out; have GE261 := gsz hg HB.out; replace HB := am (below_step (bw HB.out) hb); clear hb hbox hg) | ((with_reducible refine gate_dst (N := 4) rfl ?_); refine bx 4 #[.string (⟨#[]⟩ : ByteArray), .int .i64 0, .int .i64 0] 85 ?_; intro gb262 hg w23 hbox hb; have BK262 := am (hbox); have GW262 := gsz hg HB.out; have GE262 := gsz hg HB.out; have NB261_262 := nlt (g := gb261) hg BK261.out; have NB262_261 := ngt (g := gb261) hg BK261.out; replace BK261 := bb BK261.out hb; replace HB := am (below_step (bws HB.out) hb); clear hb hbox hg; have hnb24 := NB261_262.out; have hnc24 := NB262_261.out; obtain ⟨hcz25_0, hcz25_1, hcz25_2, hfz25_0, hfz25_1, hfz25_2⟩ := cz3 BK261.out; obtain ⟨hcz26_0, hcz26_1, hcz26_2, hfz26_0, hfz26_1, hfz26_2⟩ := cz3 BK262.out))
  refine bodyPost_ret (results_ct rfl _ _ gb262 85 #[.string a0_0, .int .i64 a0_1, .int .i64 a0_2] (0, 0) _ rfl (bkp BK262.out) Tryd.underlying85 rfl (by kernel_rfl)) rfl ?_
  exact ⟨rf, bws HB.out⟩
def stowageref01_Reader_Int.f (k : Nat) (a0_0 : ByteArray) (a0_1 : Int) (a0_2 : Int) (a1 : Int) : Option (ByteArray × Int × Int × Int) := if a1 ≥ 0 then ((stowageref01_Reader_Number.f k a0_0 a0_1 a0_2 (IntKind.u64.wrap (a1))).bind fun bt268 => (some (bt268.1, bt268.2.1, bt268.2.2.1, wrap64 (bt268.2.2.2)))) else (if a0_2 = 0 then ((stowageref01_ReadNumber.f k a0_0 a0_1).bind fun bt273 => (if bt273.2.2 = 0 then (some (a0_0, a0_1, 2, 0)) else (some (a0_0, a0_1, bt273.2.2, 0)))) else (some (a0_0, a0_1, a0_2, 0)))
theorem stowageref01_Reader_Int.mono : ∀ a0 a1 a2 a3 k, LeO (stowageref01_Reader_Int.f k a0 a1 a2 a3) (stowageref01_Reader_Int.f (k + 1) a0 a1 a2 a3) := by
 intro a0 a1 a2 a3 k
 unfold stowageref01_Reader_Int.f
 repeat' (with_reducible first | exact stowageref01_ReadNumber.mono _ _ _ | exact stowageref01_Reader_Number.mono _ _ _ _ _ | exact LeO.refl _ | exact LeO.none _ | refine LeO.ite ?_ ?_ | refine LeO.bind ?_ (fun _ => ?_))
set_option maxHeartbeats 8000000 in
set_option maxRecDepth 100000 in
theorem stowageref01_Reader_Int.calls (k : Nat) (a0_0 : ByteArray) (a0_1 : Int) (a0_2 : Int) (a1 : Int) (r1 : ByteArray) (r2 : Int) (r3 : Int) (r4 : Int) (w : World) (h : stowageref01_Reader_Int.f k a0_0 a0_1 a0_2 a1 = some (r1, r2, r3, r4)) :
  Calls Tryd.prog 52 #[.agg #[.string a0_0, .int .i64 a0_1, .int .i64 a0_2], .int .i64 a1] w fun e w' => e = .returned (.tuple #[.agg #[.string r1, .int .i64 r2, .int .i64 r3], .int .i64 r4]) ∧ Below w.heap.size w w' := by
 have hu85 := Tryd.underlying85
 have HB := am (Below.refl w.heap.size w)
 have H := h
 clear h
 unfold stowageref01_Reader_Int.f at H
 replace H := iteD H
 rcases H with ⟨c3b0, H⟩ | ⟨c3b0, H⟩
 ·
  replace H := obE H
  obtain ⟨⟨t268, t269, t270, t271⟩, A4, H⟩ := H
  try dsimp only at H
  simp only [Option.some.injEq, Prod.mk.injEq] at H
  obtain ⟨rfl, rfl, rfl, rfl⟩ := H
  go_enter Tryd.func52, Tryd.ntmps52
  go_wp2_with (first | ((with_reducible refine gate_dst (N := 2) rfl ?_); refine bx 2 #[.string a0_0, .int .i64 a0_1, .int .i64 a0_2] 85 ?_; intro gb266 hg w5 hbox hb; have BK266 := am (hbox); have GW266 := gsz hg HB.out; have GE266 := gsz hg HB.out; replace HB := am (below_step (bw HB.out) hb); clear hb hbox hg) | ((with_reducible refine gate_dst (N := 4) rfl ?_); refine bx 4 #[.string (⟨#[]⟩ : ByteArray), .int .i64 0, .int .i64 0] 85 ?_; intro gb267 hg w6 hbox hb; have BK267 := am (hbox); have GW267 := gsz hg HB.out; have GE267 := gsz hg HB.out; have NB266_267 := nlt (g := gb266) hg BK266.out; have NB267_266 := ngt (g := gb266) hg BK266.out; replace BK266 := bb BK266.out hb; replace HB := am (below_step (bws HB.out) hb); clear hb hbox hg; have hnb7 := NB266_267.out; have hnc7 := NB267_266.out; obtain ⟨hcz8_0, hcz8_1, hcz8_2, hfz8_0, hfz8_1, hfz8_2⟩ := cz3 BK266.out) | ((with_reducible refine gate_callee (f := 81) rfl ?_); refine goesL_ (some 17) rfl rfl Tryd.func81 (by kernel_rfl) rfl #[.agg #[.string a0_0, .int .i64 a0_1, .int .i64 a0_2], .int .u64 (IntKind.u64.wrap (a1))] rfl gl ?_; (with_reducible refine (stowageref01_Reader_Number.calls k a0_0 a0_1 a0_2 (IntKind.u64.wrap (a1)) t268 t269 t270 t271 _ A4.out).mono ?_); rintro e w9 ⟨rfl, hb⟩; refine ⟨_, rfl, ?_⟩; replace BK266 := bb BK266.out hb; replace BK267 := bb BK267.out hb; replace HB := am (below_step (bws HB.out) hb); (try clear hb)) | ((with_reducible refine gate_dst (N := 6) rfl ?_); refine bx 6 #[.string (⟨#[]⟩ : ByteArray), .int .i64 0, .int .i64 0] 85 ?_; intro gb272 hg w10 hbox hb; have BK272 := am (hbox); have GW272 := gsz hg HB.out; have GE272 := gsz hg HB.out; have NB266_272 := nlt (g := gb266) hg BK266.out; have NB272_266 := ngt (g := gb266) hg BK266.out; have NB267_272 := nlt (g := gb267) hg BK267.out; have NB272_267 := ngt (g := gb267) hg BK267.out; replace BK266 := bb BK266.out hb; replace BK267 := bb BK267.out hb; replace HB := am (below_step (bws HB.out) hb); clear hb hbox hg; have hnb11 := NB272_266.out; have hnc11 := NB266_272.out; have hnb12 := NB272_267.out; have hnc12 := NB267_272.out; obtain ⟨hcz13_0, hcz13_1, hcz13_2, hfz13_0, hfz13_1, hfz13_2⟩ := cz3 BK272.out; obtain ⟨hcz14_0, hcz14_1, hcz14_2, hfz14_0, hfz14_1, hfz14_2⟩ := cz3 BK267.out))
  refine bodyPost_ret (results_ct rfl _ _ gb267 85 #[.string t268, .int .i64 t269, .int .i64 t270] (0, 0) _ rfl (bkf BK267.out) Tryd.underlying85 rfl (by kernel_rfl)) rfl ?_
  exact ⟨rf, bws HB.out⟩
 ·
  by_cases c15 : a0_2 = 0
  ·
   rw [if_pos c15] at H
   have c15b0 := beq_iff_eq.mpr c15
   have c15b1 := bne_eq_false_iff_eq.mpr c15
   clear c15
   replace H := obE H
   obtain ⟨⟨t273, t274, t275⟩, A16, H⟩ := H
   try dsimp only at H
   by_cases c17 : t275 = 0
   ·
    rw [if_pos c17] at H
    have c17b0 := beq_iff_eq.mpr c17
    have c17b1 := bne_eq_false_iff_eq.mpr c17
    clear c17
    simp only [Option.some.injEq, Prod.mk.injEq] at H
    obtain ⟨rfl, rfl, rfl, rfl⟩ := H
    go_enter Tryd.func52, Tryd.ntmps52
    go_wp2_with (first | ((with_reducible refine gate_dst (N := 2) rfl ?_); refine bx 2 #[.string a0_0, .int .i64 a0_1, .int .i64 a0_2] 85 ?_; intro gb266 hg w18 hbox hb; have BK266 := am (hbox); have GW266 := gsz hg HB.out; have GE266 := gsz hg HB.out; replace HB := am (below_step (bw HB.out) hb); clear hb hbox hg) | ((with_reducible refine gate_dst (N := 4) rfl ?_); refine bx 4 #[.string (⟨#[]⟩ : ByteArray), .int .i64 0, .int .i64 0] 85 ?_; intro gb267 hg w19 hbox hb; have BK267 := am (hbox); have GW267 := gsz hg HB.out; have GE267 := gsz hg HB.out; have NB266_267 := nlt (g := gb266) hg BK266.out; have NB267_266 := ngt (g := gb266) hg BK266.out; replace BK266 := bb BK266.out hb; replace HB := am (below_step (bws HB.out) hb); clear hb hbox hg; have hnb20 := NB266_267.out; have hnc20 := NB267_266.out; obtain ⟨hcz21_0, hcz21_1, hcz21_2, hfz21_0, hfz21_1, hfz21_2⟩ := cz3 BK266.out) | ((with_reducible refine gate_callee (f := 82) rfl ?_); refine goesL_ (some 32) rfl rfl Tryd.func82 (by kernel_rfl) rfl #[.string a0_0, .int .i64 a0_1] rfl gl ?_; (with_reducible refine (stowageref01_ReadNumber.calls k a0_0 a0_1 t273 t274 t275 _ A16.out).mono ?_); rintro e w' ⟨rfl, ⟨nd, rfl⟩⟩; refine ⟨_, rfl, ?_⟩; (try (rw [drewN_self w19]; generalize hq_ : World.drewN w19 _ = w19; have n0_ : Aside0 (w19.heap[gb266]? = some (.cells #[.string a0_0, .int .i64 a0_1, .int .i64 a0_2] 85 (0, 0))) := ⟨by rw [← hq_]; exact (bk BK266.out)⟩; have n1_ : Aside0 (w19.heap[gb267]? = some (.cells #[.string (⟨#[]⟩ : ByteArray), .int .i64 0, .int .i64 0] 85 (0, 0))) := ⟨by rw [← hq_]; exact (bk BK267.out)⟩; have n2_ : Aside0 (Below w.heap.size w w19) := ⟨by rw [← hq_]; exact (bws HB.out)⟩; clear BK266 BK267 HB hq_; have BK266 := n0_; have BK267 := n1_; have HB := n2_; clear n0_ n1_ n2_)); obtain ⟨hcz22_0, hcz22_1, hcz22_2, hfz22_0, hfz22_1, hfz22_2⟩ := cz3 BK267.out; have hcr266_0 : w19.cell? ⟨gb266, 0, none⟩ = some (.string a0_0) := (blk_cell BK266.out 0).trans rfl; have hfr266_0 := blk_frozen BK266.out 0; have hcr266_1 : w19.cell? ⟨gb266, 1, none⟩ = some (.int .i64 a0_1) := (blk_cell BK266.out 1).trans rfl; have hfr266_1 := blk_frozen BK266.out 1; have hcr266_2 : w19.cell? ⟨gb266, 2, none⟩ = some (.int .i64 a0_2) := (blk_cell BK266.out 2).trans rfl; have hfr266_2 := blk_frozen BK266.out 2))
    refine bodyPost_ret (results_ct rfl _ _ gb267 85 #[.string a0_0, .int .i64 a0_1, .int .i64 2] (0, 0) _ rfl (bkf BK267.out) Tryd.underlying85 rfl (by kernel_rfl)) rfl ?_
    exact ⟨rf, bws HB.out⟩
   ·
    rw [if_neg c17] at H
    have c17b0 := beq_eq_false_iff_ne.mpr c17
    have c17b1 := bne_iff_ne.mpr c17
    simp only [Option.some.injEq, Prod.mk.injEq] at H
    obtain ⟨rfl, rfl, rfl, rfl⟩ := H
    go_enter Tryd.func52, Tryd.ntmps52
    go_wp2_with (first | ((with_reducible refine gate_dst (N := 2) rfl ?_); refine bx 2 #[.string a0_0, .int .i64 a0_1, .int .i64 a0_2] 85 ?_; intro gb266 hg w23 hbox hb; have BK266 := am (hbox); have GW266 := gsz hg HB.out; have GE266 := gsz hg HB.out; replace HB := am (below_step (bw HB.out) hb); clear hb hbox hg) | ((with_reducible refine gate_dst (N := 4) rfl ?_); refine bx 4 #[.string (⟨#[]⟩ : ByteArray), .int .i64 0, .int .i64 0] 85 ?_; intro gb267 hg w24 hbox hb; have BK267 := am (hbox); have GW267 := gsz hg HB.out; have GE267 := gsz hg HB.out; have NB266_267 := nlt (g := gb266) hg BK266.out; have NB267_266 := ngt (g := gb266) hg BK266.out; replace BK266 := bb BK266.out hb; replace HB := am (below_step (bws HB.out) hb); clear hb hbox hg; have hnb25 := NB266_267.out; have hnc25 := NB267_266.out; obtain ⟨hcz26_0, hcz26_1, hcz26_2, hfz26_0, hfz26_1, hfz26_2⟩ := cz3 BK266.out) | ((with_reducible refine gate_callee (f := 82) rfl ?_); refine goesL_ (some 32) rfl rfl Tryd.func82 (by kernel_rfl) rfl #[.string a0_0, .int .i64 a0_1] rfl gl ?_; (with_reducible refine (stowageref01_ReadNumber.calls k a0_0 a0_1 t273 t274 t275 _ A16.out).mono ?_); rintro e w' ⟨rfl, ⟨nd, rfl⟩⟩; refine ⟨_, rfl, ?_⟩; (try (rw [drewN_self w24]; generalize hq_ : World.drewN w24 _ = w24; have n0_ : Aside0 (w24.heap[gb266]? = some (.cells #[.string a0_0, .int .i64 a0_1, .int .i64 a0_2] 85 (0, 0))) := ⟨by rw [← hq_]; exact (bk BK266.out)⟩; have n1_ : Aside0 (w24.heap[gb267]? = some (.cells #[.string (⟨#[]⟩ : ByteArray), .int .i64 0, .int .i64 0] 85 (0, 0))) := ⟨by rw [← hq_]; exact (bk BK267.out)⟩; have n2_ : Aside0 (Below w.heap.size w w24) := ⟨by rw [← hq_]; exact (bws HB.out)⟩; clear BK266 BK267 HB hq_; have BK266 := n0_; have BK267 := n1_; have HB := n2_; clear n0_ n1_ n2_)); obtain ⟨hcz27_0, hcz27_1, hcz27_2, hfz27_0, hfz27_1, hfz27_2⟩ := cz3 BK267.out; have hcr266_0 : w24.cell? ⟨gb266, 0, none⟩ = some (.string a0_0) := (blk_cell BK266.out 0).trans rfl; have hfr266_0 := blk_frozen BK266.out 0; have hcr266_1 : w24.cell? ⟨gb266, 1, none⟩ = some (.int .i64 a0_1) := (blk_cell BK266.out 1).trans rfl; have hfr266_1 := blk_frozen BK266.out 1; have hcr266_2 : w24.cell? ⟨gb266, 2, none⟩ = some (.int .i64 a0_2) := (blk_cell BK266.out 2).trans rfl; have hfr266_2 := blk_frozen BK266.out 2))
    refine bodyPost_ret (results_ct rfl _ _ gb267 85 #[.string a0_0, .int .i64 a0_1, .int .i64 t275] (0, 0) _ rfl (bkf BK267.out) Tryd.underlying85 rfl (by kernel_rfl)) rfl ?_
    exact ⟨rf, bws HB.out⟩
  ·
   rw [if_neg c15] at H
   have c15b0 := beq_eq_false_iff_ne.mpr c15
   have c15b1 := bne_iff_ne.mpr c15
   simp only [Option.some.injEq, Prod.mk.injEq] at H
   obtain ⟨rfl, rfl, rfl, rfl⟩ := H
   go_enter Tryd.func52, Tryd.ntmps52
   go_wp2_with (first | ((with_reducible refine gate_dst (N := 2) rfl ?_); refine bx 2 #[.string a0_0, .int .i64 a0_1, .int .i64 a0_2] 85 ?_; intro gb266 hg w28 hbox hb; have BK266 := am (hbox); have GW266 := gsz hg HB.out; have GE266 := gsz hg HB.out; replace HB := am (below_step (bw HB.out) hb); clear hb hbox hg) | ((with_reducible refine gate_dst (N := 4) rfl ?_); refine bx 4 #[.string (⟨#[]⟩ : ByteArray), .int .i64 0, .int .i64 0] 85 ?_; intro gb267 hg w29 hbox hb; have BK267 := am (hbox); have GW267 := gsz hg HB.out; have GE267 := gsz hg HB.out; have NB266_267 := nlt (g := gb266) hg BK266.out; have NB267_266 := ngt (g := gb266) hg BK266.out; replace BK266 := bb BK266.out hb; replace HB := am (below_step (bws HB.out) hb); clear hb hbox hg; have hnb30 := NB266_267.out; have hnc30 := NB267_266.out; obtain ⟨hcz31_0, hcz31_1, hcz31_2, hfz31_0, hfz31_1, hfz31_2⟩ := cz3 BK266.out; obtain ⟨hcz32_0, hcz32_1, hcz32_2, hfz32_0, hfz32_1, hfz32_2⟩ := cz3 BK267.out))
   refine bodyPost_ret (results_ct rfl _ _ gb267 85 #[.string a0_0, .int .i64 a0_1, .int .i64 a0_2] (0, 0) _ rfl (bkp BK267.out) Tryd.underlying85 rfl (by kernel_rfl)) rfl ?_
   exact ⟨rf, bws HB.out⟩
def stowageref01_ReadText.f (k : Nat) (a0 : ByteArray) (a1 : Int) : Option (ByteArray × Int × Int) := (stowageref01_ReadNumber.f k a0 a1).bind fun bt276 => (if bt276.2.2 = 0 then (if bt276.1 > (IntKind.u64.wrap ((a0.size : Int))) then (some ((⟨#[]⟩ : ByteArray), 0, 5)) else (if (wrap64 (bt276.1)) > (wrap64 ((a0.size : Int) - bt276.2.1)) then (some ((⟨#[]⟩ : ByteArray), 0, 5)) else (if 0 ≤ bt276.2.1 then (if bt276.2.1 ≤ (wrap64 (bt276.2.1 + (wrap64 (bt276.1)))) then (if (wrap64 (bt276.2.1 + (wrap64 (bt276.1)))) ≤ (a0.size : Int) then (some (a0.extract (bt276.2.1 : Int).toNat ((wrap64 (bt276.2.1 + (wrap64 (bt276.1)))) : Int).toNat, wrap64 (bt276.2.1 + (wrap64 (bt276.1))), 0)) else (none)) else (none)) else (none)))) else (some ((⟨#[]⟩ : ByteArray), 0, bt276.2.2)))
theorem stowageref01_ReadText.mono : ∀ a0 a1 k, LeO (stowageref01_ReadText.f k a0 a1) (stowageref01_ReadText.f (k + 1) a0 a1) := by
 intro a0 a1 k
 unfold stowageref01_ReadText.f
 repeat' (with_reducible first | exact stowageref01_ReadNumber.mono _ _ _ | exact LeO.refl _ | exact LeO.none _ | refine LeO.ite ?_ ?_ | refine LeO.bind ?_ (fun _ => ?_))
set_option maxHeartbeats 8000000 in
set_option maxRecDepth 100000 in
theorem stowageref01_ReadText.calls (k : Nat) (a0 : ByteArray) (a1 : Int) (r1 : ByteArray) (r2 : Int) (r3 : Int) (w : World) (h : stowageref01_ReadText.f k a0 a1 = some (r1, r2, r3)) :
  Calls Tryd.prog 83 #[.string a0, .int .i64 a1] w fun e w' => e = .returned (.tuple #[.string r1, .int .i64 r2, .int .i64 r3]) ∧ Drawn0 w w' := by
 have H := h
 clear h
 unfold stowageref01_ReadText.f at H
 replace H := obE H
 obtain ⟨⟨t276, t277, t278⟩, A3, H⟩ := H
 try dsimp only at H
 by_cases c4 : t278 = 0
 ·
  rw [if_pos c4] at H
  have c4b0 := beq_iff_eq.mpr c4
  have c4b1 := bne_eq_false_iff_eq.mpr c4
  clear c4
  replace H := iteD H
  rcases H with ⟨c5b0, H⟩ | ⟨c5b0, H⟩
  ·
   simp only [Option.some.injEq, Prod.mk.injEq] at H
   obtain ⟨rfl, rfl, rfl⟩ := H
   go_enter Tryd.func83, Tryd.ntmps83
   go_wp2_with (first | ((with_reducible refine gate_callee (f := 82) rfl ?_); refine goesL_ (some 13) rfl rfl Tryd.func82 (by kernel_rfl) rfl #[.string a0, .int .i64 a1] rfl gl ?_; (with_reducible refine (stowageref01_ReadNumber.calls k a0 a1 t276 t277 t278 _ A3.out).mono ?_); rintro e w' ⟨rfl, ⟨nd, rfl⟩⟩; refine ⟨_, rfl, ?_⟩))
   go_ret3
   exact ⟨by first | rfl | (simp; done) | (simp [*]; done), by repeat (first | exact Drawn0.refl _ | apply Drawn0.step)⟩
  ·
   replace H := iteD H
   rcases H with ⟨c6b0, H⟩ | ⟨c6b0, H⟩
   ·
    simp only [Option.some.injEq, Prod.mk.injEq] at H
    obtain ⟨rfl, rfl, rfl⟩ := H
    go_enter Tryd.func83, Tryd.ntmps83
    go_wp2_with (first | ((with_reducible refine gate_callee (f := 82) rfl ?_); refine goesL_ (some 13) rfl rfl Tryd.func82 (by kernel_rfl) rfl #[.string a0, .int .i64 a1] rfl gl ?_; (with_reducible refine (stowageref01_ReadNumber.calls k a0 a1 t276 t277 t278 _ A3.out).mono ?_); rintro e w' ⟨rfl, ⟨nd, rfl⟩⟩; refine ⟨_, rfl, ?_⟩))
    go_ret3
    exact ⟨by first | rfl | (simp; done) | (simp [*]; done), by repeat (first | exact Drawn0.refl _ | apply Drawn0.step)⟩
   ·
    by_cases c7 : 0 ≤ t277
    ·
     rw [if_pos c7] at H
     have c7b0 := eq_true c7
     have c7b1 := decide_eq_true c7
     clear c7
     by_cases c8 : t277 ≤ (wrap64 (t277 + (wrap64 (t276))))
     ·
      rw [if_pos c8] at H
      have c8b0 := eq_true c8
      have c8b1 := decide_eq_true c8
      by_cases c9 : (wrap64 (t277 + (wrap64 (t276)))) ≤ (a0.size : Int)
      ·
       rw [if_pos c9] at H
       have c9b0 := eq_true c9
       have c9b1 := decide_eq_true c9
       simp only [Option.some.injEq, Prod.mk.injEq] at H
       obtain ⟨rfl, rfl, rfl⟩ := H
       go_enter Tryd.func83, Tryd.ntmps83
       go_wp2_with (first | ((with_reducible refine gate_callee (f := 82) rfl ?_); refine goesL_ (some 13) rfl rfl Tryd.func82 (by kernel_rfl) rfl #[.string a0, .int .i64 a1] rfl gl ?_; (with_reducible refine (stowageref01_ReadNumber.calls k a0 a1 t276 t277 t278 _ A3.out).mono ?_); rintro e w' ⟨rfl, ⟨nd, rfl⟩⟩; refine ⟨_, rfl, ?_⟩))
       go_ret3
       exact ⟨by first | rfl | (simp; done) | (simp [*]; done), by repeat (first | exact Drawn0.refl _ | apply Drawn0.step)⟩
      ·
       rw [if_neg c9] at H
       exact absurd H (by simp)
     ·
      rw [if_neg c8] at H
      exact absurd H (by simp)
    ·
     rw [if_neg c7] at H
     exact absurd H (by simp)
 ·
  rw [if_neg c4] at H
  have c4b0 := beq_eq_false_iff_ne.mpr c4
  have c4b1 := bne_iff_ne.mpr c4
  simp only [Option.some.injEq, Prod.mk.injEq] at H
  obtain ⟨rfl, rfl, rfl⟩ := H
  go_enter Tryd.func83, Tryd.ntmps83
  go_wp2_with (first | ((with_reducible refine gate_callee (f := 82) rfl ?_); refine goesL_ (some 13) rfl rfl Tryd.func82 (by kernel_rfl) rfl #[.string a0, .int .i64 a1] rfl gl ?_; (with_reducible refine (stowageref01_ReadNumber.calls k a0 a1 t276 t277 t278 _ A3.out).mono ?_); rintro e w' ⟨rfl, ⟨nd, rfl⟩⟩; refine ⟨_, rfl, ?_⟩))
  go_ret3
  exact ⟨by first | rfl | (simp; done) | (simp [*]; done), by repeat (first | exact Drawn0.refl _ | apply Drawn0.step)⟩
def stowageref01_Reader_Text.f (k : Nat) (a0_0 : ByteArray) (a0_1 : Int) (a0_2 : Int) (a1 : Int) : Option (ByteArray × Int × Int × ByteArray) := if a0_2 = 0 then ((stowageref01_ReadText.f k a0_0 a0_1).bind fun bt281 => (if bt281.2.2 = 0 then (if (bt281.1.size : Int) > a1 then (some (a0_0, a0_1, 2, (⟨#[]⟩ : ByteArray))) else (some (a0_0, bt281.2.1, a0_2, bt281.1))) else (some (a0_0, a0_1, bt281.2.2, (⟨#[]⟩ : ByteArray))))) else (some (a0_0, a0_1, a0_2, (⟨#[]⟩ : ByteArray)))
theorem stowageref01_Reader_Text.mono : ∀ a0 a1 a2 a3 k, LeO (stowageref01_Reader_Text.f k a0 a1 a2 a3) (stowageref01_Reader_Text.f (k + 1) a0 a1 a2 a3) := by
 intro a0 a1 a2 a3 k
 unfold stowageref01_Reader_Text.f
 repeat' (with_reducible first | exact stowageref01_ReadText.mono _ _ _ | exact LeO.refl _ | exact LeO.none _ | refine LeO.ite ?_ ?_ | refine LeO.bind ?_ (fun _ => ?_))
set_option maxHeartbeats 8000000 in
set_option maxRecDepth 100000 in
theorem stowageref01_Reader_Text.calls (k : Nat) (a0_0 : ByteArray) (a0_1 : Int) (a0_2 : Int) (a1 : Int) (r1 : ByteArray) (r2 : Int) (r3 : Int) (r4 : ByteArray) (w : World) (h : stowageref01_Reader_Text.f k a0_0 a0_1 a0_2 a1 = some (r1, r2, r3, r4)) :
  Calls Tryd.prog 53 #[.agg #[.string a0_0, .int .i64 a0_1, .int .i64 a0_2], .int .i64 a1] w fun e w' => e = .returned (.tuple #[.agg #[.string r1, .int .i64 r2, .int .i64 r3], .string r4]) ∧ Below w.heap.size w w' := by
 have hu85 := Tryd.underlying85
 have HB := am (Below.refl w.heap.size w)
 have H := h
 clear h
 unfold stowageref01_Reader_Text.f at H
 by_cases c3 : a0_2 = 0
 ·
  rw [if_pos c3] at H
  have c3b0 := beq_iff_eq.mpr c3
  have c3b1 := bne_eq_false_iff_eq.mpr c3
  clear c3
  replace H := obE H
  obtain ⟨⟨t281, t282, t283⟩, A4, H⟩ := H
  try dsimp only at H
  by_cases c5 : t283 = 0
  ·
   rw [if_pos c5] at H
   have c5b0 := beq_iff_eq.mpr c5
   have c5b1 := bne_eq_false_iff_eq.mpr c5
   clear c5
   replace H := iteD H
   rcases H with ⟨c6b0, H⟩ | ⟨c6b0, H⟩
   ·
    simp only [Option.some.injEq, Prod.mk.injEq] at H
    obtain ⟨rfl, rfl, rfl, rfl⟩ := H
    go_enter Tryd.func53, Tryd.ntmps53
    go_wp2_with (first | ((with_reducible refine gate_dst (N := 2) rfl ?_); refine bx 2 #[.string a0_0, .int .i64 a0_1, .int .i64 a0_2] 85 ?_; intro gb279 hg w7 hbox hb; have BK279 := am (hbox); have GW279 := gsz hg HB.out; have GE279 := gsz hg HB.out; replace HB := am (below_step (bw HB.out) hb); clear hb hbox hg) | ((with_reducible refine gate_dst (N := 4) rfl ?_); refine bx 4 #[.string (⟨#[]⟩ : ByteArray), .int .i64 0, .int .i64 0] 85 ?_; intro gb280 hg w8 hbox hb; have BK280 := am (hbox); have GW280 := gsz hg HB.out; have GE280 := gsz hg HB.out; have NB279_280 := nlt (g := gb279) hg BK279.out; have NB280_279 := ngt (g := gb279) hg BK279.out; replace BK279 := bb BK279.out hb; replace HB := am (below_step (bws HB.out) hb); clear hb hbox hg; have hnb9 := NB279_280.out; have hnc9 := NB280_279.out; obtain ⟨hcz10_0, hcz10_1, hcz10_2, hfz10_0, hfz10_1, hfz10_2⟩ := cz3 BK279.out) | ((with_reducible refine gate_callee (f := 83) rfl ?_); refine goesL_ (some 18) rfl rfl Tryd.func83 (by kernel_rfl) rfl #[.string a0_0, .int .i64 a0_1] rfl gl ?_; (with_reducible refine (stowageref01_ReadText.calls k a0_0 a0_1 t281 t282 t283 _ A4.out).mono ?_); rintro e w' ⟨rfl, ⟨nd, rfl⟩⟩; refine ⟨_, rfl, ?_⟩; (try (rw [drewN_self w8]; generalize hq_ : World.drewN w8 _ = w8; have n0_ : Aside0 (w8.heap[gb279]? = some (.cells #[.string a0_0, .int .i64 a0_1, .int .i64 a0_2] 85 (0, 0))) := ⟨by rw [← hq_]; exact (bk BK279.out)⟩; have n1_ : Aside0 (w8.heap[gb280]? = some (.cells #[.string (⟨#[]⟩ : ByteArray), .int .i64 0, .int .i64 0] 85 (0, 0))) := ⟨by rw [← hq_]; exact (bk BK280.out)⟩; have n2_ : Aside0 (Below w.heap.size w w8) := ⟨by rw [← hq_]; exact (bws HB.out)⟩; clear BK279 BK280 HB hq_; have BK279 := n0_; have BK280 := n1_; have HB := n2_; clear n0_ n1_ n2_)); obtain ⟨hcz11_0, hcz11_1, hcz11_2, hfz11_0, hfz11_1, hfz11_2⟩ := cz3 BK280.out; have hcr279_0 : w8.cell? ⟨gb279, 0, none⟩ = some (.string a0_0) := (blk_cell BK279.out 0).trans rfl; have hfr279_0 := blk_frozen BK279.out 0; have hcr279_1 : w8.cell? ⟨gb279, 1, none⟩ = some (.int .i64 a0_1) := (blk_cell BK279.out 1).trans rfl; have hfr279_1 := blk_frozen BK279.out 1; have hcr279_2 : w8.cell? ⟨gb279, 2, none⟩ = some (.int .i64 a0_2) := (blk_cell BK279.out 2).trans rfl; have hfr279_2 := blk_frozen BK279.out 2))
    refine bodyPost_ret (results_ct rfl _ _ gb280 85 #[.string a0_0, .int .i64 a0_1, .int .i64 2] (0, 0) _ rfl (bkf BK280.out) Tryd.underlying85 rfl (by kernel_rfl)) rfl ?_
    exact ⟨rf, bws HB.out⟩
   ·
    simp only [Option.some.injEq, Prod.mk.injEq] at H
    obtain ⟨rfl, rfl, rfl, rfl⟩ := H
    go_enter Tryd.func53, Tryd.ntmps53
    go_wp2_with (first | ((with_reducible refine gate_dst (N := 2) rfl ?_); refine bx 2 #[.string a0_0, .int .i64 a0_1, .int .i64 a0_2] 85 ?_; intro gb279 hg w12 hbox hb; have BK279 := am (hbox); have GW279 := gsz hg HB.out; have GE279 := gsz hg HB.out; replace HB := am (below_step (bw HB.out) hb); clear hb hbox hg) | ((with_reducible refine gate_dst (N := 4) rfl ?_); refine bx 4 #[.string (⟨#[]⟩ : ByteArray), .int .i64 0, .int .i64 0] 85 ?_; intro gb280 hg w13 hbox hb; have BK280 := am (hbox); have GW280 := gsz hg HB.out; have GE280 := gsz hg HB.out; have NB279_280 := nlt (g := gb279) hg BK279.out; have NB280_279 := ngt (g := gb279) hg BK279.out; replace BK279 := bb BK279.out hb; replace HB := am (below_step (bws HB.out) hb); clear hb hbox hg; have hnb14 := NB279_280.out; have hnc14 := NB280_279.out; obtain ⟨hcz15_0, hcz15_1, hcz15_2, hfz15_0, hfz15_1, hfz15_2⟩ := cz3 BK279.out) | ((with_reducible refine gate_callee (f := 83) rfl ?_); refine goesL_ (some 18) rfl rfl Tryd.func83 (by kernel_rfl) rfl #[.string a0_0, .int .i64 a0_1] rfl gl ?_; (with_reducible refine (stowageref01_ReadText.calls k a0_0 a0_1 t281 t282 t283 _ A4.out).mono ?_); rintro e w' ⟨rfl, ⟨nd, rfl⟩⟩; refine ⟨_, rfl, ?_⟩; (try (rw [drewN_self w13]; generalize hq_ : World.drewN w13 _ = w13; have n0_ : Aside0 (w13.heap[gb279]? = some (.cells #[.string a0_0, .int .i64 a0_1, .int .i64 a0_2] 85 (0, 0))) := ⟨by rw [← hq_]; exact (bk BK279.out)⟩; have n1_ : Aside0 (w13.heap[gb280]? = some (.cells #[.string (⟨#[]⟩ : ByteArray), .int .i64 0, .int .i64 0] 85 (0, 0))) := ⟨by rw [← hq_]; exact (bk BK280.out)⟩; have n2_ : Aside0 (Below w.heap.size w w13) := ⟨by rw [← hq_]; exact (bws HB.out)⟩; clear BK279 BK280 HB hq_; have BK279 := n0_; have BK280 := n1_; have HB := n2_; clear n0_ n1_ n2_)); obtain ⟨hcz16_0, hcz16_1, hcz16_2, hfz16_0, hfz16_1, hfz16_2⟩ := cz3 BK280.out; have hcr279_0 : w13.cell? ⟨gb279, 0, none⟩ = some (.string a0_0) := (blk_cell BK279.out 0).trans rfl; have hfr279_0 := blk_frozen BK279.out 0; have hcr279_1 : w13.cell? ⟨gb279, 1, none⟩ = some (.int .i64 a0_1) := (blk_cell BK279.out 1).trans rfl; have hfr279_1 := blk_frozen BK279.out 1; have hcr279_2 : w13.cell? ⟨gb279, 2, none⟩ = some (.int .i64 a0_2) := (blk_cell BK279.out 2).trans rfl; have hfr279_2 := blk_frozen BK279.out 2))
    refine bodyPost_ret (results_ct rfl _ _ gb280 85 #[.string a0_0, .int .i64 t282, .int .i64 a0_2] (0, 0) _ rfl (bkf BK280.out) Tryd.underlying85 rfl (by kernel_rfl)) rfl ?_
    exact ⟨rf, bws HB.out⟩
  ·
   rw [if_neg c5] at H
   have c5b0 := beq_eq_false_iff_ne.mpr c5
   have c5b1 := bne_iff_ne.mpr c5
   simp only [Option.some.injEq, Prod.mk.injEq] at H
   obtain ⟨rfl, rfl, rfl, rfl⟩ := H
   go_enter Tryd.func53, Tryd.ntmps53
   go_wp2_with (first | ((with_reducible refine gate_dst (N := 2) rfl ?_); refine bx 2 #[.string a0_0, .int .i64 a0_1, .int .i64 a0_2] 85 ?_; intro gb279 hg w17 hbox hb; have BK279 := am (hbox); have GW279 := gsz hg HB.out; have GE279 := gsz hg HB.out; replace HB := am (below_step (bw HB.out) hb); clear hb hbox hg) | ((with_reducible refine gate_dst (N := 4) rfl ?_); refine bx 4 #[.string (⟨#[]⟩ : ByteArray), .int .i64 0, .int .i64 0] 85 ?_; intro gb280 hg w18 hbox hb; have BK280 := am (hbox); have GW280 := gsz hg HB.out; have GE280 := gsz hg HB.out; have NB279_280 := nlt (g := gb279) hg BK279.out; have NB280_279 := ngt (g := gb279) hg BK279.out; replace BK279 := bb BK279.out hb; replace HB := am (below_step (bws HB.out) hb); clear hb hbox hg; have hnb19 := NB279_280.out; have hnc19 := NB280_279.out; obtain ⟨hcz20_0, hcz20_1, hcz20_2, hfz20_0, hfz20_1, hfz20_2⟩ := cz3 BK279.out) | ((with_reducible refine gate_callee (f := 83) rfl ?_); refine goesL_ (some 18) rfl rfl Tryd.func83 (by kernel_rfl) rfl #[.string a0_0, .int .i64 a0_1] rfl gl ?_; (with_reducible refine (stowageref01_ReadText.calls k a0_0 a0_1 t281 t282 t283 _ A4.out).mono ?_); rintro e w' ⟨rfl, ⟨nd, rfl⟩⟩; refine ⟨_, rfl, ?_⟩; (try (rw [drewN_self w18]; generalize hq_ : World.drewN w18 _ = w18; have n0_ : Aside0 (w18.heap[gb279]? = some (.cells #[.string a0_0, .int .i64 a0_1, .int .i64 a0_2] 85 (0, 0))) := ⟨by rw [← hq_]; exact (bk BK279.out)⟩; have n1_ : Aside0 (w18.heap[gb280]? = some (.cells #[.string (⟨#[]⟩ : ByteArray), .int .i64 0, .int .i64 0] 85 (0, 0))) := ⟨by rw [← hq_]; exact (bk BK280.out)⟩; have n2_ : Aside0 (Below w.heap.size w w18) := ⟨by rw [← hq_]; exact (bws HB.out)⟩; clear BK279 BK280 HB hq_; have BK279 := n0_; have BK280 := n1_; have HB := n2_; clear n0_ n1_ n2_)); obtain ⟨hcz21_0, hcz21_1, hcz21_2, hfz21_0, hfz21_1, hfz21_2⟩ := cz3 BK280.out; have hcr279_0 : w18.cell? ⟨gb279, 0, none⟩ = some (.string a0_0) := (blk_cell BK279.out 0).trans rfl; have hfr279_0 := blk_frozen BK279.out 0; have hcr279_1 : w18.cell? ⟨gb279, 1, none⟩ = some (.int .i64 a0_1) := (blk_cell BK279.out 1).trans rfl; have hfr279_1 := blk_frozen BK279.out 1; have hcr279_2 : w18.cell? ⟨gb279, 2, none⟩ = some (.int .i64 a0_2) := (blk_cell BK279.out 2).trans rfl; have hfr279_2 := blk_frozen BK279.out 2))
   refine bodyPost_ret (results_ct rfl _ _ gb280 85 #[.string a0_0, .int .i64 a0_1, .int .i64 t283] (0, 0) _ rfl (bkf BK280.out) Tryd.underlying85 rfl (by kernel_rfl)) rfl ?_
   exact ⟨rf, bws HB.out⟩
 ·
  rw [if_neg c3] at H
  have c3b0 := beq_eq_false_iff_ne.mpr c3
  have c3b1 := bne_iff_ne.mpr c3
  simp only [Option.some.injEq, Prod.mk.injEq] at H
  obtain ⟨rfl, rfl, rfl, rfl⟩ := H
  go_enter Tryd.func53, Tryd.ntmps53
  go_wp2_with (first | ((with_reducible refine gate_dst (N := 2) rfl ?_); refine bx 2 #[.string a0_0, .int .i64 a0_1, .int .i64 a0_2] 85 ?_; intro gb279 hg w22 hbox hb; have BK279 := am (hbox); have GW279 := gsz hg HB.out; have GE279 := gsz hg HB.out; replace HB := am (below_step (bw HB.out) hb); clear hb hbox hg) | ((with_reducible refine gate_dst (N := 4) rfl ?_); refine bx 4 #[.string (⟨#[]⟩ : ByteArray), .int .i64 0, .int .i64 0] 85 ?_; intro gb280 hg w23 hbox hb; have BK280 := am (hbox); have GW280 := gsz hg HB.out; have GE280 := gsz hg HB.out; have NB279_280 := nlt (g := gb279) hg BK279.out; have NB280_279 := ngt (g := gb279) hg BK279.out; replace BK279 := bb BK279.out hb; replace HB := am (below_step (bws HB.out) hb); clear hb hbox hg; have hnb24 := NB279_280.out; have hnc24 := NB280_279.out; obtain ⟨hcz25_0, hcz25_1, hcz25_2, hfz25_0, hfz25_1, hfz25_2⟩ := cz3 BK279.out; obtain ⟨hcz26_0, hcz26_1, hcz26_2, hfz26_0, hfz26_1, hfz26_2⟩ := cz3 BK280.out))
  refine bodyPost_ret (results_ct rfl _ _ gb280 85 #[.string a0_0, .int .i64 a0_1, .int .i64 a0_2] (0, 0) _ rfl (bkp BK280.out) Tryd.underlying85 rfl (by kernel_rfl)) rfl ?_
  exact ⟨rf, bws HB.out⟩
def stowageref13_Read.l0 : Nat → List (S95) → Int → Int → ByteArray → Int → Int → Option (ByteArray × Int × Int × (List (S95)))
 | 0, _, _, _, _, _, _ => none
 | k + 1, x4, x6, x7, x291000, x291001, x291002 => if x7 < x6 then ((stowageref01_Reader_Text.f k x291000 x291001 x291002 64).bind fun bt291 => ((stowageref01_Reader_Int.f k bt291.1 bt291.2.1 bt291.2.2.1 4096).bind fun bt296 => (if x4.length < 5864062014805 then (stowageref13_Read.l0 k (x4 ++ [(⟨bt291.2.2.2, bt296.2.2.2⟩ : S95)]) x6 (wrap64 (x7 + 1)) bt296.1 bt296.2.1 bt296.2.2.1) else (none)))) else (some (x291000, x291001, x291002, x4))
def stowageref13_Read.f (k : Nat) (a0_0 : ByteArray) (a0_1 : Int) (a0_2 : Int) : Option (ByteArray × Int × Int × (List (S95))) := (stowageref01_Reader_Int.f k a0_0 a0_1 a0_2 512).bind fun bt286 => (stowageref13_Read.l0 k ([] : List (S95)) bt286.2.2.2 0 bt286.1 bt286.2.1 bt286.2.2.1)
theorem stowageref13_Read.mono_l : ∀ k, (∀ y0 y1 y2 y3 y4 y5, LeO (stowageref13_Read.l0 k y0 y1 y2 y3 y4 y5) (stowageref13_Read.l0 (k + 1) y0 y1 y2 y3 y4 y5))
 | 0 => fun _ _ _ _ _ _ r h => by simp [stowageref13_Read.l0] at h
 | k + 1 => by
  have ih0 := stowageref13_Read.mono_l k
  ·
   intro y0 y1 y2 y3 y4 y5
   unfold stowageref13_Read.l0
   repeat' (with_reducible first | exact ih0 _ _ _ _ _ _ | exact stowageref01_Reader_Int.mono _ _ _ _ _ | exact stowageref01_Reader_Text.mono _ _ _ _ _ | exact LeO.refl _ | exact LeO.none _ | refine LeO.ite ?_ ?_ | refine LeO.bind ?_ (fun _ => ?_))
theorem stowageref13_Read.mono : ∀ a0 a1 a2 k, LeO (stowageref13_Read.f k a0 a1 a2) (stowageref13_Read.f (k + 1) a0 a1 a2) := by
 intro a0 a1 a2 k
 have ih0 := stowageref13_Read.mono_l k
 unfold stowageref13_Read.f
 repeat' (with_reducible first | exact ih0 _ _ _ _ _ _ | exact stowageref01_Reader_Int.mono _ _ _ _ _ | exact stowageref01_Reader_Text.mono _ _ _ _ _ | exact LeO.refl _ | exact LeO.none _ | refine LeO.ite ?_ ?_ | refine LeO.bind ?_ (fun _ => ?_))
set_option maxHeartbeats 8000000 in
set_option maxRecDepth 100000 in
theorem stowageref13_Read.calls (k : Nat) (a0_0 : ByteArray) (a0_1 : Int) (a0_2 : Int) (r1 : ByteArray) (r2 : Int) (r3 : Int) (r4 : List (S95)) (w : World) (h : stowageref13_Read.f k a0_0 a0_1 a0_2 = some (r1, r2, r3, r4)) :
  Calls Tryd.prog 54 #[.agg #[.string a0_0, .int .i64 a0_1, .int .i64 a0_2]] w fun e w' => ∃ v3_ : Value, e = .returned (.tuple #[.agg #[.string r1, .int .i64 r2, .int .i64 r3], v3_]) ∧ Kd.R k95 95 w' w.heap.size (fun _ => True) v3_ r4 ∧ Below w.heap.size w w' := by
 have hu85 := Tryd.underlying85
 have hu95 := Tryd.underlying95
 have HB := am (Below.refl w.heap.size w)
 have H := h
 clear h
 unfold stowageref13_Read.f at H
 replace H := obE H
 obtain ⟨⟨t286, t287, t288, t289⟩, A2, H⟩ := H
 try dsimp only at H
 have H' := am H
 clear H
 go_enter Tryd.func54, Tryd.ntmps54
 go_wp2_with (first | ((with_reducible refine gate_dst (N := 1) rfl ?_); refine bx 1 #[.string a0_0, .int .i64 a0_1, .int .i64 a0_2] 85 ?_; intro gb284 hg w3 hbox hb; have BK284 := am (hbox); have GW284 := gsz hg HB.out; have GE284 := gsz hg HB.out; replace HB := am (below_step (bw HB.out) hb); clear hb hbox hg) | ((with_reducible refine gate_dst (N := 2) rfl ?_); refine bx 2 #[.string (⟨#[]⟩ : ByteArray), .int .i64 0, .int .i64 0] 85 ?_; intro gb285 hg w4 hbox hb; have BK285 := am (hbox); have GW285 := gsz hg HB.out; have GE285 := gsz hg HB.out; have NB284_285 := nlt (g := gb284) hg BK284.out; have NB285_284 := ngt (g := gb284) hg BK284.out; replace BK284 := bb BK284.out hb; replace HB := am (below_step (bws HB.out) hb); clear hb hbox hg; have hnb5 := NB284_285.out; have hnc5 := NB285_284.out; obtain ⟨hcz6_0, hcz6_1, hcz6_2, hfz6_0, hfz6_1, hfz6_2⟩ := cz3 BK284.out) | ((with_reducible refine gate_callee (f := 52) rfl ?_); refine goesL_ (some 14) rfl rfl Tryd.func52 (by kernel_rfl) rfl #[.agg #[.string a0_0, .int .i64 a0_1, .int .i64 a0_2], .int .i64 512] rfl gl ?_; (with_reducible refine (stowageref01_Reader_Int.calls k a0_0 a0_1 a0_2 512 t286 t287 t288 t289 _ A2.out).mono ?_); rintro e w7 ⟨rfl, hb⟩; refine ⟨_, rfl, ?_⟩; replace BK284 := bb BK284.out hb; replace BK285 := bb BK285.out hb; replace HB := am (below_step (bws HB.out) hb); (try clear hb)) | ((with_reducible refine gate_dst (N := 5) rfl ?_); refine bx 5 #[.string (⟨#[]⟩ : ByteArray), .int .i64 0, .int .i64 0] 85 ?_; intro gb290 hg w8 hbox hb; have BK290 := am (hbox); have GW290 := gsz hg HB.out; have GE290 := gsz hg HB.out; have NB284_290 := nlt (g := gb284) hg BK284.out; have NB290_284 := ngt (g := gb284) hg BK284.out; have NB285_290 := nlt (g := gb285) hg BK285.out; have NB290_285 := ngt (g := gb285) hg BK285.out; replace BK284 := bb BK284.out hb; replace BK285 := bb BK285.out hb; replace HB := am (below_step (bws HB.out) hb); clear hb hbox hg; have hnb9 := NB290_284.out; have hnc9 := NB284_290.out; have hnb10 := NB290_285.out; have hnc10 := NB285_290.out; obtain ⟨hcz11_0, hcz11_1, hcz11_2, hfz11_0, hfz11_1, hfz11_2⟩ := cz3 BK290.out))
 go_loopg [4, 7] k (fun kq v4 v7 w' => ∃ (x4_1 : List (S95)) (x7_1 : Int) (x291000_1 : ByteArray) (x291001_1 : Int) (x291002_1 : Int), v7 = .int .i64 x7_1 ∧ Aside0 (stowageref13_Read.l0 kq x4_1 t289 x7_1 x291000_1 x291001_1 x291002_1 = some (r1, r2, r3, r4)) ∧ Aside0 (kq ≤ k) ∧ Aside0 (Kd.R k95 95 w' w.heap.size (fun _ => True) v4 x4_1) ∧ Aside0 (w'.heap[gb284]? = some (.cells #[.string a0_0, .int .i64 a0_1, .int .i64 a0_2] 85 (0, 0))) ∧ Aside0 (w'.heap[gb285]? = some (.cells #[.string (⟨#[]⟩ : ByteArray), .int .i64 0, .int .i64 0] 85 (0, 0))) ∧ Aside0 (w'.heap[gb290]? = some (.cells #[.string x291000_1, .int .i64 x291001_1, .int .i64 x291002_1] 85 (0, 0))) ∧ Aside0 (Below w.heap.size w w'))
 case atStart => exact ⟨(([] : List (S95))), (0), (t286), (t287), (t288), rs, H', ⟨Nat.le_refl _⟩, ⟨niR⟩, ⟨bkf BK284.out⟩, ⟨bkf BK285.out⟩, ⟨bkp BK290.out⟩, ⟨bws HB.out⟩⟩
 case round =>
  clear H'
  try clear hcz11_0 hcz11_1 hcz11_2 hfz11_0 hfz11_1 hfz11_2
  try clear hcz6_0 hcz6_1 hcz6_2 hfz6_0 hfz6_1 hfz6_2
  obtain ⟨x4_1, x7_1, x291000_1, x291001_1, x291002_1, rfl, HA, HK1, HO_4, BK284, BK285, BK290, HB⟩ := hrel
  cases gk with
  | zero => exact absurd HA.out (by simp [stowageref13_Read.l0])
  | succ k1 =>
   have H := HA.out
   clear HA
   simp only [stowageref13_Read.l0] at H
   replace H := iteD H
   rcases H with ⟨c12b0, H⟩ | ⟨c12b0, H⟩
   ·
    replace H := obE H
    obtain ⟨⟨t291, t292, t293, t294⟩, A13, H⟩ := H
    try dsimp only at H
    replace H := obE H
    obtain ⟨⟨t296, t297, t298, t299⟩, A14, H⟩ := H
    try dsimp only at H
    by_cases c15 : x4_1.length < 5864062014805
    ·
     rw [if_pos c15] at H
     have LMc15 := am c15
     clear c15
     obtain ⟨y301, hy301⟩ : ∃ y_ : List (S95), y_ = (x4_1 ++ [(⟨t294, t299⟩ : S95)]) := ⟨_, rfl⟩
     replace H : (stowageref13_Read.l0 k1 y301 t289 (wrap64 (x7_1 + 1)) t296 t297 t298) = some (r1, r2, r3, r4) := by first | (rw [hy301]; with_reducible exact H) | (have H2_ := (Option.bind_some _ _).symm.trans H; rw [hy301]; with_reducible exact H2_) | (have H2_ := (Option.bind_some _ _).symm.trans H; with_reducible exact H2_) | with_reducible exact H | (rw [hy301]; exact H) | exact H
     have Ny301 := am hy301
     clear hy301
     have H' := am H
     clear H
     have hnb16 := NB290_284.out
     have hnc16 := NB284_290.out
     have hnb17 := NB290_285.out
     have hnc17 := NB285_290.out
     obtain ⟨hcz18_0, hcz18_1, hcz18_2, hfz18_0, hfz18_1, hfz18_2⟩ := cz3 BK290.out
     go_wp2_with (first | ((with_reducible refine gate_callee (f := 53) rfl ?_); refine goesL_ (some 24) rfl rfl Tryd.func53 (by kernel_rfl) rfl #[.agg #[.string x291000_1, .int .i64 x291001_1, .int .i64 x291002_1], .int .i64 64] rfl gl ?_; (with_reducible refine (stowageref01_Reader_Text.calls k1 x291000_1 x291001_1 x291002_1 64 t291 t292 t293 t294 _ A13.out).mono ?_); rintro e w19 ⟨rfl, hb⟩; refine ⟨_, rfl, ?_⟩; replace HO_4 := am (Kd.R_below (kR HO_4.out) hb); replace BK284 := bb BK284.out hb; replace BK285 := bb BK285.out hb; replace BK290 := bb BK290.out hb; replace HB := am (below_step (bws HB.out) hb); (try clear hb)) | ((with_reducible refine gate_dst (N := 8) rfl ?_); refine bx 8 #[.string (⟨#[]⟩ : ByteArray), .int .i64 0, .int .i64 0] 85 ?_; intro gb295 hg w20 hbox hb; have BK295 := am (hbox); have GW295 := gsz hg HB.out; have GE295 := gsz hg HB.out; have NB284_295 := nlt (g := gb284) hg BK284.out; have NB295_284 := ngt (g := gb284) hg BK284.out; have NB285_295 := nlt (g := gb285) hg BK285.out; have NB295_285 := ngt (g := gb285) hg BK285.out; have NB290_295 := nlt (g := gb290) hg BK290.out; have NB295_290 := ngt (g := gb290) hg BK290.out; replace HO_4 := am (Kd.R_below (kR HO_4.out) hb); replace BK284 := bb BK284.out hb; replace BK285 := bb BK285.out hb; replace BK290 := bb BK290.out hb; replace HB := am (below_step (bws HB.out) hb); clear hb hbox hg; have hnb21 := NB295_284.out; have hnc21 := NB284_295.out; have hnb22 := NB295_285.out; have hnc22 := NB285_295.out; have hnb23 := NB295_290.out; have hnc23 := NB290_295.out; obtain ⟨hcz24_0, hcz24_1, hcz24_2, hfz24_0, hfz24_1, hfz24_2⟩ := cz3 BK295.out) | ((with_reducible refine gate_callee (f := 52) rfl ?_); refine goesL_ (some 29) rfl rfl Tryd.func52 (by kernel_rfl) rfl #[.agg #[.string t291, .int .i64 t292, .int .i64 t293], .int .i64 4096] rfl gl ?_; (with_reducible refine (stowageref01_Reader_Int.calls k1 t291 t292 t293 4096 t296 t297 t298 t299 _ A14.out).mono ?_); rintro e w25 ⟨rfl, hb⟩; refine ⟨_, rfl, ?_⟩; replace HO_4 := am (Kd.R_below (by (with_reducible repeat (first | apply Kd.R_alloc | apply Kd.R_drewN | apply Kd.R_drew)); exact (Kd.R_mono (Kd.R_far (p := ⟨gb295, 2, none⟩) (Kd.R_far (p := ⟨gb295, 1, none⟩) (Kd.R_far (p := ⟨gb295, 0, none⟩) (Kd.R_types HO_4.out BK295.out (by decide)) (fun _ hk => hk.2) (.string t291)) (fun _ hk => hk.2) (.int .i64 t292)) (fun _ hk => hk.2) (.int .i64 t293)) (fun _ h_ => h_.1))) hb); replace BK284 := am (blk_below (g := gb284) (o := .cells #[.string a0_0, .int .i64 a0_1, .int .i64 a0_2] 85 (0, 0)) (bkf BK284.out) hb); replace BK285 := am (blk_below (g := gb285) (o := .cells #[.string (⟨#[]⟩ : ByteArray), .int .i64 0, .int .i64 0] 85 (0, 0)) (bkf BK285.out) hb); replace BK290 := am (blk_below (g := gb290) (o := .cells #[.string x291000_1, .int .i64 x291001_1, .int .i64 x291002_1] 85 (0, 0)) (bkf BK290.out) hb); replace BK295 := am (blk_below (g := gb295) (o := .cells #[.string t291, .int .i64 t292, .int .i64 t293] 85 (0, 0)) (bkp BK295.out) hb); replace HB := am (below_step (bws HB.out) hb); (try clear hb)) | ((with_reducible refine gate_dst (N := 10) rfl ?_); refine bx 10 #[.string (⟨#[]⟩ : ByteArray), .int .i64 0, .int .i64 0] 85 ?_; intro gb300 hg w26 hbox hb; have BK300 := am (hbox); have GW300 := gsz hg HB.out; have GE300 := gsz hg HB.out; have NB284_300 := nlt (g := gb284) hg BK284.out; have NB300_284 := ngt (g := gb284) hg BK284.out; have NB285_300 := nlt (g := gb285) hg BK285.out; have NB300_285 := ngt (g := gb285) hg BK285.out; have NB290_300 := nlt (g := gb290) hg BK290.out; have NB300_290 := ngt (g := gb290) hg BK290.out; have NB295_300 := nlt (g := gb295) hg BK295.out; have NB300_295 := ngt (g := gb295) hg BK295.out; replace HO_4 := am (Kd.R_below (kR HO_4.out) hb); replace BK284 := bb BK284.out hb; replace BK285 := bb BK285.out hb; replace BK290 := bb BK290.out hb; replace BK295 := bb BK295.out hb; replace HB := am (below_step (bws HB.out) hb); clear hb hbox hg; have hnb27 := NB300_284.out; have hnc27 := NB284_300.out; have hnb28 := NB300_285.out; have hnc28 := NB285_300.out; have hnb29 := NB300_290.out; have hnc29 := NB290_300.out; have hnb30 := NB300_295.out; have hnc30 := NB295_300.out; obtain ⟨hcz31_0, hcz31_1, hcz31_2, hfz31_0, hfz31_1, hfz31_2⟩ := cz3 BK300.out; obtain ⟨hcz32_0, hcz32_1, hcz32_2, hfz32_0, hfz32_1, hfz32_2⟩ := cz3 BK290.out) | ((with_reducible refine gate_builtin (b := .append) (xs := #[.tmp 33, .tmp 37]) rfl ?_); at_builtin; refine Kd.R_append k95 (w0 := w) w.heap.size rfl (.tmp 33) (.tmp 37) 31 95 (.agg #[(.string ⟨#[]⟩), (.int .i64 0)]) 24 rfl Tryd.underlying31 info95 rfl (by decide) (by omega) u4 x4_1 (⟨t294, t299⟩ : S95) [.string t294, .int .i64 t299] (fun _ => True) (fun _ => False) rfl (by first | (go_simp; done) | (go_simp; rfl)) ?aP (fun _ hk => hk.elim) ?aF ?aO ?aB ?aS ?aL ?_; (case aP => exact k95_mkM _ _ _ (⟨t294, t299⟩ : S95)); (case aB => exact (bws HB.out)); (case aF => exact (fun _ _ => trivial)); (case aO => exact (by (with_reducible repeat (first | apply Kd.R_alloc | apply Kd.R_drewN | apply Kd.R_drew)); exact Kd.R_mono (Kd.R_far (p := ⟨gb290, 2, none⟩) (Kd.R_far (p := ⟨gb290, 1, none⟩) (Kd.R_far (p := ⟨gb290, 0, none⟩) (Kd.R_far (p := ⟨gb300, 2, none⟩) (Kd.R_far (p := ⟨gb300, 1, none⟩) (Kd.R_far (p := ⟨gb300, 0, none⟩) (Kd.R_types (Kd.R_types HO_4.out BK300.out (by decide)) BK290.out (by decide)) (fun _ hk => hk.1.2) (.string t296)) (fun _ hk => hk.1.2) (.int .i64 t297)) (fun _ hk => hk.1.2) (.int .i64 t298)) (fun _ hk => hk.2) (.string t296)) (fun _ hk => hk.2) (.int .i64 t297)) (fun _ hk => hk.2) (.int .i64 t298)) (fun _ hk => trivial))); (case aS => exact (below_size (bws HB.out))); (case aL => have := LMc15.out; omega); intro v302 w33 ho hb hg hat; rw [← Ny301.out] at ho; have n0_ := am (blk_grown (g := gb284) (o := .cells #[.string a0_0, .int .i64 a0_1, .int .i64 a0_2] 85 (0, 0)) (bkf BK284.out) hg (Kd.R_ne HO_4.out BK284.out (by decide))); have n1_ := am (blk_grown (g := gb285) (o := .cells #[.string (⟨#[]⟩ : ByteArray), .int .i64 0, .int .i64 0] 85 (0, 0)) (bkf BK285.out) hg (Kd.R_ne HO_4.out BK285.out (by decide))); have n2_ := am (blk_grown (g := gb290) (o := .cells #[.string t296, .int .i64 t297, .int .i64 t298] 85 (0, 0)) (bkf BK290.out) hg (Kd.R_ne HO_4.out BK290.out (by decide))); have n3_ := am (blk_grown (g := gb295) (o := .cells #[.string t291, .int .i64 t292, .int .i64 t293] 85 (0, 0)) (bkf BK295.out) hg (Kd.R_ne HO_4.out BK295.out (by decide))); have n4_ := am (blk_grown (g := gb300) (o := .cells #[.string t296, .int .i64 t297, .int .i64 t298] 85 (0, 0)) (bkf BK300.out) hg (Kd.R_ne HO_4.out BK300.out (by decide))); have n5_ := am (hb); have n6_ := am (ho); clear BK284; clear BK285; clear BK290; clear BK295; clear BK300; clear HB; clear HO_4; have BK284 := n0_; have BK285 := n1_; have BK290 := n2_; have BK295 := n3_; have BK300 := n4_; have HB := n5_; have HO303 := n6_; clear n0_ n1_ n2_ n3_ n4_ n5_ n6_; clear ho hb hg hat))
     go_roundg k1
     case measure => have := HK1.out; omega
     case rel => exact ⟨(y301), (wrap64 (x7_1 + 1)), (t296), (t297), (t298), rs, H', ⟨by have := HK1.out; omega⟩, ⟨kR HO303.out⟩, ⟨bk BK284.out⟩, ⟨bk BK285.out⟩, ⟨bk BK290.out⟩, ⟨bws HB.out⟩⟩
    ·
     rw [if_neg c15] at H
     exact absurd H (by simp)
   ·
    simp only [Option.some.injEq, Prod.mk.injEq] at H
    obtain ⟨rfl, rfl, rfl, rfl⟩ := H
    have hnb34 := NB290_284.out
    have hnc34 := NB284_290.out
    have hnb35 := NB290_285.out
    have hnc35 := NB285_290.out
    obtain ⟨hcz36_0, hcz36_1, hcz36_2, hfz36_0, hfz36_1, hfz36_2⟩ := cz3 BK290.out
    have hnb37 := NB285_284.out
    have hnc37 := NB284_285.out
    obtain ⟨hcz38_0, hcz38_1, hcz38_2, hfz38_0, hfz38_1, hfz38_2⟩ := cz3 BK285.out
    go_wp2
    refine bodyPost_ret (results_ct rfl _ _ gb285 85 #[.string x291000_1, .int .i64 x291001_1, .int .i64 x291002_1] (0, 0) _ rfl (bkp BK285.out) Tryd.underlying85 rfl (by kernel_rfl)) rfl ?_
    exact ⟨_, rf, by (with_reducible repeat (first | apply Kd.R_alloc | apply Kd.R_drewN | apply Kd.R_drew)); exact Kd.R_mono (Kd.R_far (p := ⟨gb285, 2, none⟩) (Kd.R_far (p := ⟨gb285, 1, none⟩) (Kd.R_far (p := ⟨gb285, 0, none⟩) (Kd.R_types HO_4.out BK285.out (by decide)) (fun _ hk => hk.2) (.string x291000_1)) (fun _ hk => hk.2) (.int .i64 x291001_1)) (fun _ hk => hk.2) (.int .i64 x291002_1)) (fun _ hk => trivial), bws HB.out⟩
end Go.Proofs.YtdidopoalmkhlaaDoor.Or
end
section
namespace Go.Proofs.YtdidopoalmkhlaaDoor.Or
open Go.RowKit Go.Proofs.YtdidopoalmkhlaaDoorW.PrintWords Go.Proofs.YtdidopoalmkhlaaDoorW.PrintLast Go.Proofs.YtdidopoalmkhlaaDoorW.PrintMore
attribute [local go_sem] max2_int min2_int max_two min_two max_three min_three max_four min_four
set_option linter.unusedVariables false
set_option linter.unusedSimpArgs false
def stowageref16_picks.l0 : Nat → List (S61) → Int → Int → ByteArray → Int → Int → Option (ByteArray × Int × Int × (List (S61)))
 | 0, _, _, _, _, _, _ => none
 | k + 1, x4, x6, x7, x311000, x311001, x311002 => if x7 < x6 then ((stowageref01_Reader_Int.f k x311000 x311001 x311002 100).bind fun bt311 => ((stowageref01_Reader_Text.f k bt311.1 bt311.2.1 bt311.2.2.1 64).bind fun bt316 => (if x4.length < 5864062014805 then (stowageref16_picks.l0 k (x4 ++ [(⟨bt311.2.2.2, bt316.2.2.2⟩ : S61)]) x6 (wrap64 (x7 + 1)) bt316.1 bt316.2.1 bt316.2.2.1) else (none)))) else (some (x311000, x311001, x311002, x4))
def stowageref16_picks.f (k : Nat) (a0_0 : ByteArray) (a0_1 : Int) (a0_2 : Int) : Option (ByteArray × Int × Int × (List (S61))) := (stowageref01_Reader_Int.f k a0_0 a0_1 a0_2 100).bind fun bt306 => (stowageref16_picks.l0 k ([] : List (S61)) bt306.2.2.2 0 bt306.1 bt306.2.1 bt306.2.2.1)
theorem stowageref16_picks.mono_l : ∀ k, (∀ y0 y1 y2 y3 y4 y5, LeO (stowageref16_picks.l0 k y0 y1 y2 y3 y4 y5) (stowageref16_picks.l0 (k + 1) y0 y1 y2 y3 y4 y5))
 | 0 => fun _ _ _ _ _ _ r h => by simp [stowageref16_picks.l0] at h
 | k + 1 => by
  have ih0 := stowageref16_picks.mono_l k
  ·
   intro y0 y1 y2 y3 y4 y5
   unfold stowageref16_picks.l0
   repeat' (with_reducible first | exact ih0 _ _ _ _ _ _ | exact stowageref01_Reader_Int.mono _ _ _ _ _ | exact stowageref01_Reader_Text.mono _ _ _ _ _ | exact LeO.refl _ | exact LeO.none _ | refine LeO.ite ?_ ?_ | refine LeO.bind ?_ (fun _ => ?_))
theorem stowageref16_picks.mono : ∀ a0 a1 a2 k, LeO (stowageref16_picks.f k a0 a1 a2) (stowageref16_picks.f (k + 1) a0 a1 a2) := by
 intro a0 a1 a2 k
 have ih0 := stowageref16_picks.mono_l k
 unfold stowageref16_picks.f
 repeat' (with_reducible first | exact ih0 _ _ _ _ _ _ | exact stowageref01_Reader_Int.mono _ _ _ _ _ | exact stowageref01_Reader_Text.mono _ _ _ _ _ | exact LeO.refl _ | exact LeO.none _ | refine LeO.ite ?_ ?_ | refine LeO.bind ?_ (fun _ => ?_))
set_option maxHeartbeats 8000000 in
set_option maxRecDepth 100000 in
theorem stowageref16_picks.calls (k : Nat) (a0_0 : ByteArray) (a0_1 : Int) (a0_2 : Int) (r1 : ByteArray) (r2 : Int) (r3 : Int) (r4 : List (S61)) (w : World) (h : stowageref16_picks.f k a0_0 a0_1 a0_2 = some (r1, r2, r3, r4)) :
  Calls Tryd.prog 55 #[.agg #[.string a0_0, .int .i64 a0_1, .int .i64 a0_2]] w fun e w' => ∃ v3_ : Value, e = .returned (.tuple #[.agg #[.string r1, .int .i64 r2, .int .i64 r3], v3_]) ∧ Kd.R k61 61 w' w.heap.size (fun _ => True) v3_ r4 ∧ Below w.heap.size w w' := by
 have hu85 := Tryd.underlying85
 have hu61 := Tryd.underlying61
 have HB := am (Below.refl w.heap.size w)
 have H := h
 clear h
 unfold stowageref16_picks.f at H
 replace H := obE H
 obtain ⟨⟨t306, t307, t308, t309⟩, A2, H⟩ := H
 try dsimp only at H
 have H' := am H
 clear H
 go_enter Tryd.func55, Tryd.ntmps55
 go_wp2_with (first | ((with_reducible refine gate_dst (N := 1) rfl ?_); refine bx 1 #[.string a0_0, .int .i64 a0_1, .int .i64 a0_2] 85 ?_; intro gb304 hg w3 hbox hb; have BK304 := am (hbox); have GW304 := gsz hg HB.out; have GE304 := gsz hg HB.out; replace HB := am (below_step (bw HB.out) hb); clear hb hbox hg) | ((with_reducible refine gate_dst (N := 2) rfl ?_); refine bx 2 #[.string (⟨#[]⟩ : ByteArray), .int .i64 0, .int .i64 0] 85 ?_; intro gb305 hg w4 hbox hb; have BK305 := am (hbox); have GW305 := gsz hg HB.out; have GE305 := gsz hg HB.out; have NB304_305 := nlt (g := gb304) hg BK304.out; have NB305_304 := ngt (g := gb304) hg BK304.out; replace BK304 := bb BK304.out hb; replace HB := am (below_step (bws HB.out) hb); clear hb hbox hg; have hnb5 := NB304_305.out; have hnc5 := NB305_304.out; obtain ⟨hcz6_0, hcz6_1, hcz6_2, hfz6_0, hfz6_1, hfz6_2⟩ := cz3 BK304.out) | ((with_reducible refine gate_callee (f := 52) rfl ?_); refine goesL_ (some 14) rfl rfl Tryd.func52 (by kernel_rfl) rfl #[.agg #[.string a0_0, .int .i64 a0_1, .int .i64 a0_2], .int .i64 100] rfl gl ?_; (with_reducible refine (stowageref01_Reader_Int.calls k a0_0 a0_1 a0_2 100 t306 t307 t308 t309 _ A2.out).mono ?_); rintro e w7 ⟨rfl, hb⟩; refine ⟨_, rfl, ?_⟩; replace BK304 := bb BK304.out hb; replace BK305 := bb BK305.out hb; replace HB := am (below_step (bws HB.out) hb); (try clear hb)) | ((with_reducible refine gate_dst (N := 5) rfl ?_); refine bx 5 #[.string (⟨#[]⟩ : ByteArray), .int .i64 0, .int .i64 0] 85 ?_; intro gb310 hg w8 hbox hb; have BK310 := am (hbox); have GW310 := gsz hg HB.out; have GE310 := gsz hg HB.out; have NB304_310 := nlt (g := gb304) hg BK304.out; have NB310_304 := ngt (g := gb304) hg BK304.out; have NB305_310 := nlt (g := gb305) hg BK305.out; have NB310_305 := ngt (g := gb305) hg BK305.out; replace BK304 := bb BK304.out hb; replace BK305 := bb BK305.out hb; replace HB := am (below_step (bws HB.out) hb); clear hb hbox hg; have hnb9 := NB310_304.out; have hnc9 := NB304_310.out; have hnb10 := NB310_305.out; have hnc10 := NB305_310.out; obtain ⟨hcz11_0, hcz11_1, hcz11_2, hfz11_0, hfz11_1, hfz11_2⟩ := cz3 BK310.out))
 go_loopg [4, 7] k (fun kq v4 v7 w' => ∃ (x4_1 : List (S61)) (x7_1 : Int) (x311000_1 : ByteArray) (x311001_1 : Int) (x311002_1 : Int), v7 = .int .i64 x7_1 ∧ Aside0 (stowageref16_picks.l0 kq x4_1 t309 x7_1 x311000_1 x311001_1 x311002_1 = some (r1, r2, r3, r4)) ∧ Aside0 (kq ≤ k) ∧ Aside0 (Kd.R k61 61 w' w.heap.size (fun _ => True) v4 x4_1) ∧ Aside0 (w'.heap[gb304]? = some (.cells #[.string a0_0, .int .i64 a0_1, .int .i64 a0_2] 85 (0, 0))) ∧ Aside0 (w'.heap[gb305]? = some (.cells #[.string (⟨#[]⟩ : ByteArray), .int .i64 0, .int .i64 0] 85 (0, 0))) ∧ Aside0 (w'.heap[gb310]? = some (.cells #[.string x311000_1, .int .i64 x311001_1, .int .i64 x311002_1] 85 (0, 0))) ∧ Aside0 (Below w.heap.size w w'))
 case atStart => exact ⟨(([] : List (S61))), (0), (t306), (t307), (t308), rs, H', ⟨Nat.le_refl _⟩, ⟨niR⟩, ⟨bkf BK304.out⟩, ⟨bkf BK305.out⟩, ⟨bkp BK310.out⟩, ⟨bws HB.out⟩⟩
 case round =>
  clear H'
  try clear hcz11_0 hcz11_1 hcz11_2 hfz11_0 hfz11_1 hfz11_2
  try clear hcz6_0 hcz6_1 hcz6_2 hfz6_0 hfz6_1 hfz6_2
  obtain ⟨x4_1, x7_1, x311000_1, x311001_1, x311002_1, rfl, HA, HK1, HO_4, BK304, BK305, BK310, HB⟩ := hrel
  cases gk with
  | zero => exact absurd HA.out (by simp [stowageref16_picks.l0])
  | succ k1 =>
   have H := HA.out
   clear HA
   simp only [stowageref16_picks.l0] at H
   replace H := iteD H
   rcases H with ⟨c12b0, H⟩ | ⟨c12b0, H⟩
   ·
    replace H := obE H
    obtain ⟨⟨t311, t312, t313, t314⟩, A13, H⟩ := H
    try dsimp only at H
    replace H := obE H
    obtain ⟨⟨t316, t317, t318, t319⟩, A14, H⟩ := H
    try dsimp only at H
    by_cases c15 : x4_1.length < 5864062014805
    ·
     rw [if_pos c15] at H
     have LMc15 := am c15
     clear c15
     obtain ⟨y321, hy321⟩ : ∃ y_ : List (S61), y_ = (x4_1 ++ [(⟨t314, t319⟩ : S61)]) := ⟨_, rfl⟩
     replace H : (stowageref16_picks.l0 k1 y321 t309 (wrap64 (x7_1 + 1)) t316 t317 t318) = some (r1, r2, r3, r4) := by first | (rw [hy321]; with_reducible exact H) | (have H2_ := (Option.bind_some _ _).symm.trans H; rw [hy321]; with_reducible exact H2_) | (have H2_ := (Option.bind_some _ _).symm.trans H; with_reducible exact H2_) | with_reducible exact H | (rw [hy321]; exact H) | exact H
     have Ny321 := am hy321
     clear hy321
     have H' := am H
     clear H
     have hnb16 := NB310_304.out
     have hnc16 := NB304_310.out
     have hnb17 := NB310_305.out
     have hnc17 := NB305_310.out
     obtain ⟨hcz18_0, hcz18_1, hcz18_2, hfz18_0, hfz18_1, hfz18_2⟩ := cz3 BK310.out
     go_wp2_with (first | ((with_reducible refine gate_callee (f := 52) rfl ?_); refine goesL_ (some 24) rfl rfl Tryd.func52 (by kernel_rfl) rfl #[.agg #[.string x311000_1, .int .i64 x311001_1, .int .i64 x311002_1], .int .i64 100] rfl gl ?_; (with_reducible refine (stowageref01_Reader_Int.calls k1 x311000_1 x311001_1 x311002_1 100 t311 t312 t313 t314 _ A13.out).mono ?_); rintro e w19 ⟨rfl, hb⟩; refine ⟨_, rfl, ?_⟩; replace HO_4 := am (Kd.R_below (kR HO_4.out) hb); replace BK304 := bb BK304.out hb; replace BK305 := bb BK305.out hb; replace BK310 := bb BK310.out hb; replace HB := am (below_step (bws HB.out) hb); (try clear hb)) | ((with_reducible refine gate_dst (N := 8) rfl ?_); refine bx 8 #[.string (⟨#[]⟩ : ByteArray), .int .i64 0, .int .i64 0] 85 ?_; intro gb315 hg w20 hbox hb; have BK315 := am (hbox); have GW315 := gsz hg HB.out; have GE315 := gsz hg HB.out; have NB304_315 := nlt (g := gb304) hg BK304.out; have NB315_304 := ngt (g := gb304) hg BK304.out; have NB305_315 := nlt (g := gb305) hg BK305.out; have NB315_305 := ngt (g := gb305) hg BK305.out; have NB310_315 := nlt (g := gb310) hg BK310.out; have NB315_310 := ngt (g := gb310) hg BK310.out; replace HO_4 := am (Kd.R_below (kR HO_4.out) hb); replace BK304 := bb BK304.out hb; replace BK305 := bb BK305.out hb; replace BK310 := bb BK310.out hb; replace HB := am (below_step (bws HB.out) hb); clear hb hbox hg; have hnb21 := NB315_304.out; have hnc21 := NB304_315.out; have hnb22 := NB315_305.out; have hnc22 := NB305_315.out; have hnb23 := NB315_310.out; have hnc23 := NB310_315.out; obtain ⟨hcz24_0, hcz24_1, hcz24_2, hfz24_0, hfz24_1, hfz24_2⟩ := cz3 BK315.out) | ((with_reducible refine gate_callee (f := 53) rfl ?_); refine goesL_ (some 29) rfl rfl Tryd.func53 (by kernel_rfl) rfl #[.agg #[.string t311, .int .i64 t312, .int .i64 t313], .int .i64 64] rfl gl ?_; (with_reducible refine (stowageref01_Reader_Text.calls k1 t311 t312 t313 64 t316 t317 t318 t319 _ A14.out).mono ?_); rintro e w25 ⟨rfl, hb⟩; refine ⟨_, rfl, ?_⟩; replace HO_4 := am (Kd.R_below (by (with_reducible repeat (first | apply Kd.R_alloc | apply Kd.R_drewN | apply Kd.R_drew)); exact (Kd.R_mono (Kd.R_far (p := ⟨gb315, 2, none⟩) (Kd.R_far (p := ⟨gb315, 1, none⟩) (Kd.R_far (p := ⟨gb315, 0, none⟩) (Kd.R_types HO_4.out BK315.out (by decide)) (fun _ hk => hk.2) (.string t311)) (fun _ hk => hk.2) (.int .i64 t312)) (fun _ hk => hk.2) (.int .i64 t313)) (fun _ h_ => h_.1))) hb); replace BK304 := am (blk_below (g := gb304) (o := .cells #[.string a0_0, .int .i64 a0_1, .int .i64 a0_2] 85 (0, 0)) (bkf BK304.out) hb); replace BK305 := am (blk_below (g := gb305) (o := .cells #[.string (⟨#[]⟩ : ByteArray), .int .i64 0, .int .i64 0] 85 (0, 0)) (bkf BK305.out) hb); replace BK310 := am (blk_below (g := gb310) (o := .cells #[.string x311000_1, .int .i64 x311001_1, .int .i64 x311002_1] 85 (0, 0)) (bkf BK310.out) hb); replace BK315 := am (blk_below (g := gb315) (o := .cells #[.string t311, .int .i64 t312, .int .i64 t313] 85 (0, 0)) (bkp BK315.out) hb); replace HB := am (below_step (bws HB.out) hb); (try clear hb)) | ((with_reducible refine gate_dst (N := 10) rfl ?_); refine bx 10 #[.string (⟨#[]⟩ : ByteArray), .int .i64 0, .int .i64 0] 85 ?_; intro gb320 hg w26 hbox hb; have BK320 := am (hbox); have GW320 := gsz hg HB.out; have GE320 := gsz hg HB.out; have NB304_320 := nlt (g := gb304) hg BK304.out; have NB320_304 := ngt (g := gb304) hg BK304.out; have NB305_320 := nlt (g := gb305) hg BK305.out; have NB320_305 := ngt (g := gb305) hg BK305.out; have NB310_320 := nlt (g := gb310) hg BK310.out; have NB320_310 := ngt (g := gb310) hg BK310.out; have NB315_320 := nlt (g := gb315) hg BK315.out; have NB320_315 := ngt (g := gb315) hg BK315.out; replace HO_4 := am (Kd.R_below (kR HO_4.out) hb); replace BK304 := bb BK304.out hb; replace BK305 := bb BK305.out hb; replace BK310 := bb BK310.out hb; replace BK315 := bb BK315.out hb; replace HB := am (below_step (bws HB.out) hb); clear hb hbox hg; have hnb27 := NB320_304.out; have hnc27 := NB304_320.out; have hnb28 := NB320_305.out; have hnc28 := NB305_320.out; have hnb29 := NB320_310.out; have hnc29 := NB310_320.out; have hnb30 := NB320_315.out; have hnc30 := NB315_320.out; obtain ⟨hcz31_0, hcz31_1, hcz31_2, hfz31_0, hfz31_1, hfz31_2⟩ := cz3 BK320.out; obtain ⟨hcz32_0, hcz32_1, hcz32_2, hfz32_0, hfz32_1, hfz32_2⟩ := cz3 BK310.out) | ((with_reducible refine gate_builtin (b := .append) (xs := #[.tmp 33, .tmp 37]) rfl ?_); at_builtin; refine Kd.R_append k61 (w0 := w) w.heap.size rfl (.tmp 33) (.tmp 37) 32 61 (.agg #[(.int .i64 0), (.string ⟨#[]⟩)]) 24 rfl Tryd.underlying32 info61 rfl (by decide) (by omega) u4 x4_1 (⟨t314, t319⟩ : S61) [.int .i64 t314, .string t319] (fun _ => True) (fun _ => False) rfl (by first | (go_simp; done) | (go_simp; rfl)) ?aP (fun _ hk => hk.elim) ?aF ?aO ?aB ?aS ?aL ?_; (case aP => exact k61_mkM _ _ _ (⟨t314, t319⟩ : S61)); (case aB => exact (bws HB.out)); (case aF => exact (fun _ _ => trivial)); (case aO => exact (by (with_reducible repeat (first | apply Kd.R_alloc | apply Kd.R_drewN | apply Kd.R_drew)); exact Kd.R_mono (Kd.R_far (p := ⟨gb310, 2, none⟩) (Kd.R_far (p := ⟨gb310, 1, none⟩) (Kd.R_far (p := ⟨gb310, 0, none⟩) (Kd.R_far (p := ⟨gb320, 2, none⟩) (Kd.R_far (p := ⟨gb320, 1, none⟩) (Kd.R_far (p := ⟨gb320, 0, none⟩) (Kd.R_types (Kd.R_types HO_4.out BK320.out (by decide)) BK310.out (by decide)) (fun _ hk => hk.1.2) (.string t316)) (fun _ hk => hk.1.2) (.int .i64 t317)) (fun _ hk => hk.1.2) (.int .i64 t318)) (fun _ hk => hk.2) (.string t316)) (fun _ hk => hk.2) (.int .i64 t317)) (fun _ hk => hk.2) (.int .i64 t318)) (fun _ hk => trivial))); (case aS => exact (below_size (bws HB.out))); (case aL => have := LMc15.out; omega); intro v322 w33 ho hb hg hat; rw [← Ny321.out] at ho; have n0_ := am (blk_grown (g := gb304) (o := .cells #[.string a0_0, .int .i64 a0_1, .int .i64 a0_2] 85 (0, 0)) (bkf BK304.out) hg (Kd.R_ne HO_4.out BK304.out (by decide))); have n1_ := am (blk_grown (g := gb305) (o := .cells #[.string (⟨#[]⟩ : ByteArray), .int .i64 0, .int .i64 0] 85 (0, 0)) (bkf BK305.out) hg (Kd.R_ne HO_4.out BK305.out (by decide))); have n2_ := am (blk_grown (g := gb310) (o := .cells #[.string t316, .int .i64 t317, .int .i64 t318] 85 (0, 0)) (bkf BK310.out) hg (Kd.R_ne HO_4.out BK310.out (by decide))); have n3_ := am (blk_grown (g := gb315) (o := .cells #[.string t311, .int .i64 t312, .int .i64 t313] 85 (0, 0)) (bkf BK315.out) hg (Kd.R_ne HO_4.out BK315.out (by decide))); have n4_ := am (blk_grown (g := gb320) (o := .cells #[.string t316, .int .i64 t317, .int .i64 t318] 85 (0, 0)) (bkf BK320.out) hg (Kd.R_ne HO_4.out BK320.out (by decide))); have n5_ := am (hb); have n6_ := am (ho); clear BK304; clear BK305; clear BK310; clear BK315; clear BK320; clear HB; clear HO_4; have BK304 := n0_; have BK305 := n1_; have BK310 := n2_; have BK315 := n3_; have BK320 := n4_; have HB := n5_; have HO323 := n6_; clear n0_ n1_ n2_ n3_ n4_ n5_ n6_; clear ho hb hg hat))
     go_roundg k1
     case measure => have := HK1.out; omega
     case rel => exact ⟨(y321), (wrap64 (x7_1 + 1)), (t316), (t317), (t318), rs, H', ⟨by have := HK1.out; omega⟩, ⟨kR HO323.out⟩, ⟨bk BK304.out⟩, ⟨bk BK305.out⟩, ⟨bk BK310.out⟩, ⟨bws HB.out⟩⟩
    ·
     rw [if_neg c15] at H
     exact absurd H (by simp)
   ·
    simp only [Option.some.injEq, Prod.mk.injEq] at H
    obtain ⟨rfl, rfl, rfl, rfl⟩ := H
    have hnb34 := NB310_304.out
    have hnc34 := NB304_310.out
    have hnb35 := NB310_305.out
    have hnc35 := NB305_310.out
    obtain ⟨hcz36_0, hcz36_1, hcz36_2, hfz36_0, hfz36_1, hfz36_2⟩ := cz3 BK310.out
    have hnb37 := NB305_304.out
    have hnc37 := NB304_305.out
    obtain ⟨hcz38_0, hcz38_1, hcz38_2, hfz38_0, hfz38_1, hfz38_2⟩ := cz3 BK305.out
    go_wp2
    refine bodyPost_ret (results_ct rfl _ _ gb305 85 #[.string x311000_1, .int .i64 x311001_1, .int .i64 x311002_1] (0, 0) _ rfl (bkp BK305.out) Tryd.underlying85 rfl (by kernel_rfl)) rfl ?_
    exact ⟨_, rf, by (with_reducible repeat (first | apply Kd.R_alloc | apply Kd.R_drewN | apply Kd.R_drew)); exact Kd.R_mono (Kd.R_far (p := ⟨gb305, 2, none⟩) (Kd.R_far (p := ⟨gb305, 1, none⟩) (Kd.R_far (p := ⟨gb305, 0, none⟩) (Kd.R_types HO_4.out BK305.out (by decide)) (fun _ hk => hk.2) (.string x311000_1)) (fun _ hk => hk.2) (.int .i64 x311001_1)) (fun _ hk => hk.2) (.int .i64 x311002_1)) (fun _ hk => trivial), bws HB.out⟩
def stowageref01_Reader_End.f (a0_0 : ByteArray) (a0_1 : Int) (a0_2 : Int) : Option (ByteArray × Int × Int) := if a0_2 = 0 then (if a0_1 < (a0_0.size : Int) then (some (a0_0, a0_1, 2)) else (some (a0_0, a0_1, a0_2))) else (some (a0_0, a0_1, a0_2))
set_option maxHeartbeats 8000000 in
set_option maxRecDepth 100000 in
theorem stowageref01_Reader_End.calls (a0_0 : ByteArray) (a0_1 : Int) (a0_2 : Int) (r1 : ByteArray) (r2 : Int) (r3 : Int) (w : World) (h : stowageref01_Reader_End.f a0_0 a0_1 a0_2 = some (r1, r2, r3)) :
  Calls Tryd.prog 56 #[.agg #[.string a0_0, .int .i64 a0_1, .int .i64 a0_2]] w fun e w' => e = .returned (.agg #[.string r1, .int .i64 r2, .int .i64 r3]) ∧ Below w.heap.size w w' := by
 have hu85 := Tryd.underlying85
 have HB := am (Below.refl w.heap.size w)
 have H := h
 clear h
 unfold stowageref01_Reader_End.f at H
 by_cases c2 : a0_2 = 0
 ·
  rw [if_pos c2] at H
  have c2b0 := beq_iff_eq.mpr c2
  have c2b1 := bne_eq_false_iff_eq.mpr c2
  clear c2
  replace H := iteD H
  rcases H with ⟨c3b0, H⟩ | ⟨c3b0, H⟩
  ·
   simp only [Option.some.injEq, Prod.mk.injEq] at H
   obtain ⟨rfl, rfl, rfl⟩ := H
   go_enter Tryd.func56, Tryd.ntmps56
   go_wp2_with (first | ((with_reducible refine gate_dst (N := 1) rfl ?_); (try (refine gate_guard (by rfl) ?_; dsimp only)); refine bx 1 #[.string a0_0, .int .i64 a0_1, .int .i64 a0_2] 85 ?_; intro gb324 hg w4 hbox hb; have BK324 := am (hbox); have GW324 := gsz hg HB.out; have GE324 := gsz hg HB.out; replace HB := am (below_step (bw HB.out) hb); clear hb hbox hg) | ((with_reducible refine gate_dst (N := 2) rfl ?_); (try (refine gate_guard (by rfl) ?_; dsimp only)); refine bx 2 #[.string (⟨#[]⟩ : ByteArray), .int .i64 0, .int .i64 0] 85 ?_; intro gb325 hg w5 hbox hb; have BK325 := am (hbox); have GW325 := gsz hg HB.out; have GE325 := gsz hg HB.out; have NB324_325 := nlt (g := gb324) hg BK324.out; have NB325_324 := ngt (g := gb324) hg BK324.out; replace BK324 := bb BK324.out hb; replace HB := am (below_step (bws HB.out) hb); clear hb hbox hg; have hnb6 := NB324_325.out; have hnc6 := NB325_324.out; obtain ⟨hcz7_0, hcz7_1, hcz7_2, hfz7_0, hfz7_1, hfz7_2⟩ := cz3 BK324.out; obtain ⟨hcz8_0, hcz8_1, hcz8_2, hfz8_0, hfz8_1, hfz8_2⟩ := cz3 BK325.out))
   refine bodyPost_ret (results_cell_row rfl _ _ gb325 85 #[.string a0_0, .int .i64 a0_1, .int .i64 2] (0, 0) _ rfl (bkf BK325.out) Tryd.underlying85 rfl (by kernel_rfl)) rfl ?_
   exact ⟨rf, bws HB.out⟩
  ·
   simp only [Option.some.injEq, Prod.mk.injEq] at H
   obtain ⟨rfl, rfl, rfl⟩ := H
   go_enter Tryd.func56, Tryd.ntmps56
   go_wp2_with (first | ((with_reducible refine gate_dst (N := 1) rfl ?_); (try (refine gate_guard (by rfl) ?_; dsimp only)); refine bx 1 #[.string a0_0, .int .i64 a0_1, .int .i64 a0_2] 85 ?_; intro gb324 hg w9 hbox hb; have BK324 := am (hbox); have GW324 := gsz hg HB.out; have GE324 := gsz hg HB.out; replace HB := am (below_step (bw HB.out) hb); clear hb hbox hg) | ((with_reducible refine gate_dst (N := 2) rfl ?_); (try (refine gate_guard (by rfl) ?_; dsimp only)); refine bx 2 #[.string (⟨#[]⟩ : ByteArray), .int .i64 0, .int .i64 0] 85 ?_; intro gb325 hg w10 hbox hb; have BK325 := am (hbox); have GW325 := gsz hg HB.out; have GE325 := gsz hg HB.out; have NB324_325 := nlt (g := gb324) hg BK324.out; have NB325_324 := ngt (g := gb324) hg BK324.out; replace BK324 := bb BK324.out hb; replace HB := am (below_step (bws HB.out) hb); clear hb hbox hg; have hnb11 := NB324_325.out; have hnc11 := NB325_324.out; obtain ⟨hcz12_0, hcz12_1, hcz12_2, hfz12_0, hfz12_1, hfz12_2⟩ := cz3 BK324.out; obtain ⟨hcz13_0, hcz13_1, hcz13_2, hfz13_0, hfz13_1, hfz13_2⟩ := cz3 BK325.out))
   refine bodyPost_ret (results_cell_row rfl _ _ gb325 85 #[.string a0_0, .int .i64 a0_1, .int .i64 a0_2] (0, 0) _ rfl (bkp BK325.out) Tryd.underlying85 rfl (by kernel_rfl)) rfl ?_
   exact ⟨rf, bws HB.out⟩
 ·
  rw [if_neg c2] at H
  have c2b0 := beq_eq_false_iff_ne.mpr c2
  have c2b1 := bne_iff_ne.mpr c2
  simp only [Option.some.injEq, Prod.mk.injEq] at H
  obtain ⟨rfl, rfl, rfl⟩ := H
  go_enter Tryd.func56, Tryd.ntmps56
  go_wp2_with (first | ((with_reducible refine gate_dst (N := 1) rfl ?_); (try (refine gate_guard (by rfl) ?_; dsimp only)); refine bx 1 #[.string a0_0, .int .i64 a0_1, .int .i64 a0_2] 85 ?_; intro gb324 hg w14 hbox hb; have BK324 := am (hbox); have GW324 := gsz hg HB.out; have GE324 := gsz hg HB.out; replace HB := am (below_step (bw HB.out) hb); clear hb hbox hg) | ((with_reducible refine gate_dst (N := 2) rfl ?_); (try (refine gate_guard (by rfl) ?_; dsimp only)); refine bx 2 #[.string (⟨#[]⟩ : ByteArray), .int .i64 0, .int .i64 0] 85 ?_; intro gb325 hg w15 hbox hb; have BK325 := am (hbox); have GW325 := gsz hg HB.out; have GE325 := gsz hg HB.out; have NB324_325 := nlt (g := gb324) hg BK324.out; have NB325_324 := ngt (g := gb324) hg BK324.out; replace BK324 := bb BK324.out hb; replace HB := am (below_step (bws HB.out) hb); clear hb hbox hg; have hnb16 := NB324_325.out; have hnc16 := NB325_324.out; obtain ⟨hcz17_0, hcz17_1, hcz17_2, hfz17_0, hfz17_1, hfz17_2⟩ := cz3 BK324.out; obtain ⟨hcz18_0, hcz18_1, hcz18_2, hfz18_0, hfz18_1, hfz18_2⟩ := cz3 BK325.out))
  refine bodyPost_ret (results_cell_row rfl _ _ gb325 85 #[.string a0_0, .int .i64 a0_1, .int .i64 a0_2] (0, 0) _ rfl (bkp BK325.out) Tryd.underlying85 rfl (by kernel_rfl)) rfl ?_
  exact ⟨rf, bws HB.out⟩
end Go.Proofs.YtdidopoalmkhlaaDoor.Or
end
