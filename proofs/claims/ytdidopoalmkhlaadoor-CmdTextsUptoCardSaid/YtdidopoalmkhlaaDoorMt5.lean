/- Merged of several texts of this session's by merge.py. -/
import Derived.Test.YtdidopoalmkhlaaDoorMt3
import Derived.Test.YtdidopoalmkhlaaDoorMt4
import Derived.Test.YtdidopoalmkhlaaDoorMt2
section
namespace Go.Proofs.YtdidopoalmkhlaaDoor.Ot
open Go.RowKit Go.Proofs.YtdidopoalmkhlaaDoorW.PrintWords Go.Proofs.YtdidopoalmkhlaaDoorW.PrintLast Go.Proofs.YtdidopoalmkhlaaDoorW.PrintMore
attribute [local go_sem] max2_int min2_int max_two min_two max_three min_three max_four min_four
set_option linter.unusedVariables false
set_option linter.unusedSimpArgs false
mutual
def stowageref16_Check.j0 : Nat → Bool → Int → ByteArray → ByteArray → ByteArray → Int → Int → ByteArray → List (S95) → List (S61) → Option (Int)
 | 0, _, _, _, _, _, _, _, _, _, _ => none
 | k + 1, x13, x169000, x169001, x169002, x169003, x169004, x169005, x169006, x169007, x169008 => if x13 = true then (some 1) else (if x169001.toList = ([] : List UInt8) then (stowageref16_Check.j1 k false x169000 x169001 x169002 x169003 x169004 x169005 x169006 x169007 x169008) else (if x169000 = 10 then (stowageref16_Check.j1 k true x169000 x169001 x169002 x169003 x169004 x169005 x169006 x169007 x169008) else ((stowageref12_Token.f k x169001).bind fun t169 => (stowageref16_Check.j1 k (!t169) x169000 x169001 x169002 x169003 x169004 x169005 x169006 x169007 x169008))))
def stowageref16_Check.j1 : Nat → Bool → Int → ByteArray → ByteArray → ByteArray → Int → Int → ByteArray → List (S95) → List (S61) → Option (Int)
 | 0, _, _, _, _, _, _, _, _, _, _ => none
 | k + 1, x27, x169000, x169001, x169002, x169003, x169004, x169005, x169006, x169007, x169008 => if x27 = true then (some 1) else (if x169000 = 10 then (if x169002.toList = ([] : List UInt8) then (if x169000 < 10 then ((stowageref12_Bucket.f k x169002).bind fun t170 => (stowageref16_Check.j2 k (!t170) x169000 x169001 x169002 x169003 x169004 x169005 x169006 x169007 x169008)) else (stowageref16_Check.j2 k false x169000 x169001 x169002 x169003 x169004 x169005 x169006 x169007 x169008)) else (stowageref16_Check.j2 k true x169000 x169001 x169002 x169003 x169004 x169005 x169006 x169007 x169008)) else (if x169000 < 10 then ((stowageref12_Bucket.f k x169002).bind fun t171 => (stowageref16_Check.j2 k (!t171) x169000 x169001 x169002 x169003 x169004 x169005 x169006 x169007 x169008)) else (stowageref16_Check.j2 k false x169000 x169001 x169002 x169003 x169004 x169005 x169006 x169007 x169008)))
def stowageref16_Check.j2 : Nat → Bool → Int → ByteArray → ByteArray → ByteArray → Int → Int → ByteArray → List (S95) → List (S61) → Option (Int)
 | 0, _, _, _, _, _, _, _, _, _, _ => none
 | k + 1, x46, x169000, x169001, x169002, x169003, x169004, x169005, x169006, x169007, x169008 => if x46 = true then (some 1) else ((stowageref16_HasKey.f x169000).bind fun t172 => (if t172 = true then ((stowageref12_Key.f k x169003).bind fun t173 => (if t173 = true then ((stowageref16_HasKey.f x169000).bind fun t174 => (if t174 = true then (stowageref16_Check.j3 k false x169000 x169001 x169002 x169003 x169004 x169005 x169006 x169007 x169008) else (stowageref16_Check.j3 k (x169003.toList != ([] : List UInt8)) x169000 x169001 x169002 x169003 x169004 x169005 x169006 x169007 x169008))) else (stowageref16_Check.j3 k true x169000 x169001 x169002 x169003 x169004 x169005 x169006 x169007 x169008))) else ((stowageref16_HasKey.f x169000).bind fun t175 => (if t175 = true then (stowageref16_Check.j3 k false x169000 x169001 x169002 x169003 x169004 x169005 x169006 x169007 x169008) else (stowageref16_Check.j3 k (x169003.toList != ([] : List UInt8)) x169000 x169001 x169002 x169003 x169004 x169005 x169006 x169007 x169008)))))
def stowageref16_Check.j3 : Nat → Bool → Int → ByteArray → ByteArray → ByteArray → Int → Int → ByteArray → List (S95) → List (S61) → Option (Int)
 | 0, _, _, _, _, _, _, _, _, _, _ => none
 | k + 1, x66, x169000, x169001, x169002, x169003, x169004, x169005, x169006, x169007, x169008 => if x66 = true then (some 1) else (if x169004 < 0 then (stowageref16_Check.j4 k true x169000 x169001 x169002 x169003 x169004 x169005 x169006 x169007 x169008) else (if x169004 > 1099511627776 then (stowageref16_Check.j4 k true x169000 x169001 x169002 x169003 x169004 x169005 x169006 x169007 x169008) else ((stowageref16_hasID.f x169000).bind fun t176 => (if t176 = true then ((stowageref16_hasID.f x169000).bind fun t177 => (if t177 = true then (if x169000 < 10 then (stowageref16_Check.j4 k (x169004 == 0) x169000 x169001 x169002 x169003 x169004 x169005 x169006 x169007 x169008) else (stowageref16_Check.j4 k false x169000 x169001 x169002 x169003 x169004 x169005 x169006 x169007 x169008)) else (stowageref16_Check.j4 k false x169000 x169001 x169002 x169003 x169004 x169005 x169006 x169007 x169008))) else (if x169004 = 0 then ((stowageref16_hasID.f x169000).bind fun t178 => (if t178 = true then (if x169000 < 10 then (stowageref16_Check.j4 k (x169004 == 0) x169000 x169001 x169002 x169003 x169004 x169005 x169006 x169007 x169008) else (stowageref16_Check.j4 k false x169000 x169001 x169002 x169003 x169004 x169005 x169006 x169007 x169008)) else (stowageref16_Check.j4 k false x169000 x169001 x169002 x169003 x169004 x169005 x169006 x169007 x169008))) else (stowageref16_Check.j4 k true x169000 x169001 x169002 x169003 x169004 x169005 x169006 x169007 x169008))))))
def stowageref16_Check.j4 : Nat → Bool → Int → ByteArray → ByteArray → ByteArray → Int → Int → ByteArray → List (S95) → List (S61) → Option (Int)
 | 0, _, _, _, _, _, _, _, _, _, _ => none
 | k + 1, x100, x169000, x169001, x169002, x169003, x169004, x169005, x169006, x169007, x169008 => if x100 = true then (some 1) else (if x169000 = 7 then (if x169005 < 1 then (stowageref16_Check.j5 k true x169000 x169001 x169002 x169003 x169004 x169005 x169006 x169007 x169008) else (if x169005 > 100 then (stowageref16_Check.j5 k true x169000 x169001 x169002 x169003 x169004 x169005 x169006 x169007 x169008) else (stowageref16_Check.j5 k false x169000 x169001 x169002 x169003 x169004 x169005 x169006 x169007 x169008))) else (stowageref16_Check.j5 k (x169005 != 0) x169000 x169001 x169002 x169003 x169004 x169005 x169006 x169007 x169008))
def stowageref16_Check.j5 : Nat → Bool → Int → ByteArray → ByteArray → ByteArray → Int → Int → ByteArray → List (S95) → List (S61) → Option (Int)
 | 0, _, _, _, _, _, _, _, _, _, _ => none
 | k + 1, x123, x169000, x169001, x169002, x169003, x169004, x169005, x169006, x169007, x169008 => if x123 = true then (some 1) else ((stowageref13_Pieces.f k x169007).bind fun bt179 => ((stowageref16_hasSum.f x169000).bind fun t181 => (if t181 = true then ((stowageref06_May.f k x169006).bind fun t182 => (if t182 = true then (if bt179.2 = 0 then (if bt179.1 > 1048576 then (stowageref16_Check.j6 k true x169000 x169001 x169002 x169003 x169004 x169005 x169006 x169007 x169008) else ((stowageref16_hasSum.f x169000).bind fun t183 => (if t183 = true then (stowageref16_Check.j6 k false x169000 x169001 x169002 x169003 x169004 x169005 x169006 x169007 x169008) else (if x169006.toList = ([] : List UInt8) then (stowageref16_Check.j6 k (decide ((x169007.length : Int) > 0)) x169000 x169001 x169002 x169003 x169004 x169005 x169006 x169007 x169008) else (stowageref16_Check.j6 k true x169000 x169001 x169002 x169003 x169004 x169005 x169006 x169007 x169008))))) else (stowageref16_Check.j6 k true x169000 x169001 x169002 x169003 x169004 x169005 x169006 x169007 x169008)) else (stowageref16_Check.j6 k true x169000 x169001 x169002 x169003 x169004 x169005 x169006 x169007 x169008))) else ((stowageref16_hasSum.f x169000).bind fun t184 => (if t184 = true then (stowageref16_Check.j6 k false x169000 x169001 x169002 x169003 x169004 x169005 x169006 x169007 x169008) else (if x169006.toList = ([] : List UInt8) then (stowageref16_Check.j6 k (decide ((x169007.length : Int) > 0)) x169000 x169001 x169002 x169003 x169004 x169005 x169006 x169007 x169008) else (stowageref16_Check.j6 k true x169000 x169001 x169002 x169003 x169004 x169005 x169006 x169007 x169008)))))))
def stowageref16_Check.j6 : Nat → Bool → Int → ByteArray → ByteArray → ByteArray → Int → Int → ByteArray → List (S95) → List (S61) → Option (Int)
 | 0, _, _, _, _, _, _, _, _, _, _ => none
 | k + 1, x163, x169000, x169001, x169002, x169003, x169004, x169005, x169006, x169007, x169008 => if x163 = true then (some 1) else (if (x169008.length : Int) > 100 then (stowageref16_Check.j7 k true x169000 x169001 x169002 x169003 x169004 x169005 x169006 x169007 x169008) else (if x169000 = 8 then (stowageref16_Check.j7 k false x169000 x169001 x169002 x169003 x169004 x169005 x169006 x169007 x169008) else (stowageref16_Check.j7 k (decide ((x169008.length : Int) > 0)) x169000 x169001 x169002 x169003 x169004 x169005 x169006 x169007 x169008)))
def stowageref16_Check.j7 : Nat → Bool → Int → ByteArray → ByteArray → ByteArray → Int → Int → ByteArray → List (S95) → List (S61) → Option (Int)
 | 0, _, _, _, _, _, _, _, _, _, _ => none
 | k + 1, x178, x169000, x169001, x169002, x169003, x169004, x169005, x169006, x169007, x169008 => if x178 = true then (some 1) else (stowageref16_Check.l0 k 0 x169000 x169001 x169002 x169003 x169004 x169005 x169006 x169007 x169008)
def stowageref16_Check.l0 : Nat → Int → Int → ByteArray → ByteArray → ByteArray → Int → Int → ByteArray → List (S95) → List (S61) → Option (Int)
 | 0, _, _, _, _, _, _, _, _, _, _ => none
 | k + 1, x5, x169000, x169001, x169002, x169003, x169004, x169005, x169006, x169007, x169008 => if x5 < (x169008.length : Int) then (if 0 ≤ x5 then (if ((rd_T61 x169008 x5).f0) < 0 then (some 1) else (if ((rd_T61 x169008 x5).f0) > 100 then (some 1) else ((stowageref06_May.f k ((rd_T61 x169008 x5).f1)).bind fun t188 => (if t188 = true then (stowageref16_Check.l0 k (wrap64 (x5 + 1)) x169000 x169001 x169002 x169003 x169004 x169005 x169006 x169007 x169008) else (some 1))))) else (none)) else (some 0)
end
def stowageref16_Check.f (k : Nat) (a0_0 : Int) (a0_1 : ByteArray) (a0_2 : ByteArray) (a0_3 : ByteArray) (a0_4 : Int) (a0_5 : Int) (a0_6 : ByteArray) (l0_7 : List (S95)) (l0_8 : List (S61)) : Option (Int) := if a0_0 < 1 then (stowageref16_Check.j0 k true a0_0 a0_1 a0_2 a0_3 a0_4 a0_5 a0_6 l0_7 l0_8) else (stowageref16_Check.j0 k (decide (a0_0 > 10)) a0_0 a0_1 a0_2 a0_3 a0_4 a0_5 a0_6 l0_7 l0_8)
theorem stowageref16_Check.mono_l : ∀ k, (∀ y0 y1 y2 y3 y4 y5 y6 y7 y8 y9, LeO (stowageref16_Check.j0 k y0 y1 y2 y3 y4 y5 y6 y7 y8 y9) (stowageref16_Check.j0 (k + 1) y0 y1 y2 y3 y4 y5 y6 y7 y8 y9)) ∧ (∀ y0 y1 y2 y3 y4 y5 y6 y7 y8 y9, LeO (stowageref16_Check.j1 k y0 y1 y2 y3 y4 y5 y6 y7 y8 y9) (stowageref16_Check.j1 (k + 1) y0 y1 y2 y3 y4 y5 y6 y7 y8 y9)) ∧ (∀ y0 y1 y2 y3 y4 y5 y6 y7 y8 y9, LeO (stowageref16_Check.j2 k y0 y1 y2 y3 y4 y5 y6 y7 y8 y9) (stowageref16_Check.j2 (k + 1) y0 y1 y2 y3 y4 y5 y6 y7 y8 y9)) ∧ (∀ y0 y1 y2 y3 y4 y5 y6 y7 y8 y9, LeO (stowageref16_Check.j3 k y0 y1 y2 y3 y4 y5 y6 y7 y8 y9) (stowageref16_Check.j3 (k + 1) y0 y1 y2 y3 y4 y5 y6 y7 y8 y9)) ∧ (∀ y0 y1 y2 y3 y4 y5 y6 y7 y8 y9, LeO (stowageref16_Check.j4 k y0 y1 y2 y3 y4 y5 y6 y7 y8 y9) (stowageref16_Check.j4 (k + 1) y0 y1 y2 y3 y4 y5 y6 y7 y8 y9)) ∧ (∀ y0 y1 y2 y3 y4 y5 y6 y7 y8 y9, LeO (stowageref16_Check.j5 k y0 y1 y2 y3 y4 y5 y6 y7 y8 y9) (stowageref16_Check.j5 (k + 1) y0 y1 y2 y3 y4 y5 y6 y7 y8 y9)) ∧ (∀ y0 y1 y2 y3 y4 y5 y6 y7 y8 y9, LeO (stowageref16_Check.j6 k y0 y1 y2 y3 y4 y5 y6 y7 y8 y9) (stowageref16_Check.j6 (k + 1) y0 y1 y2 y3 y4 y5 y6 y7 y8 y9)) ∧ (∀ y0 y1 y2 y3 y4 y5 y6 y7 y8 y9, LeO (stowageref16_Check.j7 k y0 y1 y2 y3 y4 y5 y6 y7 y8 y9) (stowageref16_Check.j7 (k + 1) y0 y1 y2 y3 y4 y5 y6 y7 y8 y9)) ∧ (∀ y0 y1 y2 y3 y4 y5 y6 y7 y8 y9, LeO (stowageref16_Check.l0 k y0 y1 y2 y3 y4 y5 y6 y7 y8 y9) (stowageref16_Check.l0 (k + 1) y0 y1 y2 y3 y4 y5 y6 y7 y8 y9))
 | 0 => ⟨fun _ _ _ _ _ _ _ _ _ _ r h => by simp [stowageref16_Check.j0] at h, fun _ _ _ _ _ _ _ _ _ _ r h => by simp [stowageref16_Check.j1] at h, fun _ _ _ _ _ _ _ _ _ _ r h => by simp [stowageref16_Check.j2] at h, fun _ _ _ _ _ _ _ _ _ _ r h => by simp [stowageref16_Check.j3] at h, fun _ _ _ _ _ _ _ _ _ _ r h => by simp [stowageref16_Check.j4] at h, fun _ _ _ _ _ _ _ _ _ _ r h => by simp [stowageref16_Check.j5] at h, fun _ _ _ _ _ _ _ _ _ _ r h => by simp [stowageref16_Check.j6] at h, fun _ _ _ _ _ _ _ _ _ _ r h => by simp [stowageref16_Check.j7] at h, fun _ _ _ _ _ _ _ _ _ _ r h => by simp [stowageref16_Check.l0] at h⟩
 | k + 1 => by
  obtain ⟨ih0, ih1, ih2, ih3, ih4, ih5, ih6, ih7, ih8⟩ := stowageref16_Check.mono_l k
  refine ⟨?_, ?_, ?_, ?_, ?_, ?_, ?_, ?_, ?_⟩
  all_goals intros
  all_goals first | unfold stowageref16_Check.j0 | unfold stowageref16_Check.j1 | unfold stowageref16_Check.j2 | unfold stowageref16_Check.j3 | unfold stowageref16_Check.j4 | unfold stowageref16_Check.j5 | unfold stowageref16_Check.j6 | unfold stowageref16_Check.j7 | unfold stowageref16_Check.l0
  all_goals repeat' (with_reducible first | exact ih0 _ _ _ _ _ _ _ _ _ _ | exact ih1 _ _ _ _ _ _ _ _ _ _ | exact ih2 _ _ _ _ _ _ _ _ _ _ | exact ih3 _ _ _ _ _ _ _ _ _ _ | exact ih4 _ _ _ _ _ _ _ _ _ _ | exact ih5 _ _ _ _ _ _ _ _ _ _ | exact ih6 _ _ _ _ _ _ _ _ _ _ | exact ih7 _ _ _ _ _ _ _ _ _ _ | exact ih8 _ _ _ _ _ _ _ _ _ _ | exact stowageref06_May.mono _ _ | exact stowageref12_Bucket.mono _ _ | exact stowageref12_Key.mono _ _ | exact stowageref12_Token.mono _ _ | exact stowageref13_Pieces.mono _ _ | exact LeO.refl _ | exact LeO.none _ | refine LeO.ite ?_ ?_ | refine LeO.bind ?_ (fun _ => ?_))
theorem stowageref16_Check.mono : ∀ a0 a1 a2 a3 a4 a5 a6 a7 a8 k, LeO (stowageref16_Check.f k a0 a1 a2 a3 a4 a5 a6 a7 a8) (stowageref16_Check.f (k + 1) a0 a1 a2 a3 a4 a5 a6 a7 a8) := by
 intro a0 a1 a2 a3 a4 a5 a6 a7 a8 k
 obtain ⟨ih0, ih1, ih2, ih3, ih4, ih5, ih6, ih7, ih8⟩ := stowageref16_Check.mono_l k
 unfold stowageref16_Check.f
 repeat' (with_reducible first | exact ih0 _ _ _ _ _ _ _ _ _ _ | exact ih1 _ _ _ _ _ _ _ _ _ _ | exact ih2 _ _ _ _ _ _ _ _ _ _ | exact ih3 _ _ _ _ _ _ _ _ _ _ | exact ih4 _ _ _ _ _ _ _ _ _ _ | exact ih5 _ _ _ _ _ _ _ _ _ _ | exact ih6 _ _ _ _ _ _ _ _ _ _ | exact ih7 _ _ _ _ _ _ _ _ _ _ | exact ih8 _ _ _ _ _ _ _ _ _ _ | exact stowageref06_May.mono _ _ | exact stowageref12_Bucket.mono _ _ | exact stowageref12_Key.mono _ _ | exact stowageref12_Token.mono _ _ | exact stowageref13_Pieces.mono _ _ | exact LeO.refl _ | exact LeO.none _ | refine LeO.ite ?_ ?_ | refine LeO.bind ?_ (fun _ => ?_))
set_option maxHeartbeats 8000000 in
set_option maxRecDepth 100000 in
theorem stowageref16_Check.calls (k : Nat) (a0_0 : Int) (a0_1 : ByteArray) (a0_2 : ByteArray) (a0_3 : ByteArray) (a0_4 : Int) (a0_5 : Int) (a0_6 : ByteArray) (A0_7 : Option Addr) (c0_7 : Nat) (l0_7 : List (S95)) (A0_8 : Option Addr) (c0_8 : Nat) (l0_8 : List (S61)) (r : Int) (w : World) (hr0_7 : Kd.C k95 w A0_7 l0_7.length l0_7) (hc0_7 : l0_7.length ≤ c0_7) (hr0_8 : Kd.C k61 w A0_8 l0_8.length l0_8) (hc0_8 : l0_8.length ≤ c0_8) (h : stowageref16_Check.f k a0_0 a0_1 a0_2 a0_3 a0_4 a0_5 a0_6 l0_7 l0_8 = some r) :
  Calls Tryd.prog 15 #[.agg #[.int .i64 a0_0, .string a0_1, .string a0_2, .string a0_3, .int .i64 a0_4, .int .i64 a0_5, .string a0_6, .slice A0_7 l0_7.length c0_7, .slice A0_8 l0_8.length c0_8]] w fun e w' => e = .returned (.int .i64 r) ∧ Below w.heap.size w w' := by
 have hu34 := Tryd.underlying34
 have HR0_7 := am hr0_7
 have HC0_7 := am hc0_7
 clear hr0_7 hc0_7
 have HR0_8 := am hr0_8
 have HC0_8 := am hc0_8
 clear hr0_8 hc0_8
 have HB := am (Below.refl w.heap.size w)
 have H := h
 clear h
 unfold stowageref16_Check.f at H
 have HC2 := am H
 clear H
 go_enter Tryd.func15, Tryd.ntmps15
 go_upto_region 1 with (first | ((with_reducible refine gate_dst (N := 1) rfl ?_); (try (refine gate_guard (by rfl) ?_; dsimp only)); refine bx 1 #[.int .i64 a0_0, .string a0_1, .string a0_2, .string a0_3, .int .i64 a0_4, .int .i64 a0_5, .string a0_6, .slice A0_7 l0_7.length c0_7, .slice A0_8 l0_8.length c0_8] 34 ?_; intro gb168 hg w3 hbox hb; have BK168 := am (hbox); have GW168 := gsz hg HB.out; have GE168 := gsz hg HB.out; replace HB := am (below_step (bw HB.out) hb); clear hb hbox hg))
 (try simp only [Act.put, List.setIfInBounds_toArray, List.set_cons_zero, List.set_cons_succ])
 go_cut [13] (fun v13 wc => ∃ (kq : Nat) (x13_1 : Bool), v13 = .bool x13_1 ∧ Aside0 (stowageref16_Check.j0 kq x13_1 a0_0 a0_1 a0_2 a0_3 a0_4 a0_5 a0_6 l0_7 l0_8 = some r) ∧ Aside0 (kq ≤ k) ∧ Aside0 (wc.heap[gb168]? = some (.cells #[.int .i64 a0_0, .string a0_1, .string a0_2, .string a0_3, .int .i64 a0_4, .int .i64 a0_5, .string a0_6, (.slice A0_7 l0_7.length c0_7), (.slice A0_8 l0_8.length c0_8)] 34 (0, 0))) ∧ Aside0 (Below w.heap.size w wc))
 case first => as_aux_lemma =>
  have H := HC2.out
  clear HC2
  replace H := iteD H
  rcases H with ⟨c4b0, H⟩ | ⟨c4b0, H⟩
  ·
   (first | rw [c4b0] | (simp only [i64_w, i32_w]; rw [c4b0]) | skip)
   have H' := am H
   clear H
   obtain ⟨hcz5_0, hcz5_1, hcz5_2, hcz5_3, hcz5_4, hcz5_5, hcz5_6, hcz5_7, hcz5_8, hfz5_0, hfz5_1, hfz5_2, hfz5_3, hfz5_4, hfz5_5, hfz5_6, hfz5_7, hfz5_8⟩ := cz9 BK168.out
   go_wp2
   go_meet
   case rel => exact ⟨_, (true), rs, H', ⟨om⟩, ⟨bk BK168.out⟩, ⟨bws HB.out⟩⟩
  ·
   (first | rw [c4b0] | (simp only [i64_w, i32_w]; rw [c4b0]) | skip)
   have H' := am H
   clear H
   obtain ⟨hcz6_0, hcz6_1, hcz6_2, hcz6_3, hcz6_4, hcz6_5, hcz6_6, hcz6_7, hcz6_8, hfz6_0, hfz6_1, hfz6_2, hfz6_3, hfz6_4, hfz6_5, hfz6_6, hfz6_7, hfz6_8⟩ := cz9 BK168.out
   go_wp2
   go_meet
   case rel => exact ⟨_, (decide (a0_0 > 10)), rs, H', ⟨om⟩, ⟨bk BK168.out⟩, ⟨bws HB.out⟩⟩
 case rest => as_aux_lemma =>
  clear HC2
  obtain ⟨kq, x13_1, rfl, HA, HJ1, BK168, HB⟩ := hcut
  cases kq with
  | zero => exact absurd HA.out (by simp [stowageref16_Check.j0])
  | succ kj1 =>
   have H := HA.out
   clear HA
   simp only [stowageref16_Check.j0] at H
   by_cases c7 : x13_1 = true
   ·
    subst c7
    rw [if_pos rfl] at H
    obtain rfl := Option.some.inj H
    go_wp2
    go_ret
    exact ⟨rf, bws HB.out⟩
   · as_aux_lemma =>
    replace c7 := Bool.eq_false_iff.mpr c7
    subst c7
    rw [if_neg (show ¬ (false = true) by decide)] at H
    have HC8 := am H
    clear H
    go_upto_region 3 with (fail)
    go_cut [27] (fun v27 wc => ∃ (kq : Nat) (x27_7 : Bool), v27 = .bool x27_7 ∧ Aside0 (stowageref16_Check.j1 kq x27_7 a0_0 a0_1 a0_2 a0_3 a0_4 a0_5 a0_6 l0_7 l0_8 = some r) ∧ Aside0 (kq ≤ kj1) ∧ Aside0 (wc.heap[gb168]? = some (.cells #[.int .i64 a0_0, .string a0_1, .string a0_2, .string a0_3, .int .i64 a0_4, .int .i64 a0_5, .string a0_6, (.slice A0_7 l0_7.length c0_7), (.slice A0_8 l0_8.length c0_8)] 34 (0, 0))) ∧ Aside0 (Below w.heap.size w wc))
    case first => as_aux_lemma =>
     have H := HC8.out
     clear HC8
     by_cases c9 : a0_1.toList = ([] : List UInt8)
     ·
      rw [if_pos c9] at H
      have c9b0 := beq_iff_eq.mpr c9
      have c9b1 := bne_eq_false_iff_eq.mpr c9
      clear c9
      (first | rw [c9b0] | (simp only [i64_w, i32_w]; rw [c9b0]) | skip)
      have H' := am H
      clear H
      obtain ⟨hcz10_0, hcz10_1, hcz10_2, hcz10_3, hcz10_4, hcz10_5, hcz10_6, hcz10_7, hcz10_8, hfz10_0, hfz10_1, hfz10_2, hfz10_3, hfz10_4, hfz10_5, hfz10_6, hfz10_7, hfz10_8⟩ := cz9 BK168.out
      go_wp2
      go_meet
      case rel => exact ⟨_, (false), rs, H', ⟨by have := HJ1.out; first | omega | exact Nat.le_refl _⟩, ⟨bk BK168.out⟩, ⟨bws HB.out⟩⟩
     ·
      rw [if_neg c9] at H
      have c9b0 := beq_eq_false_iff_ne.mpr c9
      have c9b1 := bne_iff_ne.mpr c9
      (first | rw [c9b0] | (simp only [i64_w, i32_w]; rw [c9b0]) | skip)
      by_cases c11 : a0_0 = 10
      ·
       rw [if_pos c11] at H
       have c11b0 := beq_iff_eq.mpr c11
       have c11b1 := bne_eq_false_iff_eq.mpr c11
       clear c11
       have H' := am H
       clear H
       obtain ⟨hcz12_0, hcz12_1, hcz12_2, hcz12_3, hcz12_4, hcz12_5, hcz12_6, hcz12_7, hcz12_8, hfz12_0, hfz12_1, hfz12_2, hfz12_3, hfz12_4, hfz12_5, hfz12_6, hfz12_7, hfz12_8⟩ := cz9 BK168.out
       go_wp2
       go_meet
       case rel => exact ⟨_, (true), rs, H', ⟨by have := HJ1.out; first | omega | exact Nat.le_refl _⟩, ⟨bk BK168.out⟩, ⟨bws HB.out⟩⟩
      ·
       rw [if_neg c11] at H
       have c11b0 := beq_eq_false_iff_ne.mpr c11
       have c11b1 := bne_iff_ne.mpr c11
       replace H := obE H
       obtain ⟨t169, A13, H⟩ := H
       have H' := am H
       clear H
       obtain ⟨hcz14_0, hcz14_1, hcz14_2, hcz14_3, hcz14_4, hcz14_5, hcz14_6, hcz14_7, hcz14_8, hfz14_0, hfz14_1, hfz14_2, hfz14_3, hfz14_4, hfz14_5, hfz14_6, hfz14_7, hfz14_8⟩ := cz9 BK168.out
       go_wp2_with (first | (go_at_call 38; (with_reducible refine (stowageref12_Token.calls kj1 a0_1 t169 _ A13.out).mono ?_); rintro e w' ⟨rfl, ⟨nd, rfl⟩⟩))
       go_meet
       case rel => exact ⟨_, (!t169), rs, H', ⟨by have := HJ1.out; first | omega | exact Nat.le_refl _⟩, ⟨bk BK168.out⟩, ⟨bws HB.out⟩⟩
    case rest => as_aux_lemma =>
     clear HC8
     try clear c7
     obtain ⟨kq, x27_7, rfl, HA, HJ7, BK168, HB⟩ := hcut
     cases kq with
     | zero => exact absurd HA.out (by simp [stowageref16_Check.j1])
     | succ kj7 =>
      have H := HA.out
      clear HA
      simp only [stowageref16_Check.j1] at H
      by_cases c15 : x27_7 = true
      ·
       subst c15
       rw [if_pos rfl] at H
       obtain rfl := Option.some.inj H
       go_wp2
       go_ret
       exact ⟨rf, bws HB.out⟩
      · as_aux_lemma =>
       replace c15 := Bool.eq_false_iff.mpr c15
       subst c15
       rw [if_neg (show ¬ (false = true) by decide)] at H
       have HC16 := am H
       clear H
       go_upto_region 5 with (fail)
       go_cut [46] (fun v46 wc => ∃ (kq : Nat) (x46_15 : Bool), v46 = .bool x46_15 ∧ Aside0 (stowageref16_Check.j2 kq x46_15 a0_0 a0_1 a0_2 a0_3 a0_4 a0_5 a0_6 l0_7 l0_8 = some r) ∧ Aside0 (kq ≤ kj7) ∧ Aside0 (wc.heap[gb168]? = some (.cells #[.int .i64 a0_0, .string a0_1, .string a0_2, .string a0_3, .int .i64 a0_4, .int .i64 a0_5, .string a0_6, (.slice A0_7 l0_7.length c0_7), (.slice A0_8 l0_8.length c0_8)] 34 (0, 0))) ∧ Aside0 (Below w.heap.size w wc))
       case first => as_aux_lemma =>
        have H := HC16.out
        clear HC16
        by_cases c17 : a0_0 = 10
        ·
         rw [if_pos c17] at H
         have c17b0 := beq_iff_eq.mpr c17
         have c17b1 := bne_eq_false_iff_eq.mpr c17
         clear c17
         (first | rw [c17b0] | (simp only [i64_w, i32_w]; rw [c17b0]) | skip)
         by_cases c18 : a0_2.toList = ([] : List UInt8)
         ·
          rw [if_pos c18] at H
          have c18b0 := beq_iff_eq.mpr c18
          have c18b1 := bne_eq_false_iff_eq.mpr c18
          clear c18
          replace H := iteD H
          rcases H with ⟨c19b0, H⟩ | ⟨c19b0, H⟩
          ·
           replace H := obE H
           obtain ⟨t170, A20, H⟩ := H
           have H' := am H
           clear H
           obtain ⟨hcz21_0, hcz21_1, hcz21_2, hcz21_3, hcz21_4, hcz21_5, hcz21_6, hcz21_7, hcz21_8, hfz21_0, hfz21_1, hfz21_2, hfz21_3, hfz21_4, hfz21_5, hfz21_6, hfz21_7, hfz21_8⟩ := cz9 BK168.out
           go_wp2_with (first | (go_at_call 39; (with_reducible refine (stowageref12_Bucket.calls kj7 a0_2 t170 _ A20.out).mono ?_); rintro e w' ⟨rfl, ⟨nd, rfl⟩⟩))
           go_meet
           case rel => exact ⟨_, (!t170), rs, H', ⟨by have := HJ1.out; have := HJ7.out; first | omega | exact Nat.le_refl _⟩, ⟨bk BK168.out⟩, ⟨bws HB.out⟩⟩
          ·
           have H' := am H
           clear H
           obtain ⟨hcz22_0, hcz22_1, hcz22_2, hcz22_3, hcz22_4, hcz22_5, hcz22_6, hcz22_7, hcz22_8, hfz22_0, hfz22_1, hfz22_2, hfz22_3, hfz22_4, hfz22_5, hfz22_6, hfz22_7, hfz22_8⟩ := cz9 BK168.out
           go_wp2
           go_meet
           case rel => exact ⟨_, (false), rs, H', ⟨by have := HJ1.out; have := HJ7.out; first | omega | exact Nat.le_refl _⟩, ⟨bk BK168.out⟩, ⟨bws HB.out⟩⟩
         ·
          rw [if_neg c18] at H
          have c18b0 := beq_eq_false_iff_ne.mpr c18
          have c18b1 := bne_iff_ne.mpr c18
          have H' := am H
          clear H
          obtain ⟨hcz23_0, hcz23_1, hcz23_2, hcz23_3, hcz23_4, hcz23_5, hcz23_6, hcz23_7, hcz23_8, hfz23_0, hfz23_1, hfz23_2, hfz23_3, hfz23_4, hfz23_5, hfz23_6, hfz23_7, hfz23_8⟩ := cz9 BK168.out
          go_wp2
          go_meet
          case rel => exact ⟨_, (true), rs, H', ⟨by have := HJ1.out; have := HJ7.out; first | omega | exact Nat.le_refl _⟩, ⟨bk BK168.out⟩, ⟨bws HB.out⟩⟩
        ·
         rw [if_neg c17] at H
         have c17b0 := beq_eq_false_iff_ne.mpr c17
         have c17b1 := bne_iff_ne.mpr c17
         (first | rw [c17b0] | (simp only [i64_w, i32_w]; rw [c17b0]) | skip)
         replace H := iteD H
         rcases H with ⟨c24b0, H⟩ | ⟨c24b0, H⟩
         ·
          replace H := obE H
          obtain ⟨t171, A25, H⟩ := H
          have H' := am H
          clear H
          obtain ⟨hcz26_0, hcz26_1, hcz26_2, hcz26_3, hcz26_4, hcz26_5, hcz26_6, hcz26_7, hcz26_8, hfz26_0, hfz26_1, hfz26_2, hfz26_3, hfz26_4, hfz26_5, hfz26_6, hfz26_7, hfz26_8⟩ := cz9 BK168.out
          go_wp2_with (first | (go_at_call 39; (with_reducible refine (stowageref12_Bucket.calls kj7 a0_2 t171 _ A25.out).mono ?_); rintro e w' ⟨rfl, ⟨nd, rfl⟩⟩))
          go_meet
          case rel => exact ⟨_, (!t171), rs, H', ⟨by have := HJ1.out; have := HJ7.out; first | omega | exact Nat.le_refl _⟩, ⟨bk BK168.out⟩, ⟨bws HB.out⟩⟩
         ·
          have H' := am H
          clear H
          obtain ⟨hcz27_0, hcz27_1, hcz27_2, hcz27_3, hcz27_4, hcz27_5, hcz27_6, hcz27_7, hcz27_8, hfz27_0, hfz27_1, hfz27_2, hfz27_3, hfz27_4, hfz27_5, hfz27_6, hfz27_7, hfz27_8⟩ := cz9 BK168.out
          go_wp2
          go_meet
          case rel => exact ⟨_, (false), rs, H', ⟨by have := HJ1.out; have := HJ7.out; first | omega | exact Nat.le_refl _⟩, ⟨bk BK168.out⟩, ⟨bws HB.out⟩⟩
       case rest => as_aux_lemma =>
        clear HC16
        try clear c7
        try clear c15
        obtain ⟨kq, x46_15, rfl, HA, HJ15, BK168, HB⟩ := hcut
        cases kq with
        | zero => exact absurd HA.out (by simp [stowageref16_Check.j2])
        | succ kj15 =>
         have H := HA.out
         clear HA
         simp only [stowageref16_Check.j2] at H
         by_cases c28 : x46_15 = true
         ·
          subst c28
          rw [if_pos rfl] at H
          obtain rfl := Option.some.inj H
          go_wp2
          go_ret
          exact ⟨rf, bws HB.out⟩
         · as_aux_lemma =>
          replace c28 := Bool.eq_false_iff.mpr c28
          subst c28
          rw [if_neg (show ¬ (false = true) by decide)] at H
          have HC29 := am H
          clear H
          go_upto_region 7 with (fail)
          go_cut [66] (fun v66 wc => ∃ (kq : Nat) (x66_28 : Bool), v66 = .bool x66_28 ∧ Aside0 (stowageref16_Check.j3 kq x66_28 a0_0 a0_1 a0_2 a0_3 a0_4 a0_5 a0_6 l0_7 l0_8 = some r) ∧ Aside0 (kq ≤ kj15) ∧ Aside0 (wc.heap[gb168]? = some (.cells #[.int .i64 a0_0, .string a0_1, .string a0_2, .string a0_3, .int .i64 a0_4, .int .i64 a0_5, .string a0_6, (.slice A0_7 l0_7.length c0_7), (.slice A0_8 l0_8.length c0_8)] 34 (0, 0))) ∧ Aside0 (Below w.heap.size w wc))
          case first => as_aux_lemma =>
           have H := HC29.out
           clear HC29
           replace H := obE H
           obtain ⟨t172, A30, H⟩ := H
           by_cases c31 : t172 = true
           · as_aux_lemma =>
            subst c31
            rw [if_pos rfl] at H
            replace H := obE H
            obtain ⟨t173, A32, H⟩ := H
            by_cases c33 : t173 = true
            ·
             subst c33
             rw [if_pos rfl] at H
             replace H := obE H
             obtain ⟨t174, A34, H⟩ := H
             by_cases c35 : t174 = true
             ·
              subst c35
              rw [if_pos rfl] at H
              have H' := am H
              clear H
              obtain ⟨hcz36_0, hcz36_1, hcz36_2, hcz36_3, hcz36_4, hcz36_5, hcz36_6, hcz36_7, hcz36_8, hfz36_0, hfz36_1, hfz36_2, hfz36_3, hfz36_4, hfz36_5, hfz36_6, hfz36_7, hfz36_8⟩ := cz9 BK168.out
              go_wp2_with (first | ((with_reducible refine gate_callee (f := 40) rfl ?_); refine goesL_ (some 49) rfl rfl Tryd.func40 (by kernel_rfl) rfl #[.int .i64 a0_0] rfl gl ?_; (with_reducible refine (stowageref16_HasKey.calls a0_0 true _ A30.out).mono ?_); rintro e w' ⟨rfl, ⟨nd, rfl⟩⟩; refine ⟨_, rfl, ?_⟩) | (go_at_call 41; (with_reducible refine (stowageref12_Key.calls kj15 a0_3 true _ A32.out).mono ?_); rintro e w' ⟨rfl, ⟨nd, rfl⟩⟩) | (go_at_call 40; (with_reducible refine (stowageref16_HasKey.calls a0_0 true _ A34.out).mono ?_); rintro e w' ⟨rfl, ⟨nd, rfl⟩⟩))
              go_meet
              case rel => exact ⟨_, (false), rs, H', ⟨by have := HJ1.out; have := HJ7.out; have := HJ15.out; first | omega | exact Nat.le_refl _⟩, ⟨bk BK168.out⟩, ⟨bws HB.out⟩⟩
             ·
              replace c35 := Bool.eq_false_iff.mpr c35
              subst c35
              rw [if_neg (show ¬ (false = true) by decide)] at H
              have H' := am H
              clear H
              obtain ⟨hcz37_0, hcz37_1, hcz37_2, hcz37_3, hcz37_4, hcz37_5, hcz37_6, hcz37_7, hcz37_8, hfz37_0, hfz37_1, hfz37_2, hfz37_3, hfz37_4, hfz37_5, hfz37_6, hfz37_7, hfz37_8⟩ := cz9 BK168.out
              go_wp2_with (first | ((with_reducible refine gate_callee (f := 40) rfl ?_); refine goesL_ (some 49) rfl rfl Tryd.func40 (by kernel_rfl) rfl #[.int .i64 a0_0] rfl gl ?_; (with_reducible refine (stowageref16_HasKey.calls a0_0 true _ A30.out).mono ?_); rintro e w' ⟨rfl, ⟨nd, rfl⟩⟩; refine ⟨_, rfl, ?_⟩) | (go_at_call 41; (with_reducible refine (stowageref12_Key.calls kj15 a0_3 true _ A32.out).mono ?_); rintro e w' ⟨rfl, ⟨nd, rfl⟩⟩) | (go_at_call 40; (with_reducible refine (stowageref16_HasKey.calls a0_0 false _ A34.out).mono ?_); rintro e w' ⟨rfl, ⟨nd, rfl⟩⟩))
              go_meet
              case rel => exact ⟨_, ((a0_3.toList != ([] : List UInt8))), (by first | (simp; done) | (cases a0_3.toList <;> rfl) | (cases a0_3.toList <;> simp)), H', ⟨by have := HJ1.out; have := HJ7.out; have := HJ15.out; first | omega | exact Nat.le_refl _⟩, ⟨bk BK168.out⟩, ⟨bws HB.out⟩⟩
            ·
             replace c33 := Bool.eq_false_iff.mpr c33
             subst c33
             rw [if_neg (show ¬ (false = true) by decide)] at H
             have H' := am H
             clear H
             obtain ⟨hcz38_0, hcz38_1, hcz38_2, hcz38_3, hcz38_4, hcz38_5, hcz38_6, hcz38_7, hcz38_8, hfz38_0, hfz38_1, hfz38_2, hfz38_3, hfz38_4, hfz38_5, hfz38_6, hfz38_7, hfz38_8⟩ := cz9 BK168.out
             go_wp2_with (first | ((with_reducible refine gate_callee (f := 40) rfl ?_); refine goesL_ (some 49) rfl rfl Tryd.func40 (by kernel_rfl) rfl #[.int .i64 a0_0] rfl gl ?_; (with_reducible refine (stowageref16_HasKey.calls a0_0 true _ A30.out).mono ?_); rintro e w' ⟨rfl, ⟨nd, rfl⟩⟩; refine ⟨_, rfl, ?_⟩) | (go_at_call 41; (with_reducible refine (stowageref12_Key.calls kj15 a0_3 false _ A32.out).mono ?_); rintro e w' ⟨rfl, ⟨nd, rfl⟩⟩))
             go_meet
             case rel => exact ⟨_, (true), rs, H', ⟨by have := HJ1.out; have := HJ7.out; have := HJ15.out; first | omega | exact Nat.le_refl _⟩, ⟨bk BK168.out⟩, ⟨bws HB.out⟩⟩
           ·
            replace c31 := Bool.eq_false_iff.mpr c31
            subst c31
            rw [if_neg (show ¬ (false = true) by decide)] at H
            replace H := obE H
            obtain ⟨t175, A39, H⟩ := H
            by_cases c40 : t175 = true
            ·
             subst c40
             rw [if_pos rfl] at H
             have H' := am H
             clear H
             obtain ⟨hcz41_0, hcz41_1, hcz41_2, hcz41_3, hcz41_4, hcz41_5, hcz41_6, hcz41_7, hcz41_8, hfz41_0, hfz41_1, hfz41_2, hfz41_3, hfz41_4, hfz41_5, hfz41_6, hfz41_7, hfz41_8⟩ := cz9 BK168.out
             go_wp2_with (first | ((with_reducible refine gate_callee (f := 40) rfl ?_); refine goesL_ (some 49) rfl rfl Tryd.func40 (by kernel_rfl) rfl #[.int .i64 a0_0] rfl gl ?_; (with_reducible refine (stowageref16_HasKey.calls a0_0 false _ A30.out).mono ?_); rintro e w' ⟨rfl, ⟨nd, rfl⟩⟩; refine ⟨_, rfl, ?_⟩) | (go_at_call 40; (with_reducible refine (stowageref16_HasKey.calls a0_0 true _ A39.out).mono ?_); rintro e w' ⟨rfl, ⟨nd, rfl⟩⟩))
             go_meet
             case rel => exact ⟨_, (false), rs, H', ⟨by have := HJ1.out; have := HJ7.out; have := HJ15.out; first | omega | exact Nat.le_refl _⟩, ⟨bk BK168.out⟩, ⟨bws HB.out⟩⟩
            ·
             replace c40 := Bool.eq_false_iff.mpr c40
             subst c40
             rw [if_neg (show ¬ (false = true) by decide)] at H
             have H' := am H
             clear H
             obtain ⟨hcz42_0, hcz42_1, hcz42_2, hcz42_3, hcz42_4, hcz42_5, hcz42_6, hcz42_7, hcz42_8, hfz42_0, hfz42_1, hfz42_2, hfz42_3, hfz42_4, hfz42_5, hfz42_6, hfz42_7, hfz42_8⟩ := cz9 BK168.out
             go_wp2_with (first | ((with_reducible refine gate_callee (f := 40) rfl ?_); refine goesL_ (some 49) rfl rfl Tryd.func40 (by kernel_rfl) rfl #[.int .i64 a0_0] rfl gl ?_; (with_reducible refine (stowageref16_HasKey.calls a0_0 false _ A30.out).mono ?_); rintro e w' ⟨rfl, ⟨nd, rfl⟩⟩; refine ⟨_, rfl, ?_⟩) | (go_at_call 40; (with_reducible refine (stowageref16_HasKey.calls a0_0 false _ A39.out).mono ?_); rintro e w' ⟨rfl, ⟨nd, rfl⟩⟩))
             go_meet
             case rel => exact ⟨_, ((a0_3.toList != ([] : List UInt8))), (by first | (simp; done) | (cases a0_3.toList <;> rfl) | (cases a0_3.toList <;> simp)), H', ⟨by have := HJ1.out; have := HJ7.out; have := HJ15.out; first | omega | exact Nat.le_refl _⟩, ⟨bk BK168.out⟩, ⟨bws HB.out⟩⟩
          case rest => as_aux_lemma =>
           clear HC29
           try clear c7
           try clear c15
           try clear c28
           obtain ⟨kq, x66_28, rfl, HA, HJ28, BK168, HB⟩ := hcut
           cases kq with
           | zero => exact absurd HA.out (by simp [stowageref16_Check.j3])
           | succ kj28 =>
            have H := HA.out
            clear HA
            simp only [stowageref16_Check.j3] at H
            by_cases c43 : x66_28 = true
            ·
             subst c43
             rw [if_pos rfl] at H
             obtain rfl := Option.some.inj H
             go_wp2
             go_ret
             exact ⟨rf, bws HB.out⟩
            · as_aux_lemma =>
             replace c43 := Bool.eq_false_iff.mpr c43
             subst c43
             rw [if_neg (show ¬ (false = true) by decide)] at H
             have HC44 := am H
             clear H
             go_upto_region 9 with (fail)
             go_cut [100] (fun v100 wc => ∃ (kq : Nat) (x100_43 : Bool), v100 = .bool x100_43 ∧ Aside0 (stowageref16_Check.j4 kq x100_43 a0_0 a0_1 a0_2 a0_3 a0_4 a0_5 a0_6 l0_7 l0_8 = some r) ∧ Aside0 (kq ≤ kj28) ∧ Aside0 (wc.heap[gb168]? = some (.cells #[.int .i64 a0_0, .string a0_1, .string a0_2, .string a0_3, .int .i64 a0_4, .int .i64 a0_5, .string a0_6, (.slice A0_7 l0_7.length c0_7), (.slice A0_8 l0_8.length c0_8)] 34 (0, 0))) ∧ Aside0 (Below w.heap.size w wc))
             case first => as_aux_lemma =>
              have H := HC44.out
              clear HC44
              replace H := iteD H
              rcases H with ⟨c45b0, H⟩ | ⟨c45b0, H⟩
              ·
               (first | rw [c45b0] | (simp only [i64_w, i32_w]; rw [c45b0]) | skip)
               have H' := am H
               clear H
               obtain ⟨hcz46_0, hcz46_1, hcz46_2, hcz46_3, hcz46_4, hcz46_5, hcz46_6, hcz46_7, hcz46_8, hfz46_0, hfz46_1, hfz46_2, hfz46_3, hfz46_4, hfz46_5, hfz46_6, hfz46_7, hfz46_8⟩ := cz9 BK168.out
               go_wp2
               go_meet
               case rel => exact ⟨_, (true), rs, H', ⟨by have := HJ1.out; have := HJ7.out; have := HJ15.out; have := HJ28.out; first | omega | exact Nat.le_refl _⟩, ⟨bk BK168.out⟩, ⟨bws HB.out⟩⟩
              · as_aux_lemma =>
               (first | rw [c45b0] | (simp only [i64_w, i32_w]; rw [c45b0]) | skip)
               replace H := iteD H
               rcases H with ⟨c47b0, H⟩ | ⟨c47b0, H⟩
               ·
                have H' := am H
                clear H
                obtain ⟨hcz48_0, hcz48_1, hcz48_2, hcz48_3, hcz48_4, hcz48_5, hcz48_6, hcz48_7, hcz48_8, hfz48_0, hfz48_1, hfz48_2, hfz48_3, hfz48_4, hfz48_5, hfz48_6, hfz48_7, hfz48_8⟩ := cz9 BK168.out
                go_wp2
                go_meet
                case rel => exact ⟨_, (true), rs, H', ⟨by have := HJ1.out; have := HJ7.out; have := HJ15.out; have := HJ28.out; first | omega | exact Nat.le_refl _⟩, ⟨bk BK168.out⟩, ⟨bws HB.out⟩⟩
               · as_aux_lemma =>
                replace H := obE H
                obtain ⟨t176, A49, H⟩ := H
                by_cases c50 : t176 = true
                ·
                 subst c50
                 rw [if_pos rfl] at H
                 replace H := obE H
                 obtain ⟨t177, A51, H⟩ := H
                 by_cases c52 : t177 = true
                 ·
                  subst c52
                  rw [if_pos rfl] at H
                  replace H := iteD H
                  rcases H with ⟨c53b0, H⟩ | ⟨c53b0, H⟩
                  ·
                   have H' := am H
                   clear H
                   obtain ⟨hcz54_0, hcz54_1, hcz54_2, hcz54_3, hcz54_4, hcz54_5, hcz54_6, hcz54_7, hcz54_8, hfz54_0, hfz54_1, hfz54_2, hfz54_3, hfz54_4, hfz54_5, hfz54_6, hfz54_7, hfz54_8⟩ := cz9 BK168.out
                   go_wp2_with (first | (go_at_call 42; (with_reducible refine (stowageref16_hasID.calls a0_0 true _ A49.out).mono ?_); rintro e w' ⟨rfl, ⟨nd, rfl⟩⟩; clear A49) | (go_at_call 42; (with_reducible refine (stowageref16_hasID.calls a0_0 true _ A51.out).mono ?_); rintro e w' ⟨rfl, ⟨nd, rfl⟩⟩; clear A51))
                   go_meet
                   case rel => exact ⟨_, ((a0_4 == 0)), rs, H', ⟨by have := HJ1.out; have := HJ7.out; have := HJ15.out; have := HJ28.out; first | omega | exact Nat.le_refl _⟩, ⟨bk BK168.out⟩, ⟨bws HB.out⟩⟩
                  ·
                   have H' := am H
                   clear H
                   obtain ⟨hcz55_0, hcz55_1, hcz55_2, hcz55_3, hcz55_4, hcz55_5, hcz55_6, hcz55_7, hcz55_8, hfz55_0, hfz55_1, hfz55_2, hfz55_3, hfz55_4, hfz55_5, hfz55_6, hfz55_7, hfz55_8⟩ := cz9 BK168.out
                   go_wp2_with (first | (go_at_call 42; (with_reducible refine (stowageref16_hasID.calls a0_0 true _ A49.out).mono ?_); rintro e w' ⟨rfl, ⟨nd, rfl⟩⟩; clear A49) | (go_at_call 42; (with_reducible refine (stowageref16_hasID.calls a0_0 true _ A51.out).mono ?_); rintro e w' ⟨rfl, ⟨nd, rfl⟩⟩; clear A51))
                   go_meet
                   case rel => exact ⟨_, (false), rs, H', ⟨by have := HJ1.out; have := HJ7.out; have := HJ15.out; have := HJ28.out; first | omega | exact Nat.le_refl _⟩, ⟨bk BK168.out⟩, ⟨bws HB.out⟩⟩
                 ·
                  replace c52 := Bool.eq_false_iff.mpr c52
                  subst c52
                  rw [if_neg (show ¬ (false = true) by decide)] at H
                  have H' := am H
                  clear H
                  obtain ⟨hcz56_0, hcz56_1, hcz56_2, hcz56_3, hcz56_4, hcz56_5, hcz56_6, hcz56_7, hcz56_8, hfz56_0, hfz56_1, hfz56_2, hfz56_3, hfz56_4, hfz56_5, hfz56_6, hfz56_7, hfz56_8⟩ := cz9 BK168.out
                  go_wp2_with (first | (go_at_call 42; (with_reducible refine (stowageref16_hasID.calls a0_0 true _ A49.out).mono ?_); rintro e w' ⟨rfl, ⟨nd, rfl⟩⟩; clear A49) | (go_at_call 42; (with_reducible refine (stowageref16_hasID.calls a0_0 false _ A51.out).mono ?_); rintro e w' ⟨rfl, ⟨nd, rfl⟩⟩; clear A51))
                  go_meet
                  case rel => exact ⟨_, (false), rs, H', ⟨by have := HJ1.out; have := HJ7.out; have := HJ15.out; have := HJ28.out; first | omega | exact Nat.le_refl _⟩, ⟨bk BK168.out⟩, ⟨bws HB.out⟩⟩
                · as_aux_lemma =>
                 replace c50 := Bool.eq_false_iff.mpr c50
                 subst c50
                 rw [if_neg (show ¬ (false = true) by decide)] at H
                 by_cases c57 : a0_4 = 0
                 ·
                  rw [if_pos c57] at H
                  have c57b0 := beq_iff_eq.mpr c57
                  have c57b1 := bne_eq_false_iff_eq.mpr c57
                  clear c57
                  replace H := obE H
                  obtain ⟨t178, A58, H⟩ := H
                  by_cases c59 : t178 = true
                  ·
                   subst c59
                   rw [if_pos rfl] at H
                   replace H := iteD H
                   rcases H with ⟨c60b0, H⟩ | ⟨c60b0, H⟩
                   ·
                    have H' := am H
                    clear H
                    obtain ⟨hcz61_0, hcz61_1, hcz61_2, hcz61_3, hcz61_4, hcz61_5, hcz61_6, hcz61_7, hcz61_8, hfz61_0, hfz61_1, hfz61_2, hfz61_3, hfz61_4, hfz61_5, hfz61_6, hfz61_7, hfz61_8⟩ := cz9 BK168.out
                    go_wp2_with (first | (go_at_call 42; (with_reducible refine (stowageref16_hasID.calls a0_0 false _ A49.out).mono ?_); rintro e w' ⟨rfl, ⟨nd, rfl⟩⟩; clear A49) | (go_at_call 42; (with_reducible refine (stowageref16_hasID.calls a0_0 true _ A58.out).mono ?_); rintro e w' ⟨rfl, ⟨nd, rfl⟩⟩; clear A58))
                    go_meet
                    case rel => exact ⟨_, ((a0_4 == 0)), rs, H', ⟨by have := HJ1.out; have := HJ7.out; have := HJ15.out; have := HJ28.out; first | omega | exact Nat.le_refl _⟩, ⟨bk BK168.out⟩, ⟨bws HB.out⟩⟩
                   ·
                    have H' := am H
                    clear H
                    obtain ⟨hcz62_0, hcz62_1, hcz62_2, hcz62_3, hcz62_4, hcz62_5, hcz62_6, hcz62_7, hcz62_8, hfz62_0, hfz62_1, hfz62_2, hfz62_3, hfz62_4, hfz62_5, hfz62_6, hfz62_7, hfz62_8⟩ := cz9 BK168.out
                    go_wp2_with (first | (go_at_call 42; (with_reducible refine (stowageref16_hasID.calls a0_0 false _ A49.out).mono ?_); rintro e w' ⟨rfl, ⟨nd, rfl⟩⟩; clear A49) | (go_at_call 42; (with_reducible refine (stowageref16_hasID.calls a0_0 true _ A58.out).mono ?_); rintro e w' ⟨rfl, ⟨nd, rfl⟩⟩; clear A58))
                    go_meet
                    case rel => exact ⟨_, (false), rs, H', ⟨by have := HJ1.out; have := HJ7.out; have := HJ15.out; have := HJ28.out; first | omega | exact Nat.le_refl _⟩, ⟨bk BK168.out⟩, ⟨bws HB.out⟩⟩
                  ·
                   replace c59 := Bool.eq_false_iff.mpr c59
                   subst c59
                   rw [if_neg (show ¬ (false = true) by decide)] at H
                   have H' := am H
                   clear H
                   obtain ⟨hcz63_0, hcz63_1, hcz63_2, hcz63_3, hcz63_4, hcz63_5, hcz63_6, hcz63_7, hcz63_8, hfz63_0, hfz63_1, hfz63_2, hfz63_3, hfz63_4, hfz63_5, hfz63_6, hfz63_7, hfz63_8⟩ := cz9 BK168.out
                   go_wp2_with (first | (go_at_call 42; (with_reducible refine (stowageref16_hasID.calls a0_0 false _ A49.out).mono ?_); rintro e w' ⟨rfl, ⟨nd, rfl⟩⟩; clear A49) | (go_at_call 42; (with_reducible refine (stowageref16_hasID.calls a0_0 false _ A58.out).mono ?_); rintro e w' ⟨rfl, ⟨nd, rfl⟩⟩; clear A58))
                   go_meet
                   case rel => exact ⟨_, (false), rs, H', ⟨by have := HJ1.out; have := HJ7.out; have := HJ15.out; have := HJ28.out; first | omega | exact Nat.le_refl _⟩, ⟨bk BK168.out⟩, ⟨bws HB.out⟩⟩
                 ·
                  rw [if_neg c57] at H
                  have c57b0 := beq_eq_false_iff_ne.mpr c57
                  have c57b1 := bne_iff_ne.mpr c57
                  have H' := am H
                  clear H
                  obtain ⟨hcz64_0, hcz64_1, hcz64_2, hcz64_3, hcz64_4, hcz64_5, hcz64_6, hcz64_7, hcz64_8, hfz64_0, hfz64_1, hfz64_2, hfz64_3, hfz64_4, hfz64_5, hfz64_6, hfz64_7, hfz64_8⟩ := cz9 BK168.out
                  go_wp2_with (first | (go_at_call 42; (with_reducible refine (stowageref16_hasID.calls a0_0 false _ A49.out).mono ?_); rintro e w' ⟨rfl, ⟨nd, rfl⟩⟩))
                  go_meet
                  case rel => exact ⟨_, (true), rs, H', ⟨by have := HJ1.out; have := HJ7.out; have := HJ15.out; have := HJ28.out; first | omega | exact Nat.le_refl _⟩, ⟨bk BK168.out⟩, ⟨bws HB.out⟩⟩
             case rest => as_aux_lemma =>
              clear HC44
              try clear c43
              obtain ⟨kq, x100_43, rfl, HA, HJ43, BK168, HB⟩ := hcut
              cases kq with
              | zero => exact absurd HA.out (by simp [stowageref16_Check.j4])
              | succ kj43 =>
               have H := HA.out
               clear HA
               simp only [stowageref16_Check.j4] at H
               by_cases c65 : x100_43 = true
               ·
                subst c65
                rw [if_pos rfl] at H
                obtain rfl := Option.some.inj H
                go_wp2
                go_ret
                exact ⟨rf, bws HB.out⟩
               · as_aux_lemma =>
                replace c65 := Bool.eq_false_iff.mpr c65
                subst c65
                rw [if_neg (show ¬ (false = true) by decide)] at H
                have HC66 := am H
                clear H
                go_upto_region 11 with (fail)
                go_cut [123] (fun v123 wc => ∃ (kq : Nat) (x123_65 : Bool), v123 = .bool x123_65 ∧ Aside0 (stowageref16_Check.j5 kq x123_65 a0_0 a0_1 a0_2 a0_3 a0_4 a0_5 a0_6 l0_7 l0_8 = some r) ∧ Aside0 (kq ≤ kj43) ∧ Aside0 (wc.heap[gb168]? = some (.cells #[.int .i64 a0_0, .string a0_1, .string a0_2, .string a0_3, .int .i64 a0_4, .int .i64 a0_5, .string a0_6, (.slice A0_7 l0_7.length c0_7), (.slice A0_8 l0_8.length c0_8)] 34 (0, 0))) ∧ Aside0 (Below w.heap.size w wc))
                case first => as_aux_lemma =>
                 have H := HC66.out
                 clear HC66
                 by_cases c67 : a0_0 = 7
                 ·
                  rw [if_pos c67] at H
                  have c67b0 := beq_iff_eq.mpr c67
                  have c67b1 := bne_eq_false_iff_eq.mpr c67
                  clear c67
                  (first | rw [c67b0] | (simp only [i64_w, i32_w]; rw [c67b0]) | skip)
                  replace H := iteD H
                  rcases H with ⟨c68b0, H⟩ | ⟨c68b0, H⟩
                  ·
                   have H' := am H
                   clear H
                   obtain ⟨hcz69_0, hcz69_1, hcz69_2, hcz69_3, hcz69_4, hcz69_5, hcz69_6, hcz69_7, hcz69_8, hfz69_0, hfz69_1, hfz69_2, hfz69_3, hfz69_4, hfz69_5, hfz69_6, hfz69_7, hfz69_8⟩ := cz9 BK168.out
                   go_wp2
                   go_meet
                   case rel => exact ⟨_, (true), rs, H', ⟨by have := HJ1.out; have := HJ7.out; have := HJ15.out; have := HJ28.out; have := HJ43.out; first | omega | exact Nat.le_refl _⟩, ⟨bk BK168.out⟩, ⟨bws HB.out⟩⟩
                  ·
                   replace H := iteD H
                   rcases H with ⟨c70b0, H⟩ | ⟨c70b0, H⟩
                   ·
                    have H' := am H
                    clear H
                    obtain ⟨hcz71_0, hcz71_1, hcz71_2, hcz71_3, hcz71_4, hcz71_5, hcz71_6, hcz71_7, hcz71_8, hfz71_0, hfz71_1, hfz71_2, hfz71_3, hfz71_4, hfz71_5, hfz71_6, hfz71_7, hfz71_8⟩ := cz9 BK168.out
                    go_wp2
                    go_meet
                    case rel => exact ⟨_, (true), rs, H', ⟨by have := HJ1.out; have := HJ7.out; have := HJ15.out; have := HJ28.out; have := HJ43.out; first | omega | exact Nat.le_refl _⟩, ⟨bk BK168.out⟩, ⟨bws HB.out⟩⟩
                   ·
                    have H' := am H
                    clear H
                    obtain ⟨hcz72_0, hcz72_1, hcz72_2, hcz72_3, hcz72_4, hcz72_5, hcz72_6, hcz72_7, hcz72_8, hfz72_0, hfz72_1, hfz72_2, hfz72_3, hfz72_4, hfz72_5, hfz72_6, hfz72_7, hfz72_8⟩ := cz9 BK168.out
                    go_wp2
                    go_meet
                    case rel => exact ⟨_, (false), rs, H', ⟨by have := HJ1.out; have := HJ7.out; have := HJ15.out; have := HJ28.out; have := HJ43.out; first | omega | exact Nat.le_refl _⟩, ⟨bk BK168.out⟩, ⟨bws HB.out⟩⟩
                 ·
                  rw [if_neg c67] at H
                  have c67b0 := beq_eq_false_iff_ne.mpr c67
                  have c67b1 := bne_iff_ne.mpr c67
                  (first | rw [c67b0] | (simp only [i64_w, i32_w]; rw [c67b0]) | skip)
                  have H' := am H
                  clear H
                  obtain ⟨hcz73_0, hcz73_1, hcz73_2, hcz73_3, hcz73_4, hcz73_5, hcz73_6, hcz73_7, hcz73_8, hfz73_0, hfz73_1, hfz73_2, hfz73_3, hfz73_4, hfz73_5, hfz73_6, hfz73_7, hfz73_8⟩ := cz9 BK168.out
                  go_wp2
                  go_meet
                  case rel => exact ⟨_, ((a0_5 != 0)), rs, H', ⟨by have := HJ1.out; have := HJ7.out; have := HJ15.out; have := HJ28.out; have := HJ43.out; first | omega | exact Nat.le_refl _⟩, ⟨bk BK168.out⟩, ⟨bws HB.out⟩⟩
                case rest => as_aux_lemma =>
                 clear HC66
                 try clear c7
                 try clear c43
                 try clear c65
                 obtain ⟨kq, x123_65, rfl, HA, HJ65, BK168, HB⟩ := hcut
                 cases kq with
                 | zero => exact absurd HA.out (by simp [stowageref16_Check.j5])
                 | succ kj65 =>
                  have H := HA.out
                  clear HA
                  simp only [stowageref16_Check.j5] at H
                  by_cases c74 : x123_65 = true
                  ·
                   subst c74
                   rw [if_pos rfl] at H
                   obtain rfl := Option.some.inj H
                   go_wp2
                   go_ret
                   exact ⟨rf, bws HB.out⟩
                  · as_aux_lemma =>
                   replace c74 := Bool.eq_false_iff.mpr c74
                   subst c74
                   rw [if_neg (show ¬ (false = true) by decide)] at H
                   replace H := obE H
                   obtain ⟨⟨t179, t180⟩, A75, H⟩ := H
                   try dsimp only at H
                   have HC76 := am H
                   clear H
                   obtain ⟨hcz77_0, hcz77_1, hcz77_2, hcz77_3, hcz77_4, hcz77_5, hcz77_6, hcz77_7, hcz77_8, hfz77_0, hfz77_1, hfz77_2, hfz77_3, hfz77_4, hfz77_5, hfz77_6, hfz77_7, hfz77_8⟩ := cz9 BK168.out
                   go_upto_region 14 with (first | ((with_reducible refine gate_callee (f := 43) rfl ?_); refine goesL_ (some 127) rfl rfl Tryd.func43 (by kernel_rfl) rfl #[.slice A0_7 l0_7.length c0_7] rfl gl ?_; (with_reducible refine (stowageref13_Pieces.calls kj65 _ _ l0_7 t179 t180 _ ?side1 ?side2 A75.out).mono ?_); (case side1 => exact kC (Kd.C_below HR0_7.out HB.out)); (case side2 => exact HC0_7.out); rintro e w78 ⟨rfl, hb⟩; refine ⟨_, rfl, ?_⟩; replace BK168 := bb BK168.out hb; replace HB := am (below_step (bws HB.out) hb); (try clear hb)))
                   (try simp only [Act.put, List.setIfInBounds_toArray, List.set_cons_zero, List.set_cons_succ])
                   go_cut [163] (fun v163 wc => ∃ (kq : Nat) (x163_75 : Bool), v163 = .bool x163_75 ∧ Aside0 (stowageref16_Check.j6 kq x163_75 a0_0 a0_1 a0_2 a0_3 a0_4 a0_5 a0_6 l0_7 l0_8 = some r) ∧ Aside0 (kq ≤ kj65) ∧ Aside0 (wc.heap[gb168]? = some (.cells #[.int .i64 a0_0, .string a0_1, .string a0_2, .string a0_3, .int .i64 a0_4, .int .i64 a0_5, .string a0_6, (.slice A0_7 l0_7.length c0_7), (.slice A0_8 l0_8.length c0_8)] 34 (0, 0))) ∧ Aside0 (Below w.heap.size w wc))
                   case first => as_aux_lemma =>
                    have H := HC76.out
                    clear HC76
                    replace H := obE H
                    obtain ⟨t181, A79, H⟩ := H
                    by_cases c80 : t181 = true
                    · as_aux_lemma =>
                     subst c80
                     rw [if_pos rfl] at H
                     replace H := obE H
                     obtain ⟨t182, A81, H⟩ := H
                     by_cases c82 : t182 = true
                     · as_aux_lemma =>
                      subst c82
                      rw [if_pos rfl] at H
                      by_cases c83 : t180 = 0
                      · as_aux_lemma =>
                       rw [if_pos c83] at H
                       have c83b0 := beq_iff_eq.mpr c83
                       have c83b1 := bne_eq_false_iff_eq.mpr c83
                       clear c83
                       (first | rw [c83b0] | (simp only [i64_w, i32_w]; rw [c83b0]) | skip)
                       replace H := iteD H
                       rcases H with ⟨c84b0, H⟩ | ⟨c84b0, H⟩
                       ·
                        have H' := am H
                        clear H
                        obtain ⟨hcz85_0, hcz85_1, hcz85_2, hcz85_3, hcz85_4, hcz85_5, hcz85_6, hcz85_7, hcz85_8, hfz85_0, hfz85_1, hfz85_2, hfz85_3, hfz85_4, hfz85_5, hfz85_6, hfz85_7, hfz85_8⟩ := cz9 BK168.out
                        go_wp2_with (first | ((with_reducible refine gate_callee (f := 44) rfl ?_); refine goesL_ (some 132) rfl rfl Tryd.func44 (by kernel_rfl) rfl #[.int .i64 a0_0] rfl gl ?_; (with_reducible refine (stowageref16_hasSum.calls a0_0 true _ A79.out).mono ?_); rintro e w' ⟨rfl, ⟨nd, rfl⟩⟩; refine ⟨_, rfl, ?_⟩) | (go_at_call 45; (with_reducible refine (stowageref06_May.calls kj65 a0_6 true _ A81.out).mono ?_); rintro e w86 ⟨rfl, hb⟩; replace BK168 := bb BK168.out hb; replace HB := am (below_step (bws HB.out) hb); (try clear hb)))
                        go_meet
                        case rel => exact ⟨_, (true), rs, H', ⟨by have := HJ1.out; have := HJ7.out; have := HJ15.out; have := HJ28.out; have := HJ43.out; have := HJ65.out; first | omega | exact Nat.le_refl _⟩, ⟨bk BK168.out⟩, ⟨bws HB.out⟩⟩
                       ·
                        replace H := obE H
                        obtain ⟨t183, A87, H⟩ := H
                        by_cases c88 : t183 = true
                        ·
                         subst c88
                         rw [if_pos rfl] at H
                         have H' := am H
                         clear H
                         obtain ⟨hcz89_0, hcz89_1, hcz89_2, hcz89_3, hcz89_4, hcz89_5, hcz89_6, hcz89_7, hcz89_8, hfz89_0, hfz89_1, hfz89_2, hfz89_3, hfz89_4, hfz89_5, hfz89_6, hfz89_7, hfz89_8⟩ := cz9 BK168.out
                         go_wp2_with (first | ((with_reducible refine gate_callee (f := 44) rfl ?_); refine goesL_ (some 132) rfl rfl Tryd.func44 (by kernel_rfl) rfl #[.int .i64 a0_0] rfl gl ?_; (with_reducible refine (stowageref16_hasSum.calls a0_0 true _ A79.out).mono ?_); rintro e w' ⟨rfl, ⟨nd, rfl⟩⟩; refine ⟨_, rfl, ?_⟩) | (go_at_call 45; (with_reducible refine (stowageref06_May.calls kj65 a0_6 true _ A81.out).mono ?_); rintro e w90 ⟨rfl, hb⟩; replace BK168 := bb BK168.out hb; replace HB := am (below_step (bws HB.out) hb); (try clear hb); obtain ⟨hcz91_0, hcz91_1, hcz91_2, hcz91_3, hcz91_4, hcz91_5, hcz91_6, hcz91_7, hcz91_8, hfz91_0, hfz91_1, hfz91_2, hfz91_3, hfz91_4, hfz91_5, hfz91_6, hfz91_7, hfz91_8⟩ := cz9 BK168.out) | (go_at_call 44; (with_reducible refine (stowageref16_hasSum.calls a0_0 true _ A87.out).mono ?_); rintro e w' ⟨rfl, ⟨nd, rfl⟩⟩))
                         go_meet
                         case rel => exact ⟨_, (false), rs, H', ⟨by have := HJ1.out; have := HJ7.out; have := HJ15.out; have := HJ28.out; have := HJ43.out; have := HJ65.out; first | omega | exact Nat.le_refl _⟩, ⟨bk BK168.out⟩, ⟨bws HB.out⟩⟩
                        ·
                         replace c88 := Bool.eq_false_iff.mpr c88
                         subst c88
                         rw [if_neg (show ¬ (false = true) by decide)] at H
                         by_cases c92 : a0_6.toList = ([] : List UInt8)
                         ·
                          rw [if_pos c92] at H
                          have c92b0 := beq_iff_eq.mpr c92
                          have c92b1 := bne_eq_false_iff_eq.mpr c92
                          clear c92
                          have H' := am H
                          clear H
                          obtain ⟨hcz93_0, hcz93_1, hcz93_2, hcz93_3, hcz93_4, hcz93_5, hcz93_6, hcz93_7, hcz93_8, hfz93_0, hfz93_1, hfz93_2, hfz93_3, hfz93_4, hfz93_5, hfz93_6, hfz93_7, hfz93_8⟩ := cz9 BK168.out
                          go_wp2_with (first | ((with_reducible refine gate_callee (f := 44) rfl ?_); refine goesL_ (some 132) rfl rfl Tryd.func44 (by kernel_rfl) rfl #[.int .i64 a0_0] rfl gl ?_; (with_reducible refine (stowageref16_hasSum.calls a0_0 true _ A79.out).mono ?_); rintro e w' ⟨rfl, ⟨nd, rfl⟩⟩; refine ⟨_, rfl, ?_⟩) | (go_at_call 45; (with_reducible refine (stowageref06_May.calls kj65 a0_6 true _ A81.out).mono ?_); rintro e w94 ⟨rfl, hb⟩; replace BK168 := bb BK168.out hb; replace HB := am (below_step (bws HB.out) hb); (try clear hb); obtain ⟨hcz95_0, hcz95_1, hcz95_2, hcz95_3, hcz95_4, hcz95_5, hcz95_6, hcz95_7, hcz95_8, hfz95_0, hfz95_1, hfz95_2, hfz95_3, hfz95_4, hfz95_5, hfz95_6, hfz95_7, hfz95_8⟩ := cz9 BK168.out) | (go_at_call 44; (with_reducible refine (stowageref16_hasSum.calls a0_0 false _ A87.out).mono ?_); rintro e w' ⟨rfl, ⟨nd, rfl⟩⟩))
                          go_meet
                          case rel => exact ⟨_, (decide ((l0_7.length : Int) > 0)), rs, H', ⟨by have := HJ1.out; have := HJ7.out; have := HJ15.out; have := HJ28.out; have := HJ43.out; have := HJ65.out; first | omega | exact Nat.le_refl _⟩, ⟨bk BK168.out⟩, ⟨bws HB.out⟩⟩
                         ·
                          rw [if_neg c92] at H
                          have c92b0 := beq_eq_false_iff_ne.mpr c92
                          have c92b1 := bne_iff_ne.mpr c92
                          have H' := am H
                          clear H
                          obtain ⟨hcz96_0, hcz96_1, hcz96_2, hcz96_3, hcz96_4, hcz96_5, hcz96_6, hcz96_7, hcz96_8, hfz96_0, hfz96_1, hfz96_2, hfz96_3, hfz96_4, hfz96_5, hfz96_6, hfz96_7, hfz96_8⟩ := cz9 BK168.out
                          go_wp2_with (first | ((with_reducible refine gate_callee (f := 44) rfl ?_); refine goesL_ (some 132) rfl rfl Tryd.func44 (by kernel_rfl) rfl #[.int .i64 a0_0] rfl gl ?_; (with_reducible refine (stowageref16_hasSum.calls a0_0 true _ A79.out).mono ?_); rintro e w' ⟨rfl, ⟨nd, rfl⟩⟩; refine ⟨_, rfl, ?_⟩) | (go_at_call 45; (with_reducible refine (stowageref06_May.calls kj65 a0_6 true _ A81.out).mono ?_); rintro e w97 ⟨rfl, hb⟩; replace BK168 := bb BK168.out hb; replace HB := am (below_step (bws HB.out) hb); (try clear hb); obtain ⟨hcz98_0, hcz98_1, hcz98_2, hcz98_3, hcz98_4, hcz98_5, hcz98_6, hcz98_7, hcz98_8, hfz98_0, hfz98_1, hfz98_2, hfz98_3, hfz98_4, hfz98_5, hfz98_6, hfz98_7, hfz98_8⟩ := cz9 BK168.out) | (go_at_call 44; (with_reducible refine (stowageref16_hasSum.calls a0_0 false _ A87.out).mono ?_); rintro e w' ⟨rfl, ⟨nd, rfl⟩⟩))
                          go_meet
                          case rel => exact ⟨_, (true), rs, H', ⟨by have := HJ1.out; have := HJ7.out; have := HJ15.out; have := HJ28.out; have := HJ43.out; have := HJ65.out; first | omega | exact Nat.le_refl _⟩, ⟨bk BK168.out⟩, ⟨bws HB.out⟩⟩
                      ·
                       rw [if_neg c83] at H
                       have c83b0 := beq_eq_false_iff_ne.mpr c83
                       have c83b1 := bne_iff_ne.mpr c83
                       (first | rw [c83b0] | (simp only [i64_w, i32_w]; rw [c83b0]) | skip)
                       have H' := am H
                       clear H
                       obtain ⟨hcz99_0, hcz99_1, hcz99_2, hcz99_3, hcz99_4, hcz99_5, hcz99_6, hcz99_7, hcz99_8, hfz99_0, hfz99_1, hfz99_2, hfz99_3, hfz99_4, hfz99_5, hfz99_6, hfz99_7, hfz99_8⟩ := cz9 BK168.out
                       go_wp2_with (first | ((with_reducible refine gate_callee (f := 44) rfl ?_); refine goesL_ (some 132) rfl rfl Tryd.func44 (by kernel_rfl) rfl #[.int .i64 a0_0] rfl gl ?_; (with_reducible refine (stowageref16_hasSum.calls a0_0 true _ A79.out).mono ?_); rintro e w' ⟨rfl, ⟨nd, rfl⟩⟩; refine ⟨_, rfl, ?_⟩) | (go_at_call 45; (with_reducible refine (stowageref06_May.calls kj65 a0_6 true _ A81.out).mono ?_); rintro e w100 ⟨rfl, hb⟩; replace BK168 := bb BK168.out hb; replace HB := am (below_step (bws HB.out) hb); (try clear hb)))
                       go_meet
                       case rel => exact ⟨_, (true), rs, H', ⟨by have := HJ1.out; have := HJ7.out; have := HJ15.out; have := HJ28.out; have := HJ43.out; have := HJ65.out; first | omega | exact Nat.le_refl _⟩, ⟨bk BK168.out⟩, ⟨bws HB.out⟩⟩
                     ·
                      replace c82 := Bool.eq_false_iff.mpr c82
                      subst c82
                      rw [if_neg (show ¬ (false = true) by decide)] at H
                      have H' := am H
                      clear H
                      obtain ⟨hcz101_0, hcz101_1, hcz101_2, hcz101_3, hcz101_4, hcz101_5, hcz101_6, hcz101_7, hcz101_8, hfz101_0, hfz101_1, hfz101_2, hfz101_3, hfz101_4, hfz101_5, hfz101_6, hfz101_7, hfz101_8⟩ := cz9 BK168.out
                      go_wp2_with (first | ((with_reducible refine gate_callee (f := 44) rfl ?_); refine goesL_ (some 132) rfl rfl Tryd.func44 (by kernel_rfl) rfl #[.int .i64 a0_0] rfl gl ?_; (with_reducible refine (stowageref16_hasSum.calls a0_0 true _ A79.out).mono ?_); rintro e w' ⟨rfl, ⟨nd, rfl⟩⟩; refine ⟨_, rfl, ?_⟩) | (go_at_call 45; (with_reducible refine (stowageref06_May.calls kj65 a0_6 false _ A81.out).mono ?_); rintro e w102 ⟨rfl, hb⟩; replace BK168 := bb BK168.out hb; replace HB := am (below_step (bws HB.out) hb); (try clear hb)))
                      go_meet
                      case rel => exact ⟨_, (true), rs, H', ⟨by have := HJ1.out; have := HJ7.out; have := HJ15.out; have := HJ28.out; have := HJ43.out; have := HJ65.out; first | omega | exact Nat.le_refl _⟩, ⟨bk BK168.out⟩, ⟨bws HB.out⟩⟩
                    · as_aux_lemma =>
                     replace c80 := Bool.eq_false_iff.mpr c80
                     subst c80
                     rw [if_neg (show ¬ (false = true) by decide)] at H
                     replace H := obE H
                     obtain ⟨t184, A103, H⟩ := H
                     by_cases c104 : t184 = true
                     ·
                      subst c104
                      rw [if_pos rfl] at H
                      have H' := am H
                      clear H
                      obtain ⟨hcz105_0, hcz105_1, hcz105_2, hcz105_3, hcz105_4, hcz105_5, hcz105_6, hcz105_7, hcz105_8, hfz105_0, hfz105_1, hfz105_2, hfz105_3, hfz105_4, hfz105_5, hfz105_6, hfz105_7, hfz105_8⟩ := cz9 BK168.out
                      go_wp2_with (first | ((with_reducible refine gate_callee (f := 44) rfl ?_); refine goesL_ (some 132) rfl rfl Tryd.func44 (by kernel_rfl) rfl #[.int .i64 a0_0] rfl gl ?_; (with_reducible refine (stowageref16_hasSum.calls a0_0 false _ A79.out).mono ?_); rintro e w' ⟨rfl, ⟨nd, rfl⟩⟩; refine ⟨_, rfl, ?_⟩) | (go_at_call 44; (with_reducible refine (stowageref16_hasSum.calls a0_0 true _ A103.out).mono ?_); rintro e w' ⟨rfl, ⟨nd, rfl⟩⟩))
                      go_meet
                      case rel => exact ⟨_, (false), rs, H', ⟨by have := HJ1.out; have := HJ7.out; have := HJ15.out; have := HJ28.out; have := HJ43.out; have := HJ65.out; first | omega | exact Nat.le_refl _⟩, ⟨bk BK168.out⟩, ⟨bws HB.out⟩⟩
                     ·
                      replace c104 := Bool.eq_false_iff.mpr c104
                      subst c104
                      rw [if_neg (show ¬ (false = true) by decide)] at H
                      by_cases c106 : a0_6.toList = ([] : List UInt8)
                      ·
                       rw [if_pos c106] at H
                       have c106b0 := beq_iff_eq.mpr c106
                       have c106b1 := bne_eq_false_iff_eq.mpr c106
                       clear c106
                       have H' := am H
                       clear H
                       obtain ⟨hcz107_0, hcz107_1, hcz107_2, hcz107_3, hcz107_4, hcz107_5, hcz107_6, hcz107_7, hcz107_8, hfz107_0, hfz107_1, hfz107_2, hfz107_3, hfz107_4, hfz107_5, hfz107_6, hfz107_7, hfz107_8⟩ := cz9 BK168.out
                       go_wp2_with (first | ((with_reducible refine gate_callee (f := 44) rfl ?_); refine goesL_ (some 132) rfl rfl Tryd.func44 (by kernel_rfl) rfl #[.int .i64 a0_0] rfl gl ?_; (with_reducible refine (stowageref16_hasSum.calls a0_0 false _ A79.out).mono ?_); rintro e w' ⟨rfl, ⟨nd, rfl⟩⟩; refine ⟨_, rfl, ?_⟩) | (go_at_call 44; (with_reducible refine (stowageref16_hasSum.calls a0_0 false _ A103.out).mono ?_); rintro e w' ⟨rfl, ⟨nd, rfl⟩⟩))
                       go_meet
                       case rel => exact ⟨_, (decide ((l0_7.length : Int) > 0)), rs, H', ⟨by have := HJ1.out; have := HJ7.out; have := HJ15.out; have := HJ28.out; have := HJ43.out; have := HJ65.out; first | omega | exact Nat.le_refl _⟩, ⟨bk BK168.out⟩, ⟨bws HB.out⟩⟩
                      ·
                       rw [if_neg c106] at H
                       have c106b0 := beq_eq_false_iff_ne.mpr c106
                       have c106b1 := bne_iff_ne.mpr c106
                       have H' := am H
                       clear H
                       obtain ⟨hcz108_0, hcz108_1, hcz108_2, hcz108_3, hcz108_4, hcz108_5, hcz108_6, hcz108_7, hcz108_8, hfz108_0, hfz108_1, hfz108_2, hfz108_3, hfz108_4, hfz108_5, hfz108_6, hfz108_7, hfz108_8⟩ := cz9 BK168.out
                       go_wp2_with (first | ((with_reducible refine gate_callee (f := 44) rfl ?_); refine goesL_ (some 132) rfl rfl Tryd.func44 (by kernel_rfl) rfl #[.int .i64 a0_0] rfl gl ?_; (with_reducible refine (stowageref16_hasSum.calls a0_0 false _ A79.out).mono ?_); rintro e w' ⟨rfl, ⟨nd, rfl⟩⟩; refine ⟨_, rfl, ?_⟩) | (go_at_call 44; (with_reducible refine (stowageref16_hasSum.calls a0_0 false _ A103.out).mono ?_); rintro e w' ⟨rfl, ⟨nd, rfl⟩⟩))
                       go_meet
                       case rel => exact ⟨_, (true), rs, H', ⟨by have := HJ1.out; have := HJ7.out; have := HJ15.out; have := HJ28.out; have := HJ43.out; have := HJ65.out; first | omega | exact Nat.le_refl _⟩, ⟨bk BK168.out⟩, ⟨bws HB.out⟩⟩
                   case rest => as_aux_lemma =>
                    clear HC76
                    try clear c7
                    try clear c43
                    try clear c74
                    try clear hcz77_0 hcz77_1 hcz77_2 hcz77_3 hcz77_4 hcz77_5 hcz77_6 hcz77_7 hcz77_8 hfz77_0 hfz77_1 hfz77_2 hfz77_3 hfz77_4 hfz77_5 hfz77_6 hfz77_7 hfz77_8
                    obtain ⟨kq, x163_75, rfl, HA, HJ75, BK168, HB⟩ := hcut
                    cases kq with
                    | zero => exact absurd HA.out (by simp [stowageref16_Check.j6])
                    | succ kj75 =>
                     have H := HA.out
                     clear HA
                     simp only [stowageref16_Check.j6] at H
                     by_cases c109 : x163_75 = true
                     ·
                      subst c109
                      rw [if_pos rfl] at H
                      obtain rfl := Option.some.inj H
                      go_wp2
                      go_ret
                      exact ⟨rf, bws HB.out⟩
                     · as_aux_lemma =>
                      replace c109 := Bool.eq_false_iff.mpr c109
                      subst c109
                      rw [if_neg (show ¬ (false = true) by decide)] at H
                      have HC110 := am H
                      clear H
                      go_upto_region 16 with (fail)
                      go_cut [178] (fun v178 wc => ∃ (kq : Nat) (x178_109 : Bool), v178 = .bool x178_109 ∧ Aside0 (stowageref16_Check.j7 kq x178_109 a0_0 a0_1 a0_2 a0_3 a0_4 a0_5 a0_6 l0_7 l0_8 = some r) ∧ Aside0 (kq ≤ kj75) ∧ Aside0 (wc.heap[gb168]? = some (.cells #[.int .i64 a0_0, .string a0_1, .string a0_2, .string a0_3, .int .i64 a0_4, .int .i64 a0_5, .string a0_6, (.slice A0_7 l0_7.length c0_7), (.slice A0_8 l0_8.length c0_8)] 34 (0, 0))) ∧ Aside0 (Below w.heap.size w wc))
                      case first => as_aux_lemma =>
                       have H := HC110.out
                       clear HC110
                       by_cases c111 : (l0_8.length : Int) > 100
                       ·
                        rw [if_pos c111] at H
                        have c111b0 := decide_eq_true c111
                        have c111b1 : decide (100 < l0_8.length) = true := decide_eq_true (by omega)
                        clear c111
                        (first | rw [c111b0] | (simp only [i64_w, i32_w]; rw [c111b0]) | skip)
                        have H' := am H
                        clear H
                        obtain ⟨hcz112_0, hcz112_1, hcz112_2, hcz112_3, hcz112_4, hcz112_5, hcz112_6, hcz112_7, hcz112_8, hfz112_0, hfz112_1, hfz112_2, hfz112_3, hfz112_4, hfz112_5, hfz112_6, hfz112_7, hfz112_8⟩ := cz9 BK168.out
                        go_wp2
                        go_meet
                        case rel => exact ⟨_, (true), rs, H', ⟨by have := HJ1.out; have := HJ7.out; have := HJ15.out; have := HJ28.out; have := HJ43.out; have := HJ65.out; have := HJ75.out; first | omega | exact Nat.le_refl _⟩, ⟨bk BK168.out⟩, ⟨bws HB.out⟩⟩
                       ·
                        rw [if_neg c111] at H
                        have c111b0 := decide_eq_false c111
                        have c111b1 : decide (100 < l0_8.length) = false := decide_eq_false (by omega)
                        clear c111
                        (first | rw [c111b0] | (simp only [i64_w, i32_w]; rw [c111b0]) | skip)
                        by_cases c113 : a0_0 = 8
                        ·
                         rw [if_pos c113] at H
                         have c113b0 := beq_iff_eq.mpr c113
                         have c113b1 := bne_eq_false_iff_eq.mpr c113
                         clear c113
                         have H' := am H
                         clear H
                         obtain ⟨hcz114_0, hcz114_1, hcz114_2, hcz114_3, hcz114_4, hcz114_5, hcz114_6, hcz114_7, hcz114_8, hfz114_0, hfz114_1, hfz114_2, hfz114_3, hfz114_4, hfz114_5, hfz114_6, hfz114_7, hfz114_8⟩ := cz9 BK168.out
                         go_wp2
                         go_meet
                         case rel => exact ⟨_, (false), rs, H', ⟨by have := HJ1.out; have := HJ7.out; have := HJ15.out; have := HJ28.out; have := HJ43.out; have := HJ65.out; have := HJ75.out; first | omega | exact Nat.le_refl _⟩, ⟨bk BK168.out⟩, ⟨bws HB.out⟩⟩
                        ·
                         rw [if_neg c113] at H
                         have c113b0 := beq_eq_false_iff_ne.mpr c113
                         have c113b1 := bne_iff_ne.mpr c113
                         have H' := am H
                         clear H
                         obtain ⟨hcz115_0, hcz115_1, hcz115_2, hcz115_3, hcz115_4, hcz115_5, hcz115_6, hcz115_7, hcz115_8, hfz115_0, hfz115_1, hfz115_2, hfz115_3, hfz115_4, hfz115_5, hfz115_6, hfz115_7, hfz115_8⟩ := cz9 BK168.out
                         go_wp2
                         go_meet
                         case rel => exact ⟨_, (decide ((l0_8.length : Int) > 0)), rs, H', ⟨by have := HJ1.out; have := HJ7.out; have := HJ15.out; have := HJ28.out; have := HJ43.out; have := HJ65.out; have := HJ75.out; first | omega | exact Nat.le_refl _⟩, ⟨bk BK168.out⟩, ⟨bws HB.out⟩⟩
                      case rest => as_aux_lemma =>
                       clear HC110
                       try clear c109
                       try clear hcz77_0 hcz77_1 hcz77_2 hcz77_3 hcz77_4 hcz77_5 hcz77_6 hcz77_7 hcz77_8 hfz77_0 hfz77_1 hfz77_2 hfz77_3 hfz77_4 hfz77_5 hfz77_6 hfz77_7 hfz77_8
                       obtain ⟨kq, x178_109, rfl, HA, HJ109, BK168, HB⟩ := hcut
                       cases kq with
                       | zero => exact absurd HA.out (by simp [stowageref16_Check.j7])
                       | succ kj109 =>
                        have H := HA.out
                        clear HA
                        simp only [stowageref16_Check.j7] at H
                        by_cases c116 : x178_109 = true
                        ·
                         subst c116
                         rw [if_pos rfl] at H
                         obtain rfl := Option.some.inj H
                         go_wp2
                         go_ret
                         exact ⟨rf, bws HB.out⟩
                        · as_aux_lemma =>
                         replace c116 := Bool.eq_false_iff.mpr c116
                         subst c116
                         rw [if_neg (show ¬ (false = true) by decide)] at H
                         have H' := am H
                         clear H
                         go_wp2
                         go_loopg [5] kj109 (fun kq v5 w' => ∃ (x5_9 : Int), v5 = .int .i64 x5_9 ∧ Aside0 (stowageref16_Check.l0 kq x5_9 a0_0 a0_1 a0_2 a0_3 a0_4 a0_5 a0_6 l0_7 l0_8 = some r) ∧ Aside0 (kq ≤ kj109) ∧ Aside0 (w'.heap[gb168]? = some (.cells #[.int .i64 a0_0, .string a0_1, .string a0_2, .string a0_3, .int .i64 a0_4, .int .i64 a0_5, .string a0_6, (.slice A0_7 l0_7.length c0_7), (.slice A0_8 l0_8.length c0_8)] 34 (0, 0))) ∧ Aside0 (Below w.heap.size w w'))
                         case atStart => exact ⟨(0), rs, H', ⟨Nat.le_refl _⟩, ⟨bk BK168.out⟩, ⟨bws HB.out⟩⟩
                         case round => as_aux_lemma =>
                          clear H'
                          try clear c109
                          try clear c116
                          try clear hcz77_0 hcz77_1 hcz77_2 hcz77_3 hcz77_4 hcz77_5 hcz77_6 hcz77_7 hcz77_8 hfz77_0 hfz77_1 hfz77_2 hfz77_3 hfz77_4 hfz77_5 hfz77_6 hfz77_7 hfz77_8
                          obtain ⟨x5_9, rfl, HA, HK9, BK168, HB⟩ := hrel
                          cases gk with
                          | zero => exact absurd HA.out (by simp [stowageref16_Check.l0])
                          | succ k9 =>
                           have H := HA.out
                           clear HA
                           simp only [stowageref16_Check.l0] at H
                           replace H := iteD H
                           rcases H with ⟨c117b0, H⟩ | ⟨c117b0, H⟩
                           · as_aux_lemma =>
                            replace H := iteD H
                            rcases H with ⟨c118b0, H⟩ | ⟨_, H⟩
                            · as_aux_lemma =>
                             replace H := iteD H
                             rcases H with ⟨c119b0, H⟩ | ⟨c119b0, H⟩
                             ·
                              obtain rfl := Option.some.inj H
                              obtain ⟨hcz120_0, hcz120_1, hcz120_2, hcz120_3, hcz120_4, hcz120_5, hcz120_6, hcz120_7, hcz120_8, hfz120_0, hfz120_1, hfz120_2, hfz120_3, hfz120_4, hfz120_5, hfz120_6, hfz120_7, hfz120_8⟩ := cz9 BK168.out
                              have p185 := pz x5_9
                              have q185 := pl x5_9 (l0_8.length : Int)
                              obtain ⟨ad185, e185, hx185_0, hx185_1⟩ := at_T61 HR0_8.out x5_9 (of_eq_true p185) (of_eq_true q185)
                              cases e185
                              replace hx185_0 := bc HB.out hx185_0
                              replace hx185_1 := bc HB.out hx185_1
                              go_wp2
                              go_ret
                              exact ⟨rf, bws HB.out⟩
                             · as_aux_lemma =>
                              replace H := iteD H
                              rcases H with ⟨c121b0, H⟩ | ⟨c121b0, H⟩
                              ·
                               obtain rfl := Option.some.inj H
                               obtain ⟨hcz122_0, hcz122_1, hcz122_2, hcz122_3, hcz122_4, hcz122_5, hcz122_6, hcz122_7, hcz122_8, hfz122_0, hfz122_1, hfz122_2, hfz122_3, hfz122_4, hfz122_5, hfz122_6, hfz122_7, hfz122_8⟩ := cz9 BK168.out
                               have p185 := pz x5_9
                               have q185 := pl x5_9 (l0_8.length : Int)
                               obtain ⟨ad185, e185, hx185_0, hx185_1⟩ := at_T61 HR0_8.out x5_9 (of_eq_true p185) (of_eq_true q185)
                               cases e185
                               replace hx185_0 := bc HB.out hx185_0
                               replace hx185_1 := bc HB.out hx185_1
                               have p186 := pz x5_9
                               have q186 := pl x5_9 (l0_8.length : Int)
                               obtain ⟨ad186, e186, hx186_0, hx186_1⟩ := at_T61 HR0_8.out x5_9 (of_eq_true p186) (of_eq_true q186)
                               obtain rfl : ad185 = ad186 := (by injection e186)
                               replace hx186_0 := bc HB.out hx186_0
                               replace hx186_1 := bc HB.out hx186_1
                               go_wp2
                               go_ret
                               exact ⟨rf, bws HB.out⟩
                              · as_aux_lemma =>
                               replace H := obE H
                               obtain ⟨t188, A123, H⟩ := H
                               by_cases c124 : t188 = true
                               ·
                                subst c124
                                rw [if_pos rfl] at H
                                have H' := am H
                                clear H
                                obtain ⟨hcz125_0, hcz125_1, hcz125_2, hcz125_3, hcz125_4, hcz125_5, hcz125_6, hcz125_7, hcz125_8, hfz125_0, hfz125_1, hfz125_2, hfz125_3, hfz125_4, hfz125_5, hfz125_6, hfz125_7, hfz125_8⟩ := cz9 BK168.out
                                have p185 := pz x5_9
                                have q185 := pl x5_9 (l0_8.length : Int)
                                obtain ⟨ad185, e185, hx185_0, hx185_1⟩ := at_T61 HR0_8.out x5_9 (of_eq_true p185) (of_eq_true q185)
                                cases e185
                                replace hx185_0 := bc HB.out hx185_0
                                replace hx185_1 := bc HB.out hx185_1
                                have p186 := pz x5_9
                                have q186 := pl x5_9 (l0_8.length : Int)
                                obtain ⟨ad186, e186, hx186_0, hx186_1⟩ := at_T61 HR0_8.out x5_9 (of_eq_true p186) (of_eq_true q186)
                                obtain rfl : ad185 = ad186 := (by injection e186)
                                replace hx186_0 := bc HB.out hx186_0
                                replace hx186_1 := bc HB.out hx186_1
                                have p187 := pz x5_9
                                have q187 := pl x5_9 (l0_8.length : Int)
                                obtain ⟨ad187, e187, hx187_0, hx187_1⟩ := at_T61 HR0_8.out x5_9 (of_eq_true p187) (of_eq_true q187)
                                obtain rfl : ad185 = ad187 := (by injection e187)
                                replace hx187_0 := bc HB.out hx187_0
                                replace hx187_1 := bc HB.out hx187_1
                                go_wp2_with (first | (go_at_call 45; (with_reducible refine (stowageref06_May.calls k9 ((rd_T61 l0_8 x5_9).f1) true _ A123.out).mono ?_); rintro e w126 ⟨rfl, hb⟩; replace BK168 := bb BK168.out hb; replace HB := am (below_step (bws HB.out) hb); (try clear hb)))
                                go_roundg k9
                                case measure => have := HJ1.out; have := HJ7.out; have := HJ15.out; have := HJ28.out; have := HJ43.out; have := HJ65.out; have := HJ75.out; have := HJ109.out; have := HK9.out; omega
                                case rel => exact ⟨(wrap64 (x5_9 + 1)), rs, H', ⟨by have := HJ1.out; have := HJ7.out; have := HJ15.out; have := HJ28.out; have := HJ43.out; have := HJ65.out; have := HJ75.out; have := HJ109.out; have := HK9.out; omega⟩, ⟨bk BK168.out⟩, ⟨bws HB.out⟩⟩
                               ·
                                replace c124 := Bool.eq_false_iff.mpr c124
                                subst c124
                                rw [if_neg (show ¬ (false = true) by decide)] at H
                                obtain rfl := Option.some.inj H
                                obtain ⟨hcz127_0, hcz127_1, hcz127_2, hcz127_3, hcz127_4, hcz127_5, hcz127_6, hcz127_7, hcz127_8, hfz127_0, hfz127_1, hfz127_2, hfz127_3, hfz127_4, hfz127_5, hfz127_6, hfz127_7, hfz127_8⟩ := cz9 BK168.out
                                have p185 := pz x5_9
                                have q185 := pl x5_9 (l0_8.length : Int)
                                obtain ⟨ad185, e185, hx185_0, hx185_1⟩ := at_T61 HR0_8.out x5_9 (of_eq_true p185) (of_eq_true q185)
                                cases e185
                                replace hx185_0 := bc HB.out hx185_0
                                replace hx185_1 := bc HB.out hx185_1
                                have p186 := pz x5_9
                                have q186 := pl x5_9 (l0_8.length : Int)
                                obtain ⟨ad186, e186, hx186_0, hx186_1⟩ := at_T61 HR0_8.out x5_9 (of_eq_true p186) (of_eq_true q186)
                                obtain rfl : ad185 = ad186 := (by injection e186)
                                replace hx186_0 := bc HB.out hx186_0
                                replace hx186_1 := bc HB.out hx186_1
                                have p187 := pz x5_9
                                have q187 := pl x5_9 (l0_8.length : Int)
                                obtain ⟨ad187, e187, hx187_0, hx187_1⟩ := at_T61 HR0_8.out x5_9 (of_eq_true p187) (of_eq_true q187)
                                obtain rfl : ad185 = ad187 := (by injection e187)
                                replace hx187_0 := bc HB.out hx187_0
                                replace hx187_1 := bc HB.out hx187_1
                                go_wp2_with (first | (go_at_call 45; (with_reducible refine (stowageref06_May.calls k9 ((rd_T61 l0_8 x5_9).f1) false _ A123.out).mono ?_); rintro e w128 ⟨rfl, hb⟩; replace BK168 := bb BK168.out hb; replace HB := am (below_step (bws HB.out) hb); (try clear hb)))
                                go_ret
                                exact ⟨rf, bws HB.out⟩
                            ·
                             exact absurd H (by simp)
                           ·
                            obtain rfl := Option.some.inj H
                            obtain ⟨hcz129_0, hcz129_1, hcz129_2, hcz129_3, hcz129_4, hcz129_5, hcz129_6, hcz129_7, hcz129_8, hfz129_0, hfz129_1, hfz129_2, hfz129_3, hfz129_4, hfz129_5, hfz129_6, hfz129_7, hfz129_8⟩ := cz9 BK168.out
                            go_wp2
                            go_ret
                            exact ⟨rf, bws HB.out⟩
end Go.Proofs.YtdidopoalmkhlaaDoor.Ot
end
section
namespace Go.Proofs.YtdidopoalmkhlaaDoor.Ot
open Go.RowKit Go.Proofs.YtdidopoalmkhlaaDoorW.PrintWords Go.Proofs.YtdidopoalmkhlaaDoorW.PrintLast Go.Proofs.YtdidopoalmkhlaaDoorW.PrintMore
attribute [local go_sem] max2_int min2_int max_two min_two max_three min_three max_four min_four
set_option linter.unusedVariables false
set_option linter.unusedSimpArgs false
def stowageref01_Number.f : Nat → Int → Option (ByteArray)
 | 0, _ => none
 | k + 1, a0 => if a0 < 128 then (some (strOfNums (([(a0) % 256] : List Int)))) else ((some (([(IntKind.u64.wrap ((Int.tmod a0 128) + 128)) % 256] : List Int) : List Int)).bind fun y192 => ((stowageref01_Number.f k (IntKind.u64.wrap (Int.tdiv a0 128))).bind fun t195 => (if (strOfNums y192).size + t195.size ≤ 9223372036854775807 then (some ((strOfNums y192) ++ t195)) else (none))))
theorem stowageref01_Number.mono_l : ∀ k, (∀ y0, LeO (stowageref01_Number.f k y0) (stowageref01_Number.f (k + 1) y0))
 | 0 => fun _ r h => by simp [stowageref01_Number.f] at h
 | k + 1 => by
  have ih0 := stowageref01_Number.mono_l k
  ·
   intro y0
   unfold stowageref01_Number.f
   repeat' (with_reducible first | exact ih0 _ | exact LeO.refl _ | exact LeO.none _ | refine LeO.ite ?_ ?_ | refine LeO.bind ?_ (fun _ => ?_))
theorem stowageref01_Number.mono : ∀ a0 k, LeO (stowageref01_Number.f k a0) (stowageref01_Number.f (k + 1) a0) := by
 intro a0 k
 have ih0 := stowageref01_Number.mono_l k
 exact ih0 a0
def stowageref01_Number.T3 : Bool × List (List Nat × List Nat) := (true, [([], []), ([0], [0]), ([1], [1]), ([2], [2]), ([3], [3]), ([4], [4]), ([], []), ([6], [6]), ([7], [7]), ([5, 8], [5, 8]), ([9, 8, 0, 1, 2, 3, 4, 5, 6, 7, 8, 9], [9])])
def stowageref01_Number.B3 : List Nat := [0, 1, 3, 7, 15, 31, 0, 64, 192, 511, 1023]
theorem stowageref01_Number.tab3 : rtab .any (opsOf Tryd.f84 3) = stowageref01_Number.T3 := by kernel_rfl
theorem stowageref01_Number.bits3 : waitsOk stowageref01_Number.T3.2 stowageref01_Number.B3 = true := by kernel_rfl
set_option maxHeartbeats 8000000 in
set_option maxRecDepth 100000 in
theorem stowageref01_Number.calls (k : Nat) : ∀ (a0 : Int) (r : ByteArray) (w : World) (h : stowageref01_Number.f k a0 = some r),
  Calls Tryd.prog 84 #[.int .u64 a0] w fun e w' => e = .returned (.string r) ∧ Below w.heap.size w w' := by
 induction k using Nat.strongRecOn with
 | _ k ih =>
 intro a0 r w h
 cases k with
 | zero => exact absurd h (by simp [stowageref01_Number.f])
 | succ k =>
 simp only [stowageref01_Number.f] at h
 have HB := am (Below.refl w.heap.size w)
 have H : (if a0 < 128 then (some (strOfNums (([(a0) % 256] : List Int)))) else ((some (([(IntKind.u64.wrap ((Int.tmod a0 128) + 128)) % 256] : List Int) : List Int)).bind fun y192 => ((stowageref01_Number.f k (IntKind.u64.wrap (Int.tdiv a0 128))).bind fun t195 => (if (strOfNums y192).size + t195.size ≤ 9223372036854775807 then (some ((strOfNums y192) ++ t195)) else (none))))) = some r := h
 clear h
 replace H := iteD H
 rcases H with ⟨c2b0, H⟩ | ⟨c2b0, H⟩
 ·
  obtain ⟨y189, hy189⟩ : ∃ y_ : List Int, y_ = (([(a0) % 256] : List Int)) := ⟨_, rfl⟩
  replace H : (some (strOfNums y189)) = some r := by first | (rw [hy189]; with_reducible exact H) | (have H2_ := (Option.bind_some _ _).symm.trans H; rw [hy189]; with_reducible exact H2_) | (have H2_ := (Option.bind_some _ _).symm.trans H; with_reducible exact H2_) | with_reducible exact H | (rw [hy189]; exact H) | exact H
  have Ny189 := am hy189
  clear hy189
  obtain rfl := Option.some.inj H
  go_enter Tryd.func84, Tryd.ntmps84
  go_wp2_with (first | ((with_reducible refine gate_dst (N := 7) rfl ?_); refine Kd.R_lit (Kd.int .u8) _ 5 ?hg (N := 7) ?hd (xs := ([(a0) % 256] : List Int)) (inner := [.int .u8 ((a0) % 256)]) (ok := fun _ => True) (okp := fun _ => True) ?hr ?hp (fun _ hk => hk) trivial (Below.refl _ _) (Nat.le_refl _) (by simp) ?_; (case hd => rfl); (case hg => rfl); (case hr => first | (go_simp; done) | (go_simp; rfl)); (case hp => exact (Reps.one (show Kd.M (Kd.int .u8) _ _ _ ((a0) % 256) [.int .u8 ((a0) % 256)] from rfl) (Reps.none _ _))); intro v190 w3 ho4 hb hg_ hnew_; clear hg_ hnew_; (first | rw [← Ny189.out] at ho4 | (simp only [Int.reduceToNat] at ho4; rw [← Ny189.out] at ho4)); have HO191 := am (Kd.R_lower ho4 (below_size (bw HB.out))); replace HB := am (below_step (bw HB.out) hb); clear hb ho4; have hcv5 := own_string (P := Tryd.prog) Tryd.underlying101 Tryd.underlying5 Tryd.underlying9 (Kd.own_of_R HO191.out)))
  go_ret
  exact ⟨rf, bw HB.out⟩
 ·
  obtain ⟨y192, hy192⟩ : ∃ y_ : List Int, y_ = (([(IntKind.u64.wrap ((Int.tmod a0 128) + 128)) % 256] : List Int)) := ⟨_, rfl⟩
  replace H : ((stowageref01_Number.f k (IntKind.u64.wrap (Int.tdiv a0 128))).bind fun t195 => (if (strOfNums y192).size + t195.size ≤ 9223372036854775807 then (some ((strOfNums y192) ++ t195)) else (none))) = some r := by first | (rw [hy192]; with_reducible exact H) | (have H2_ := (Option.bind_some _ _).symm.trans H; rw [hy192]; with_reducible exact H2_) | (have H2_ := (Option.bind_some _ _).symm.trans H; with_reducible exact H2_) | with_reducible exact H | (rw [hy192]; exact H) | exact H
  have Ny192 := am hy192
  clear hy192
  replace H := obE H
  obtain ⟨t195, A6, H⟩ := H
  by_cases c7 : (strOfNums y192).size + t195.size ≤ 9223372036854775807
  ·
   rw [if_pos c7] at H
   have c7b0 := eq_true c7
   have c7b1 := decide_eq_true c7
   try have c7b2 : (9223372036854775807 < (strOfNums y192).size + t195.size) = False := eq_false (Nat.not_lt.2 c7)
   (try (have c7b3 := c7b2; simp only [ByteArray.size_append] at c7b3))
   obtain rfl := Option.some.inj H
   go_enter Tryd.func84, Tryd.ntmps84
   try go_wp2
   replace HB := am (below_drew1 HB.out)
   refine start_ (n := 11) (S := fun w' => True) (ds := []) #[false, false, false, false, false, false, false, false, false, false, false] (by kernel_rfl) rfl rfl trivial (fun hHeld => ?_); refine with_tabW stowageref01_Number.tab3 stowageref01_Number.bits3 (fun HT_ HW_ => ?_)
   generalize w.drew = w8 at HB hHeld ⊢
   refine pu 0 (some 9) HT_.out ?_
   refine pu 1 (some 10) HT_.out ?_
   refine pu 2 (some 11) HT_.out ?_
   refine pu 3 (some 12) HT_.out ?_
   refine pu 6 (some 15) HT_.out ?_
   refine pu 7 (some 16) HT_.out ?_
   refine join_ (σ := Value) 2 #[true, true, true, true, true, true, true, true, true, false, false] (fun s_ => [(13, s_), (14, .string (strOfNums y192)), (17, .string t195)]) (fun s_ w' => (Kd.R (Kd.int .u8) 5 w' w.heap.size (fun _ => True) s_ y192) ∧ (Below w.heap.size w w')) ?_ ?_
   rotate_left
   ·
    intro hCont
    refine two_ (i := 4) (j := 8) (Ni := some 13) (Nj := some 17) #[true, true, true, true, true, false, true, true, false, false, false] #[true, true, true, true, false, false, true, true, true, false, false] rfl rfl rfl rfl (two_of HT_.out (by kernel_rfl)) (by decide) (by decide) (fun K hK => ?_) (fun K hK => ?_)
    ·
     skip
     refine Kd.R_lit_step (Kd.int .u8) _ 5 ?hg (N := 13) ?hd (xs := ([(IntKind.u64.wrap ((Int.tmod a0 128) + 128)) % 256] : List Int)) (inner := [.int .u8 ((IntKind.u64.wrap ((Int.tmod a0 128) + 128)) % 256)]) (ok := fun _ => True) (okp := fun _ => True) ?hr ?hp (fun _ hk => hk) trivial (Below.refl _ _) (Nat.le_refl _) (by simp) ?_; (case hd => rfl); (case hg => rfl); (case hr => first | (go_simp; done) | (go_simp; rfl)); (case hp => exact (Reps.one (show Kd.M (Kd.int .u8) _ _ _ ((IntKind.u64.wrap ((Int.tmod a0 128) + 128)) % 256) [.int .u8 ((IntKind.u64.wrap ((Int.tmod a0 128) + 128)) % 256)] from rfl) (Reps.none _ _)))
     intro v193 w9 ho10 hb hg_ hnew_
     clear hg_ hnew_
     (first | rw [← Ny192.out] at ho10 | (simp only [Int.reduceToNat] at ho10; rw [← Ny192.out] at ho10))
     have HO194 := am (Kd.R_lower ho10 (below_size (bw HB.out)))
     replace HB := am (below_step (bw HB.out) hb)
     clear hb ho10
     refine hK.out _ _ trivial (fun hHeld => ?_)
     clear hK K
     refine norm_ (a' := ?_) ?_ ?_
     rotate_left
     ·
      show Act.put _ (some 13) _ = _
      simp only [Act.put, List.setIfInBounds_toArray, List.set_cons_zero, List.set_cons_succ, i64_w, i32_w]
      rfl
     refine two_ (i := 5) (j := 8) (Ni := some 14) (Nj := some 17) #[true, true, true, true, true, true, true, true, false, false, false] #[true, true, true, true, true, false, true, true, true, false, false] rfl rfl rfl rfl (two_of HT_.out (by kernel_rfl)) (by decide) (by decide) (fun K hK => ?_) (fun K hK => ?_)
     ·
      skip
      have hcv11 := own_string (P := Tryd.prog) Tryd.underlying101 Tryd.underlying5 Tryd.underlying9 (Kd.own_of_R HO194.out)
      refine value_ (w1 := ?_) (v := ?_) (by rfl) rfl ?_ ?_
      rotate_left 2
      ·
       go_simp
       constructor
       ·
        rfl
       ·
        rfl
      clear hcv11
      refine hK.out _ _ trivial (fun hHeld => ?_)
      clear hK K
      refine norm_ (a' := ?_) ?_ ?_
      rotate_left
      ·
       show Act.put _ (some 14) _ = _
       simp only [Act.put, List.setIfInBounds_toArray, List.set_cons_zero, List.set_cons_succ, i64_w, i32_w]
       rfl
      refine one_ (i := 8) (N := some 17) #[true, true, true, true, true, true, true, true, true, false, false] rfl rfl (one_of HT_.out (by kernel_rfl)) (by decide) (fun K hK => ?_)
      refine goes_ Tryd.func84 (by kernel_rfl) rfl #[.int .u64 (IntKind.u64.wrap (Int.tdiv a0 128))] (by rfl) rfl rfl gl ?_
      with_reducible refine (ih k (by omega) (IntKind.u64.wrap (Int.tdiv a0 128)) t195 _ A6.out).mono ?_
      rintro e w12 ⟨rfl, hb⟩
      refine ⟨_, rfl, ?_⟩
      replace HO194 := am (Kd.R_below (kR HO194.out) hb)
      replace HB := am (below_step (bw HB.out) hb)
      (try clear hb)
      (try clear hb2)
      (try clear hk)
      (try clear hi)
      refine hK.out _ _ trivial (fun hHeld => ?_)
      clear hK K
      refine norm_ (a' := ?_) ?_ ?_
      rotate_left
      ·
       show Act.put _ (some 17) _ = _
       simp only [Act.put, List.setIfInBounds_toArray, List.set_cons_zero, List.set_cons_succ, i64_w, i32_w]
       rfl
      exact norm_ (by simp only [putAll, Act.put, List.setIfInBounds_toArray, List.set_cons_zero, List.set_cons_succ]) (hCont (v193) _ ⟨(kR HO194.out), (bw HB.out)⟩)
     ·
      skip
      refine goes_ Tryd.func84 (by kernel_rfl) rfl #[.int .u64 (IntKind.u64.wrap (Int.tdiv a0 128))] (by rfl) rfl rfl gl ?_
      with_reducible refine (ih k (by omega) (IntKind.u64.wrap (Int.tdiv a0 128)) t195 _ A6.out).mono ?_
      rintro e w11 ⟨rfl, hb⟩
      refine ⟨_, rfl, ?_⟩
      replace HO194 := am (Kd.R_below (kR HO194.out) hb)
      replace HB := am (below_step (bw HB.out) hb)
      (try clear hb)
      (try clear hb2)
      (try clear hk)
      (try clear hi)
      refine hK.out _ _ trivial (fun hHeld => ?_)
      clear hK K
      refine norm_ (a' := ?_) ?_ ?_
      rotate_left
      ·
       show Act.put _ (some 17) _ = _
       simp only [Act.put, List.setIfInBounds_toArray, List.set_cons_zero, List.set_cons_succ, i64_w, i32_w]
       rfl
      refine one_ (i := 5) (N := some 14) #[true, true, true, true, true, true, true, true, true, false, false] rfl rfl (one_of HT_.out (by kernel_rfl)) (by decide) (fun K hK => ?_)
      have hcv12 := own_string (P := Tryd.prog) Tryd.underlying101 Tryd.underlying5 Tryd.underlying9 (Kd.own_of_R HO194.out)
      refine value_ (w1 := ?_) (v := ?_) (by rfl) rfl ?_ ?_
      rotate_left 2
      ·
       go_simp
       constructor
       ·
        rfl
       ·
        rfl
      clear hcv12
      refine hK.out _ _ trivial (fun hHeld => ?_)
      clear hK K
      refine norm_ (a' := ?_) ?_ ?_
      rotate_left
      ·
       show Act.put _ (some 14) _ = _
       simp only [Act.put, List.setIfInBounds_toArray, List.set_cons_zero, List.set_cons_succ, i64_w, i32_w]
       rfl
      exact norm_ (by simp only [putAll, Act.put, List.setIfInBounds_toArray, List.set_cons_zero, List.set_cons_succ]) (hCont (v193) _ ⟨(kR HO194.out), (bw HB.out)⟩)
    ·
     skip
     refine goes_ Tryd.func84 (by kernel_rfl) rfl #[.int .u64 (IntKind.u64.wrap (Int.tdiv a0 128))] (by rfl) rfl rfl gl ?_
     with_reducible refine (ih k (by omega) (IntKind.u64.wrap (Int.tdiv a0 128)) t195 _ A6.out).mono ?_
     rintro e w9 ⟨rfl, hb⟩
     refine ⟨_, rfl, ?_⟩
     replace HB := am (below_step (bw HB.out) hb)
     (try clear hb)
     (try clear hb2)
     (try clear hk)
     (try clear hi)
     refine hK.out _ _ trivial (fun hHeld => ?_)
     clear hK K
     refine norm_ (a' := ?_) ?_ ?_
     rotate_left
     ·
      show Act.put _ (some 17) _ = _
      simp only [Act.put, List.setIfInBounds_toArray, List.set_cons_zero, List.set_cons_succ, i64_w, i32_w]
      rfl
     refine one_ (i := 4) (N := some 13) #[true, true, true, true, true, false, true, true, true, false, false] rfl rfl (one_of HT_.out (by kernel_rfl)) (by decide) (fun K hK => ?_)
     refine Kd.R_lit_step (Kd.int .u8) _ 5 ?hg (N := 13) ?hd (xs := ([(IntKind.u64.wrap ((Int.tmod a0 128) + 128)) % 256] : List Int)) (inner := [.int .u8 ((IntKind.u64.wrap ((Int.tmod a0 128) + 128)) % 256)]) (ok := fun _ => True) (okp := fun _ => True) ?hr ?hp (fun _ hk => hk) trivial (Below.refl _ _) (Nat.le_refl _) (by simp) ?_; (case hd => rfl); (case hg => rfl); (case hr => first | (go_simp; done) | (go_simp; rfl)); (case hp => exact (Reps.one (show Kd.M (Kd.int .u8) _ _ _ ((IntKind.u64.wrap ((Int.tmod a0 128) + 128)) % 256) [.int .u8 ((IntKind.u64.wrap ((Int.tmod a0 128) + 128)) % 256)] from rfl) (Reps.none _ _)))
     intro v193 w10 ho11 hb hg_ hnew_
     clear hg_ hnew_
     (first | rw [← Ny192.out] at ho11 | (simp only [Int.reduceToNat] at ho11; rw [← Ny192.out] at ho11))
     have HO194 := am (Kd.R_lower ho11 (below_size (bw HB.out)))
     replace HB := am (below_step (bw HB.out) hb)
     clear hb ho11
     refine hK.out _ _ trivial (fun hHeld => ?_)
     clear hK K
     refine norm_ (a' := ?_) ?_ ?_
     rotate_left
     ·
      show Act.put _ (some 13) _ = _
      simp only [Act.put, List.setIfInBounds_toArray, List.set_cons_zero, List.set_cons_succ, i64_w, i32_w]
      rfl
     refine one_ (i := 5) (N := some 14) #[true, true, true, true, true, true, true, true, true, false, false] rfl rfl (one_of HT_.out (by kernel_rfl)) (by decide) (fun K hK => ?_)
     have hcv12 := own_string (P := Tryd.prog) Tryd.underlying101 Tryd.underlying5 Tryd.underlying9 (Kd.own_of_R HO194.out)
     refine value_ (w1 := ?_) (v := ?_) (by rfl) rfl ?_ ?_
     rotate_left 2
     ·
      go_simp
      constructor
      ·
       rfl
      ·
       rfl
     clear hcv12
     refine hK.out _ _ trivial (fun hHeld => ?_)
     clear hK K
     refine norm_ (a' := ?_) ?_ ?_
     rotate_left
     ·
      show Act.put _ (some 14) _ = _
      simp only [Act.put, List.setIfInBounds_toArray, List.set_cons_zero, List.set_cons_succ, i64_w, i32_w]
      rfl
     exact norm_ (by simp only [putAll, Act.put, List.setIfInBounds_toArray, List.set_cons_zero, List.set_cons_succ]) (hCont (v193) _ ⟨(kR HO194.out), (bw HB.out)⟩)
   rintro v193 w13 ⟨h0_, h1_⟩
   have n0_ : Aside0 (Kd.R (Kd.int .u8) 5 w13 w.heap.size (fun _ => True) v193 y192) := ⟨h0_⟩
   have n1_ : Aside0 (Below w.heap.size w w13) := ⟨h1_⟩
   clear HB
   clear h0_ h1_
   have HO194 := n0_
   have HB := n1_
   clear n0_ n1_
   have hHeld := trivial
   refine norm_ (a' := ?_) ?_ ?_
   rotate_left
   ·
    simp only [putAll, Act.put, List.setIfInBounds_toArray, List.set_cons_zero, List.set_cons_succ]
    rfl
   refine pu 9 (some 18) HT_.out ?_
   refine pu 10 (some 2) HT_.out ?_
   refine done_ (done_of HT_.out (by kernel_rfl)) ?_
   try go_wp2
   go_ret
   exact ⟨rf, bw HB.out⟩
  ·
   rw [if_neg c7] at H
   exact absurd H (by simp)
def stowageref16_number.f (k : Nat) (a0 : Int) : Option (ByteArray) := (stowageref01_Number.f k (IntKind.u64.wrap (a0))).bind fun t196 => (some t196)
theorem stowageref16_number.mono : ∀ a0 k, LeO (stowageref16_number.f k a0) (stowageref16_number.f (k + 1) a0) := by
 intro a0 k
 unfold stowageref16_number.f
 repeat' (with_reducible first | exact stowageref01_Number.mono _ _ | exact LeO.refl _ | exact LeO.none _ | refine LeO.ite ?_ ?_ | refine LeO.bind ?_ (fun _ => ?_))
set_option maxHeartbeats 8000000 in
set_option maxRecDepth 100000 in
theorem stowageref16_number.calls (k : Nat) (a0 : Int) (r : ByteArray) (w : World) (h : stowageref16_number.f k a0 = some r) :
  Calls Tryd.prog 59 #[.int .i64 a0] w fun e w' => e = .returned (.string r) ∧ Below w.heap.size w w' := by
 have HB := am (Below.refl w.heap.size w)
 have H := h
 clear h
 unfold stowageref16_number.f at H
 replace H := obE H
 obtain ⟨t196, A2, H⟩ := H
 obtain rfl := Option.some.inj H
 go_enter Tryd.func59, Tryd.ntmps59
 go_wp2_with (first | ((with_reducible refine gate_callee (f := 84) rfl ?_); refine goesL_ (some 5) rfl rfl Tryd.func84 (by kernel_rfl) rfl #[.int .u64 (IntKind.u64.wrap (a0))] rfl gl ?_; (with_reducible refine (stowageref01_Number.calls k (IntKind.u64.wrap (a0)) t196 _ A2.out).mono ?_); rintro e w3 ⟨rfl, hb⟩; refine ⟨_, rfl, ?_⟩; replace HB := am (below_step (bw HB.out) hb); (try clear hb)))
 go_ret
 exact ⟨rf, bw HB.out⟩
def stowageref01_Text.f (k : Nat) (a0 : ByteArray) : Option (ByteArray) := (stowageref01_Number.f k (IntKind.u64.wrap ((a0.size : Int)))).bind fun t197 => (if t197.size + a0.size ≤ 9223372036854775807 then (some (t197 ++ a0)) else (none))
theorem stowageref01_Text.mono : ∀ a0 k, LeO (stowageref01_Text.f k a0) (stowageref01_Text.f (k + 1) a0) := by
 intro a0 k
 unfold stowageref01_Text.f
 repeat' (with_reducible first | exact stowageref01_Number.mono _ _ | exact LeO.refl _ | exact LeO.none _ | refine LeO.ite ?_ ?_ | refine LeO.bind ?_ (fun _ => ?_))
set_option maxHeartbeats 8000000 in
set_option maxRecDepth 100000 in
theorem stowageref01_Text.calls (k : Nat) (a0 : ByteArray) (r : ByteArray) (w : World) (h : stowageref01_Text.f k a0 = some r) :
  Calls Tryd.prog 60 #[.string a0] w fun e w' => e = .returned (.string r) ∧ Below w.heap.size w w' := by
 have HB := am (Below.refl w.heap.size w)
 have H := h
 clear h
 unfold stowageref01_Text.f at H
 replace H := obE H
 obtain ⟨t197, A2, H⟩ := H
 by_cases c3 : t197.size + a0.size ≤ 9223372036854775807
 ·
  rw [if_pos c3] at H
  have c3b0 := eq_true c3
  have c3b1 := decide_eq_true c3
  try have c3b2 : (9223372036854775807 < t197.size + a0.size) = False := eq_false (Nat.not_lt.2 c3)
  (try (have c3b3 := c3b2; simp only [ByteArray.size_append] at c3b3))
  obtain rfl := Option.some.inj H
  go_enter Tryd.func60, Tryd.ntmps60
  go_wp2_with (first | ((with_reducible refine gate_callee (f := 84) rfl ?_); refine goesL_ (some 6) rfl rfl Tryd.func84 (by kernel_rfl) rfl #[.int .u64 (IntKind.u64.wrap ((a0.size : Int)))] rfl gl ?_; (with_reducible refine (stowageref01_Number.calls k (IntKind.u64.wrap ((a0.size : Int))) t197 _ A2.out).mono ?_); rintro e w4 ⟨rfl, hb⟩; refine ⟨_, rfl, ?_⟩; replace HB := am (below_step (bw HB.out) hb); (try clear hb)))
  go_ret
  exact ⟨rf, bw HB.out⟩
 ·
  rw [if_neg c3] at H
  exact absurd H (by simp)
def stowageref13_Told.l0 : Nat → List (S95) → ByteArray → Int → Option (ByteArray)
 | 0, _, _, _ => none
 | k + 1, x0, x3, x4 => if x4 < (x0.length : Int) then (if 0 ≤ x4 then ((stowageref01_Text.f k ((rd_T95 x0 x4).f0)).bind fun t200 => (if x3.size + t200.size ≤ 9223372036854775807 then ((stowageref01_Number.f k (IntKind.u64.wrap ((rd_T95 x0 x4).f1))).bind fun t202 => (if (x3 ++ t200).size + t202.size ≤ 9223372036854775807 then (stowageref13_Told.l0 k x0 ((x3 ++ t200) ++ t202) (wrap64 (x4 + 1))) else (none))) else (none))) else (none)) else (some x3)
def stowageref13_Told.f (k : Nat) (l0 : List (S95)) : Option (ByteArray) := (stowageref01_Number.f k (IntKind.u64.wrap ((l0.length : Int)))).bind fun t198 => (stowageref13_Told.l0 k l0 t198 0)
theorem stowageref13_Told.mono_l : ∀ k, (∀ y0 y1 y2, LeO (stowageref13_Told.l0 k y0 y1 y2) (stowageref13_Told.l0 (k + 1) y0 y1 y2))
 | 0 => fun _ _ _ r h => by simp [stowageref13_Told.l0] at h
 | k + 1 => by
  have ih0 := stowageref13_Told.mono_l k
  ·
   intro y0 y1 y2
   unfold stowageref13_Told.l0
   repeat' (with_reducible first | exact ih0 _ _ _ | exact stowageref01_Number.mono _ _ | exact stowageref01_Text.mono _ _ | exact LeO.refl _ | exact LeO.none _ | refine LeO.ite ?_ ?_ | refine LeO.bind ?_ (fun _ => ?_))
theorem stowageref13_Told.mono : ∀ a0 k, LeO (stowageref13_Told.f k a0) (stowageref13_Told.f (k + 1) a0) := by
 intro a0 k
 have ih0 := stowageref13_Told.mono_l k
 unfold stowageref13_Told.f
 repeat' (with_reducible first | exact ih0 _ _ _ | exact stowageref01_Number.mono _ _ | exact stowageref01_Text.mono _ _ | exact LeO.refl _ | exact LeO.none _ | refine LeO.ite ?_ ?_ | refine LeO.bind ?_ (fun _ => ?_))
def stowageref13_Told.T5 : Bool × List (List Nat × List Nat) := (true, [([], []), ([], []), ([], []), ([1, 2], [1, 2]), ([3], [3]), ([4], [4]), ([5], [5]), ([0, 6], [0, 6]), ([], []), ([], []), ([8, 9], [8, 9]), ([10], [10]), ([11], [11]), ([12], [12]), ([13, 6], [13]), ([7, 14], [7, 14]), ([15, 14, 0, 1, 2, 3, 4, 5, 6, 7, 8, 9, 10, 11, 12, 13, 14, 15], [0, 15])])
def stowageref13_Told.B5 : List Nat := [0, 0, 0, 6, 14, 30, 62, 127, 0, 0, 768, 1792, 3840, 7936, 16254, 32767, 65535]
theorem stowageref13_Told.tab5 : rtab .any (opsOf Tryd.f63 5) = stowageref13_Told.T5 := by kernel_rfl
theorem stowageref13_Told.bits5 : waitsOk stowageref13_Told.T5.2 stowageref13_Told.B5 = true := by kernel_rfl
set_option maxHeartbeats 8000000 in
set_option maxRecDepth 100000 in
theorem stowageref13_Told.calls (k : Nat) (A0 : Option Addr) (c0 : Nat) (l0 : List (S95)) (r : ByteArray) (w : World) (hr0 : Kd.C k95 w A0 l0.length l0) (hc0 : l0.length ≤ c0) (h : stowageref13_Told.f k l0 = some r) :
  Calls Tryd.prog 63 #[.slice A0 l0.length c0] w fun e w' => e = .returned (.string r) ∧ Below w.heap.size w w' := by
 have HR0 := am hr0
 have HC0 := am hc0
 clear hr0 hc0
 have HB := am (Below.refl w.heap.size w)
 have H := h
 clear h
 unfold stowageref13_Told.f at H
 replace H := obE H
 obtain ⟨t198, A2, H⟩ := H
 have H' := am H
 clear H
 go_enter Tryd.func63, Tryd.ntmps63
 go_wp2_with (first | ((with_reducible refine gate_callee (f := 84) rfl ?_); refine goesL_ (some 8) rfl rfl Tryd.func84 (by kernel_rfl) rfl #[.int .u64 (IntKind.u64.wrap ((l0.length : Int)))] rfl gl ?_; (with_reducible refine (stowageref01_Number.calls k (IntKind.u64.wrap ((l0.length : Int))) t198 _ A2.out).mono ?_); rintro e w3 ⟨rfl, hb⟩; refine ⟨_, rfl, ?_⟩; replace HB := am (below_step (bw HB.out) hb); (try clear hb)))
 go_loopg [3, 4] k (fun kq v3 v4 w' => ∃ (x3_1 : ByteArray) (x4_1 : Int), v3 = .string x3_1 ∧ v4 = .int .i64 x4_1 ∧ Aside0 (stowageref13_Told.l0 kq l0 x3_1 x4_1 = some r) ∧ Aside0 (kq ≤ k) ∧ Aside0 (Below w.heap.size w w'))
 case atStart => exact ⟨(t198), (0), rs, rs, H', ⟨Nat.le_refl _⟩, ⟨bw HB.out⟩⟩
 case round =>
  clear H'
  obtain ⟨x3_1, x4_1, rfl, rfl, HA, HK1, HB⟩ := hrel
  cases gk with
  | zero => exact absurd HA.out (by simp [stowageref13_Told.l0])
  | succ k1 =>
   have H := HA.out
   clear HA
   simp only [stowageref13_Told.l0] at H
   replace H := iteD H
   rcases H with ⟨c4b0, H⟩ | ⟨c4b0, H⟩
   ·
    replace H := iteD H
    rcases H with ⟨c5b0, H⟩ | ⟨_, H⟩
    ·
     replace H := obE H
     obtain ⟨t200, A6, H⟩ := H
     by_cases c7 : x3_1.size + t200.size ≤ 9223372036854775807
     ·
      rw [if_pos c7] at H
      have c7b0 := eq_true c7
      have c7b1 := decide_eq_true c7
      try have c7b2 : (9223372036854775807 < x3_1.size + t200.size) = False := eq_false (Nat.not_lt.2 c7)
      (try (have c7b3 := c7b2; simp only [ByteArray.size_append] at c7b3))
      replace H := obE H
      obtain ⟨t202, A8, H⟩ := H
      by_cases c9 : (x3_1 ++ t200).size + t202.size ≤ 9223372036854775807
      ·
       rw [if_pos c9] at H
       have c9b0 := eq_true c9
       have c9b1 := decide_eq_true c9
       try have c9b2 : (9223372036854775807 < (x3_1 ++ t200).size + t202.size) = False := eq_false (Nat.not_lt.2 c9)
       (try (have c9b3 := c9b2; simp only [ByteArray.size_append] at c9b3))
       have H' := am H
       clear H
       try go_wp2
       replace HB := am (below_drew1 HB.out)
       have p199 := pz x4_1
       have q199 := pl x4_1 (l0.length : Int)
       obtain ⟨ad199, e199, hw199_0, hw199_1⟩ := at_T95 HR0.out x4_1 (of_eq_true p199) (of_eq_true q199)
       cases e199
       have hx199_0 := bc HB.out hw199_0
       have hx199_1 := bc HB.out hw199_1
       have p201 := pz x4_1
       have q201 := pl x4_1 (l0.length : Int)
       obtain ⟨ad201, e201, hw201_0, hw201_1⟩ := at_T95 HR0.out x4_1 (of_eq_true p201) (of_eq_true q201)
       obtain rfl : ad199 = ad201 := (by injection e201)
       have hx201_0 := bc HB.out hw201_0
       have hx201_1 := bc HB.out hw201_1
       refine start_ (n := 17) (S := fun w' => w'.cell? (ad199.add ((x4_1).toNat * 2)) = some (.string ((rd_T95 l0 x4_1).f0)) ∧ w'.cell? ⟨(ad199.add ((x4_1).toNat * 2)).block, (ad199.add ((x4_1).toNat * 2)).off + 1, none⟩ = some (.int .i64 ((rd_T95 l0 x4_1).f1))) (ds := []) #[false, false, false, false, false, false, false, false, false, false, false, false, false, false, false, false, false] (by kernel_rfl) rfl rfl ⟨(bc HB.out hw199_0), (bc HB.out hw199_1)⟩ (fun hHeld => ?_); refine with_tabW stowageref13_Told.tab5 stowageref13_Told.bits5 (fun HT_ HW_ => ?_)
       generalize wr.drew = w10 at HB hx199_0 hx199_1 hx201_0 hx201_1 hHeld ⊢
       refine pu 0 (some 15) HT_.out ?_
       refine pu 1 (some 16) HT_.out ?_
       refine pu 2 (some 17) HT_.out ?_
       refine pu 3 (some 18) HT_.out ?_
       refine pu 4 (some 19) HT_.out ?_
       refine pu 8 (some 23) HT_.out ?_
       refine pu 9 (some 24) HT_.out ?_
       refine pu 10 (some 25) HT_.out ?_
       refine pu 11 (some 26) HT_.out ?_
       refine tk 5 (some 20) HT_.out HW_.out hHeld ?_
       refine tk 12 (some 27) HT_.out HW_.out hHeld ?_
       refine pu 13 (some 28) HT_.out ?_
       refine one_ (i := 6) (N := some 21) #[true, true, true, true, true, true, true, false, true, true, true, true, true, true, false, false, false] rfl rfl (one_of HT_.out (by kernel_rfl)) (by decide) (fun K hK => ?_)
       refine goes_ Tryd.func60 (by kernel_rfl) rfl #[.string ((rd_T95 l0 x4_1).f0)] (by rfl) rfl rfl gl ?_
       with_reducible refine (stowageref01_Text.calls k1 ((rd_T95 l0 x4_1).f0) t200 _ A6.out).mono ?_
       rintro e w11 ⟨rfl, hb⟩
       refine ⟨_, rfl, ?_⟩
       replace HB := am (below_step (bw HB.out) hb)
       (try clear hb)
       (try clear hb2)
       (try clear hk)
       (try clear hi)
       refine hK.out _ _ ⟨(bc HB.out hw199_0), (bc HB.out hw199_1)⟩ (fun hHeld => ?_)
       clear hK K
       refine norm_ (a' := ?_) ?_ ?_
       rotate_left
       ·
        show Act.put _ (some 21) _ = _
        simp only [Act.put, List.setIfInBounds_toArray, List.set_cons_zero, List.set_cons_succ, i64_w, i32_w]
        rfl
       refine pu 7 (some 22) HT_.out ?_
       refine one_ (i := 14) (N := some 29) #[true, true, true, true, true, true, true, true, true, true, true, true, true, true, true, false, false] rfl rfl (one_of HT_.out (by kernel_rfl)) (by decide) (fun K hK => ?_)
       refine goes_ Tryd.func84 (by kernel_rfl) rfl #[.int .u64 (IntKind.u64.wrap ((rd_T95 l0 x4_1).f1))] (by rfl) rfl rfl gl ?_
       with_reducible refine (stowageref01_Number.calls k1 (IntKind.u64.wrap ((rd_T95 l0 x4_1).f1)) t202 _ A8.out).mono ?_
       rintro e w12 ⟨rfl, hb⟩
       refine ⟨_, rfl, ?_⟩
       replace HB := am (below_step (bw HB.out) hb)
       (try clear hb)
       (try clear hb2)
       (try clear hk)
       (try clear hi)
       refine hK.out _ _ ⟨(bc HB.out hw199_0), (bc HB.out hw199_1)⟩ (fun hHeld => ?_)
       clear hK K
       refine norm_ (a' := ?_) ?_ ?_
       rotate_left
       ·
        show Act.put _ (some 29) _ = _
        simp only [Act.put, List.setIfInBounds_toArray, List.set_cons_zero, List.set_cons_succ, i64_w, i32_w]
        rfl
       refine pu 15 (some 30) HT_.out ?_
       refine pu 16 (some 3) HT_.out ?_
       refine done_ (done_of HT_.out (by kernel_rfl)) ?_
       try go_wp2
       go_roundg k1
       case measure => have := HK1.out; omega
       case rel => exact ⟨((x3_1 ++ t200) ++ t202), (wrap64 (x4_1 + 1)), rs, rs, H', ⟨by have := HK1.out; omega⟩, ⟨bw HB.out⟩⟩
      ·
       rw [if_neg c9] at H
       exact absurd H (by simp)
     ·
      rw [if_neg c7] at H
      exact absurd H (by simp)
    ·
     exact absurd H (by simp)
   ·
    obtain rfl := Option.some.inj H
    go_wp2
    go_ret
    exact ⟨rf, bw HB.out⟩
mutual
def stowageref16_Told.j0 : Nat → ByteArray → Int → ByteArray → ByteArray → ByteArray → Int → Int → ByteArray → List (S95) → List (S61) → Option (ByteArray)
 | 0, _, _, _, _, _, _, _, _, _, _ => none
 | k + 1, x3, x204000, x204001, x204002, x204003, x204004, x204005, x204006, x204007, x204008 => (stowageref16_HasKey.f x204000).bind fun t207 => (if t207 = true then ((stowageref01_Text.f k x204003).bind fun t208 => (if x3.size + t208.size ≤ 9223372036854775807 then (stowageref16_Told.j1 k (x3 ++ t208) x204000 x204001 x204002 x204003 x204004 x204005 x204006 x204007 x204008) else (none))) else (stowageref16_Told.j1 k x3 x204000 x204001 x204002 x204003 x204004 x204005 x204006 x204007 x204008))
def stowageref16_Told.j1 : Nat → ByteArray → Int → ByteArray → ByteArray → ByteArray → Int → Int → ByteArray → List (S95) → List (S61) → Option (ByteArray)
 | 0, _, _, _, _, _, _, _, _, _, _ => none
 | k + 1, x3, x204000, x204001, x204002, x204003, x204004, x204005, x204006, x204007, x204008 => (stowageref16_hasID.f x204000).bind fun t209 => (if t209 = true then ((stowageref16_number.f k x204004).bind fun t210 => (if x3.size + t210.size ≤ 9223372036854775807 then (stowageref16_Told.j2 k (x3 ++ t210) x204000 x204001 x204002 x204003 x204004 x204005 x204006 x204007 x204008) else (none))) else (stowageref16_Told.j2 k x3 x204000 x204001 x204002 x204003 x204004 x204005 x204006 x204007 x204008))
def stowageref16_Told.j2 : Nat → ByteArray → Int → ByteArray → ByteArray → ByteArray → Int → Int → ByteArray → List (S95) → List (S61) → Option (ByteArray)
 | 0, _, _, _, _, _, _, _, _, _, _ => none
 | k + 1, x3, x204000, x204001, x204002, x204003, x204004, x204005, x204006, x204007, x204008 => if x204000 = 7 then ((stowageref16_number.f k x204005).bind fun t211 => (if x3.size + t211.size ≤ 9223372036854775807 then (stowageref16_Told.j3 k (x3 ++ t211) x204000 x204001 x204002 x204003 x204004 x204005 x204006 x204007 x204008) else (none))) else (stowageref16_Told.j3 k x3 x204000 x204001 x204002 x204003 x204004 x204005 x204006 x204007 x204008)
def stowageref16_Told.j3 : Nat → ByteArray → Int → ByteArray → ByteArray → ByteArray → Int → Int → ByteArray → List (S95) → List (S61) → Option (ByteArray)
 | 0, _, _, _, _, _, _, _, _, _, _ => none
 | k + 1, x3, x204000, x204001, x204002, x204003, x204004, x204005, x204006, x204007, x204008 => (stowageref16_hasSum.f x204000).bind fun t212 => (if t212 = true then ((stowageref01_Text.f k x204006).bind fun t213 => (if x3.size + t213.size ≤ 9223372036854775807 then ((stowageref13_Told.f k x204007).bind fun t214 => (if (x3 ++ t213).size + t214.size ≤ 9223372036854775807 then (stowageref16_Told.j4 k ((x3 ++ t213) ++ t214) x204000 x204001 x204002 x204003 x204004 x204005 x204006 x204007 x204008) else (none))) else (none))) else (stowageref16_Told.j4 k x3 x204000 x204001 x204002 x204003 x204004 x204005 x204006 x204007 x204008))
def stowageref16_Told.j4 : Nat → ByteArray → Int → ByteArray → ByteArray → ByteArray → Int → Int → ByteArray → List (S95) → List (S61) → Option (ByteArray)
 | 0, _, _, _, _, _, _, _, _, _, _ => none
 | k + 1, x3, x204000, x204001, x204002, x204003, x204004, x204005, x204006, x204007, x204008 => if x204000 = 8 then ((stowageref16_number.f k (x204008.length : Int)).bind fun t215 => (if x3.size + t215.size ≤ 9223372036854775807 then (stowageref16_Told.j5 k (x3 ++ t215) x204000 x204001 x204002 x204003 x204004 x204005 x204006 x204007 x204008) else (none))) else (stowageref16_Told.j5 k x3 x204000 x204001 x204002 x204003 x204004 x204005 x204006 x204007 x204008)
def stowageref16_Told.j5 : Nat → ByteArray → Int → ByteArray → ByteArray → ByteArray → Int → Int → ByteArray → List (S95) → List (S61) → Option (ByteArray)
 | 0, _, _, _, _, _, _, _, _, _, _ => none
 | k + 1, x3, x204000, x204001, x204002, x204003, x204004, x204005, x204006, x204007, x204008 => stowageref16_Told.l0 k x3 0 x204000 x204001 x204002 x204003 x204004 x204005 x204006 x204007 x204008
def stowageref16_Told.l0 : Nat → ByteArray → Int → Int → ByteArray → ByteArray → ByteArray → Int → Int → ByteArray → List (S95) → List (S61) → Option (ByteArray)
 | 0, _, _, _, _, _, _, _, _, _, _, _ => none
 | k + 1, x3, x4, x204000, x204001, x204002, x204003, x204004, x204005, x204006, x204007, x204008 => if x4 < (x204008.length : Int) then (if 0 ≤ x4 then ((stowageref16_number.f k ((rd_T61 x204008 x4).f0)).bind fun t217 => (if x3.size + t217.size ≤ 9223372036854775807 then ((stowageref01_Text.f k ((rd_T61 x204008 x4).f1)).bind fun t219 => (if (x3 ++ t217).size + t219.size ≤ 9223372036854775807 then (stowageref16_Told.l0 k ((x3 ++ t217) ++ t219) (wrap64 (x4 + 1)) x204000 x204001 x204002 x204003 x204004 x204005 x204006 x204007 x204008) else (none))) else (none))) else (none)) else (some x3)
end
def stowageref16_Told.f (k : Nat) (a0_0 : Int) (a0_1 : ByteArray) (a0_2 : ByteArray) (a0_3 : ByteArray) (a0_4 : Int) (a0_5 : Int) (a0_6 : ByteArray) (l0_7 : List (S95)) (l0_8 : List (S61)) : Option (ByteArray) := (stowageref16_number.f k a0_0).bind fun t204 => (if a0_0 < 10 then ((stowageref01_Text.f k a0_1).bind fun t205 => (if t204.size + t205.size ≤ 9223372036854775807 then ((stowageref01_Text.f k a0_2).bind fun t206 => (if (t204 ++ t205).size + t206.size ≤ 9223372036854775807 then (stowageref16_Told.j0 k ((t204 ++ t205) ++ t206) a0_0 a0_1 a0_2 a0_3 a0_4 a0_5 a0_6 l0_7 l0_8) else (none))) else (none))) else (stowageref16_Told.j0 k t204 a0_0 a0_1 a0_2 a0_3 a0_4 a0_5 a0_6 l0_7 l0_8))
theorem stowageref16_Told.mono_l : ∀ k, (∀ y0 y1 y2 y3 y4 y5 y6 y7 y8 y9, LeO (stowageref16_Told.j0 k y0 y1 y2 y3 y4 y5 y6 y7 y8 y9) (stowageref16_Told.j0 (k + 1) y0 y1 y2 y3 y4 y5 y6 y7 y8 y9)) ∧ (∀ y0 y1 y2 y3 y4 y5 y6 y7 y8 y9, LeO (stowageref16_Told.j1 k y0 y1 y2 y3 y4 y5 y6 y7 y8 y9) (stowageref16_Told.j1 (k + 1) y0 y1 y2 y3 y4 y5 y6 y7 y8 y9)) ∧ (∀ y0 y1 y2 y3 y4 y5 y6 y7 y8 y9, LeO (stowageref16_Told.j2 k y0 y1 y2 y3 y4 y5 y6 y7 y8 y9) (stowageref16_Told.j2 (k + 1) y0 y1 y2 y3 y4 y5 y6 y7 y8 y9)) ∧ (∀ y0 y1 y2 y3 y4 y5 y6 y7 y8 y9, LeO (stowageref16_Told.j3 k y0 y1 y2 y3 y4 y5 y6 y7 y8 y9) (stowageref16_Told.j3 (k + 1) y0 y1 y2 y3 y4 y5 y6 y7 y8 y9)) ∧ (∀ y0 y1 y2 y3 y4 y5 y6 y7 y8 y9, LeO (stowageref16_Told.j4 k y0 y1 y2 y3 y4 y5 y6 y7 y8 y9) (stowageref16_Told.j4 (k + 1) y0 y1 y2 y3 y4 y5 y6 y7 y8 y9)) ∧ (∀ y0 y1 y2 y3 y4 y5 y6 y7 y8 y9, LeO (stowageref16_Told.j5 k y0 y1 y2 y3 y4 y5 y6 y7 y8 y9) (stowageref16_Told.j5 (k + 1) y0 y1 y2 y3 y4 y5 y6 y7 y8 y9)) ∧ (∀ y0 y1 y2 y3 y4 y5 y6 y7 y8 y9 y10, LeO (stowageref16_Told.l0 k y0 y1 y2 y3 y4 y5 y6 y7 y8 y9 y10) (stowageref16_Told.l0 (k + 1) y0 y1 y2 y3 y4 y5 y6 y7 y8 y9 y10))
 | 0 => ⟨fun _ _ _ _ _ _ _ _ _ _ r h => by simp [stowageref16_Told.j0] at h, fun _ _ _ _ _ _ _ _ _ _ r h => by simp [stowageref16_Told.j1] at h, fun _ _ _ _ _ _ _ _ _ _ r h => by simp [stowageref16_Told.j2] at h, fun _ _ _ _ _ _ _ _ _ _ r h => by simp [stowageref16_Told.j3] at h, fun _ _ _ _ _ _ _ _ _ _ r h => by simp [stowageref16_Told.j4] at h, fun _ _ _ _ _ _ _ _ _ _ r h => by simp [stowageref16_Told.j5] at h, fun _ _ _ _ _ _ _ _ _ _ _ r h => by simp [stowageref16_Told.l0] at h⟩
 | k + 1 => by
  obtain ⟨ih0, ih1, ih2, ih3, ih4, ih5, ih6⟩ := stowageref16_Told.mono_l k
  refine ⟨?_, ?_, ?_, ?_, ?_, ?_, ?_⟩
  all_goals intros
  all_goals first | unfold stowageref16_Told.j0 | unfold stowageref16_Told.j1 | unfold stowageref16_Told.j2 | unfold stowageref16_Told.j3 | unfold stowageref16_Told.j4 | unfold stowageref16_Told.j5 | unfold stowageref16_Told.l0
  all_goals repeat' (with_reducible first | exact ih0 _ _ _ _ _ _ _ _ _ _ | exact ih1 _ _ _ _ _ _ _ _ _ _ | exact ih2 _ _ _ _ _ _ _ _ _ _ | exact ih3 _ _ _ _ _ _ _ _ _ _ | exact ih4 _ _ _ _ _ _ _ _ _ _ | exact ih5 _ _ _ _ _ _ _ _ _ _ | exact ih6 _ _ _ _ _ _ _ _ _ _ _ | exact stowageref01_Text.mono _ _ | exact stowageref13_Told.mono _ _ | exact stowageref16_number.mono _ _ | exact LeO.refl _ | exact LeO.none _ | refine LeO.ite ?_ ?_ | refine LeO.bind ?_ (fun _ => ?_))
theorem stowageref16_Told.mono : ∀ a0 a1 a2 a3 a4 a5 a6 a7 a8 k, LeO (stowageref16_Told.f k a0 a1 a2 a3 a4 a5 a6 a7 a8) (stowageref16_Told.f (k + 1) a0 a1 a2 a3 a4 a5 a6 a7 a8) := by
 intro a0 a1 a2 a3 a4 a5 a6 a7 a8 k
 obtain ⟨ih0, ih1, ih2, ih3, ih4, ih5, ih6⟩ := stowageref16_Told.mono_l k
 unfold stowageref16_Told.f
 repeat' (with_reducible first | exact ih0 _ _ _ _ _ _ _ _ _ _ | exact ih1 _ _ _ _ _ _ _ _ _ _ | exact ih2 _ _ _ _ _ _ _ _ _ _ | exact ih3 _ _ _ _ _ _ _ _ _ _ | exact ih4 _ _ _ _ _ _ _ _ _ _ | exact ih5 _ _ _ _ _ _ _ _ _ _ | exact ih6 _ _ _ _ _ _ _ _ _ _ _ | exact stowageref01_Text.mono _ _ | exact stowageref13_Told.mono _ _ | exact stowageref16_number.mono _ _ | exact LeO.refl _ | exact LeO.none _ | refine LeO.ite ?_ ?_ | refine LeO.bind ?_ (fun _ => ?_))
def stowageref16_Told.T3 : Bool × List (List Nat × List Nat) := (true, [([], []), ([], []), ([1], [1]), ([2], [2]), ([0, 3], [0, 3]), ([], []), ([5], [5]), ([6, 3], [6]), ([4, 7], [4, 7]), ([8, 7, 0, 1, 2, 3, 4, 5, 6, 7, 8], [0, 8])])
def stowageref16_Told.B3 : List Nat := [0, 0, 2, 6, 15, 0, 32, 110, 255, 511]
theorem stowageref16_Told.tab3 : rtab .any (opsOf Tryd.f24 3) = stowageref16_Told.T3 := by kernel_rfl
theorem stowageref16_Told.bits3 : waitsOk stowageref16_Told.T3.2 stowageref16_Told.B3 = true := by kernel_rfl
def stowageref16_Told.T11 : Bool × List (List Nat × List Nat) := (true, [([], []), ([], []), ([1], [1]), ([2], [2]), ([0, 3], [0, 3]), ([], []), ([5], [5]), ([6, 3], [6]), ([4, 7], [4, 7]), ([8, 7, 0, 1, 2, 3, 4, 5, 6, 7, 8], [0, 8])])
def stowageref16_Told.B11 : List Nat := [0, 0, 2, 6, 15, 0, 32, 110, 255, 511]
theorem stowageref16_Told.tab11 : rtab .any (opsOf Tryd.f24 11) = stowageref16_Told.T11 := by kernel_rfl
theorem stowageref16_Told.bits11 : waitsOk stowageref16_Told.T11.2 stowageref16_Told.B11 = true := by kernel_rfl
def stowageref16_Told.T17 : Bool × List (List Nat × List Nat) := (true, [([], []), ([], []), ([1], [1]), ([], []), ([2, 3], [2, 3]), ([4], [4]), ([5], [5]), ([6], [6]), ([0, 7], [0, 7]), ([], []), ([9], [9]), ([], []), ([10, 11], [10, 11]), ([12], [12]), ([13], [13]), ([14, 7], [14]), ([8, 15], [8, 15]), ([16, 15, 0, 1, 2, 3, 4, 5, 6, 7, 8, 9, 10, 11, 12, 13, 14, 15, 16], [0, 16])])
def stowageref16_Told.B17 : List Nat := [0, 0, 2, 0, 14, 30, 62, 126, 255, 0, 512, 0, 3584, 7680, 15872, 32510, 65535, 131071]
theorem stowageref16_Told.tab17 : rtab .any (opsOf Tryd.f24 17) = stowageref16_Told.T17 := by kernel_rfl
theorem stowageref16_Told.bits17 : waitsOk stowageref16_Told.T17.2 stowageref16_Told.B17 = true := by kernel_rfl
set_option maxHeartbeats 8000000 in
set_option maxRecDepth 100000 in
theorem stowageref16_Told.calls (k : Nat) (a0_0 : Int) (a0_1 : ByteArray) (a0_2 : ByteArray) (a0_3 : ByteArray) (a0_4 : Int) (a0_5 : Int) (a0_6 : ByteArray) (A0_7 : Option Addr) (c0_7 : Nat) (l0_7 : List (S95)) (A0_8 : Option Addr) (c0_8 : Nat) (l0_8 : List (S61)) (r : ByteArray) (w : World) (hr0_7 : Kd.C k95 w A0_7 l0_7.length l0_7) (hc0_7 : l0_7.length ≤ c0_7) (hr0_8 : Kd.C k61 w A0_8 l0_8.length l0_8) (hc0_8 : l0_8.length ≤ c0_8) (h : stowageref16_Told.f k a0_0 a0_1 a0_2 a0_3 a0_4 a0_5 a0_6 l0_7 l0_8 = some r) :
  Calls Tryd.prog 24 #[.agg #[.int .i64 a0_0, .string a0_1, .string a0_2, .string a0_3, .int .i64 a0_4, .int .i64 a0_5, .string a0_6, .slice A0_7 l0_7.length c0_7, .slice A0_8 l0_8.length c0_8]] w fun e w' => e = .returned (.string r) ∧ Below w.heap.size w w' := by
 have hu34 := Tryd.underlying34
 have HR0_7 := am hr0_7
 have HC0_7 := am hc0_7
 clear hr0_7 hc0_7
 have HR0_8 := am hr0_8
 have HC0_8 := am hc0_8
 clear hr0_8 hc0_8
 have HB := am (Below.refl w.heap.size w)
 have H := h
 clear h
 unfold stowageref16_Told.f at H
 replace H := obE H
 obtain ⟨t204, A2, H⟩ := H
 have HC3 := am H
 clear H
 go_enter Tryd.func24, Tryd.ntmps24
 go_upto_if 10 with (first | ((with_reducible refine gate_dst (N := 1) rfl ?_); refine bx 1 #[.int .i64 a0_0, .string a0_1, .string a0_2, .string a0_3, .int .i64 a0_4, .int .i64 a0_5, .string a0_6, .slice A0_7 l0_7.length c0_7, .slice A0_8 l0_8.length c0_8] 34 ?_; intro gb203 hg w4 hbox hb; have BK203 := am (hbox); have GW203 := gsz hg HB.out; have GE203 := gsz hg HB.out; replace HB := am (below_step (bw HB.out) hb); clear hb hbox hg; obtain ⟨hcz5_0, hcz5_1, hcz5_2, hcz5_3, hcz5_4, hcz5_5, hcz5_6, hcz5_7, hcz5_8, hfz5_0, hfz5_1, hfz5_2, hfz5_3, hfz5_4, hfz5_5, hfz5_6, hfz5_7, hfz5_8⟩ := cz9 BK203.out) | ((with_reducible refine gate_callee (f := 59) rfl ?_); refine goesL_ (some 7) rfl rfl Tryd.func59 (by kernel_rfl) rfl #[.int .i64 a0_0] rfl gl ?_; (with_reducible refine (stowageref16_number.calls k a0_0 t204 _ A2.out).mono ?_); rintro e w6 ⟨rfl, hb⟩; refine ⟨_, rfl, ?_⟩; replace BK203 := bb BK203.out hb; replace HB := am (below_step (bws HB.out) hb); (try clear hb); obtain ⟨hcz7_0, hcz7_1, hcz7_2, hcz7_3, hcz7_4, hcz7_5, hcz7_6, hcz7_7, hcz7_8, hfz7_0, hfz7_1, hfz7_2, hfz7_3, hfz7_4, hfz7_5, hfz7_6, hfz7_7, hfz7_8⟩ := cz9 BK203.out))
 (try simp only [Act.put, List.setIfInBounds_toArray, List.set_cons_zero, List.set_cons_succ])
 go_cut [3] (fun v3 wc => ∃ (kq : Nat) (x3_2 : ByteArray), v3 = .string x3_2 ∧ Aside0 (stowageref16_Told.j0 kq x3_2 a0_0 a0_1 a0_2 a0_3 a0_4 a0_5 a0_6 l0_7 l0_8 = some r) ∧ Aside0 (kq ≤ k) ∧ Aside0 (wc.heap[gb203]? = some (.cells #[.int .i64 a0_0, .string a0_1, .string a0_2, .string a0_3, .int .i64 a0_4, .int .i64 a0_5, .string a0_6, (.slice A0_7 l0_7.length c0_7), (.slice A0_8 l0_8.length c0_8)] 34 (0, 0))) ∧ Aside0 (Below w.heap.size w wc))
 case first =>
  have H := HC3.out
  clear HC3
  replace H := iteD H
  rcases H with ⟨c8b0, H⟩ | ⟨c8b0, H⟩
  ·
   (first | rw [c8b0] | (simp only [i64_w, i32_w]; rw [c8b0]) | skip)
   replace H := obE H
   obtain ⟨t205, A9, H⟩ := H
   by_cases c10 : t204.size + t205.size ≤ 9223372036854775807
   ·
    rw [if_pos c10] at H
    have c10b0 := eq_true c10
    have c10b1 := decide_eq_true c10
    try have c10b2 : (9223372036854775807 < t204.size + t205.size) = False := eq_false (Nat.not_lt.2 c10)
    (try (have c10b3 := c10b2; simp only [ByteArray.size_append] at c10b3))
    replace H := obE H
    obtain ⟨t206, A11, H⟩ := H
    by_cases c12 : (t204 ++ t205).size + t206.size ≤ 9223372036854775807
    ·
     rw [if_pos c12] at H
     have c12b0 := eq_true c12
     have c12b1 := decide_eq_true c12
     try have c12b2 : (9223372036854775807 < (t204 ++ t205).size + t206.size) = False := eq_false (Nat.not_lt.2 c12)
     (try (have c12b3 := c12b2; simp only [ByteArray.size_append] at c12b3))
     have H' := am H
     clear H
     try go_wp2
     replace BK203 := am (blk_drew BK203.out)
     replace HB := am (below_drew1 HB.out)
     refine start_ (n := 10) (S := fun w' => w'.cell? ⟨gb203, 0, none⟩ = some (.int .i64 a0_0) ∧ w'.cell? ⟨gb203, 1, none⟩ = some (.string a0_1) ∧ w'.cell? ⟨gb203, 2, none⟩ = some (.string a0_2) ∧ w'.cell? ⟨gb203, 3, none⟩ = some (.string a0_3) ∧ w'.cell? ⟨gb203, 4, none⟩ = some (.int .i64 a0_4) ∧ w'.cell? ⟨gb203, 5, none⟩ = some (.int .i64 a0_5) ∧ w'.cell? ⟨gb203, 6, none⟩ = some (.string a0_6) ∧ w'.cell? ⟨gb203, 7, none⟩ = some (.slice A0_7 l0_7.length c0_7) ∧ w'.cell? ⟨gb203, 8, none⟩ = some (.slice A0_8 l0_8.length c0_8)) (ds := []) #[false, false, false, false, false, false, false, false, false, false] (by kernel_rfl) rfl rfl ⟨(blk_cell BK203.out 0).trans rfl, (blk_cell BK203.out 1).trans rfl, (blk_cell BK203.out 2).trans rfl, (blk_cell BK203.out 3).trans rfl, (blk_cell BK203.out 4).trans rfl, (blk_cell BK203.out 5).trans rfl, (blk_cell BK203.out 6).trans rfl, (blk_cell BK203.out 7).trans rfl, (blk_cell BK203.out 8).trans rfl⟩ (fun hHeld => ?_); refine with_tabW stowageref16_Told.tab3 stowageref16_Told.bits3 (fun HT_ HW_ => ?_)
     generalize w6.drew = w13 at BK203 HB hHeld ⊢
     refine pu 0 (some 11) HT_.out ?_
     refine pu 1 (some 12) HT_.out ?_
     refine pu 5 (some 16) HT_.out ?_
     refine tk 2 (some 13) HT_.out HW_.out hHeld ?_
     refine tk 6 (some 17) HT_.out HW_.out hHeld ?_
     refine one_ (i := 3) (N := some 14) #[true, true, true, true, false, true, true, false, false, false] rfl rfl (one_of HT_.out (by kernel_rfl)) (by decide) (fun K hK => ?_)
     refine goes_ Tryd.func60 (by kernel_rfl) rfl #[.string a0_1] (by rfl) rfl rfl gl ?_
     with_reducible refine (stowageref01_Text.calls k a0_1 t205 _ A9.out).mono ?_
     rintro e w14 ⟨rfl, hb⟩
     refine ⟨_, rfl, ?_⟩
     replace BK203 := bb BK203.out hb
     replace HB := am (below_step (bws HB.out) hb)
     (try clear hb)
     (try clear hb2)
     (try clear hk)
     (try clear hi)
     refine hK.out _ _ ⟨(blk_cell BK203.out 0).trans rfl, (blk_cell BK203.out 1).trans rfl, (blk_cell BK203.out 2).trans rfl, (blk_cell BK203.out 3).trans rfl, (blk_cell BK203.out 4).trans rfl, (blk_cell BK203.out 5).trans rfl, (blk_cell BK203.out 6).trans rfl, (blk_cell BK203.out 7).trans rfl, (blk_cell BK203.out 8).trans rfl⟩ (fun hHeld => ?_)
     clear hK K
     refine norm_ (a' := ?_) ?_ ?_
     rotate_left
     ·
      show Act.put _ (some 14) _ = _
      simp only [Act.put, List.setIfInBounds_toArray, List.set_cons_zero, List.set_cons_succ, i64_w, i32_w]
      rfl
     refine pu 4 (some 15) HT_.out ?_
     refine one_ (i := 7) (N := some 18) #[true, true, true, true, true, true, true, true, false, false] rfl rfl (one_of HT_.out (by kernel_rfl)) (by decide) (fun K hK => ?_)
     refine goes_ Tryd.func60 (by kernel_rfl) rfl #[.string a0_2] (by rfl) rfl rfl gl ?_
     with_reducible refine (stowageref01_Text.calls k a0_2 t206 _ A11.out).mono ?_
     rintro e w15 ⟨rfl, hb⟩
     refine ⟨_, rfl, ?_⟩
     replace BK203 := bb BK203.out hb
     replace HB := am (below_step (bws HB.out) hb)
     (try clear hb)
     (try clear hb2)
     (try clear hk)
     (try clear hi)
     refine hK.out _ _ ⟨(blk_cell BK203.out 0).trans rfl, (blk_cell BK203.out 1).trans rfl, (blk_cell BK203.out 2).trans rfl, (blk_cell BK203.out 3).trans rfl, (blk_cell BK203.out 4).trans rfl, (blk_cell BK203.out 5).trans rfl, (blk_cell BK203.out 6).trans rfl, (blk_cell BK203.out 7).trans rfl, (blk_cell BK203.out 8).trans rfl⟩ (fun hHeld => ?_)
     clear hK K
     refine norm_ (a' := ?_) ?_ ?_
     rotate_left
     ·
      show Act.put _ (some 18) _ = _
      simp only [Act.put, List.setIfInBounds_toArray, List.set_cons_zero, List.set_cons_succ, i64_w, i32_w]
      rfl
     refine pu 8 (some 19) HT_.out ?_
     refine pu 9 (some 3) HT_.out ?_
     refine done_ (done_of HT_.out (by kernel_rfl)) ?_
     try go_wp2
     go_meet
     case rel => exact ⟨_, ((t204 ++ t205) ++ t206), rs, H', ⟨om⟩, ⟨bk BK203.out⟩, ⟨bws HB.out⟩⟩
    ·
     rw [if_neg c12] at H
     exact absurd H (by simp)
   ·
    rw [if_neg c10] at H
    exact absurd H (by simp)
  ·
   (first | rw [c8b0] | (simp only [i64_w, i32_w]; rw [c8b0]) | skip)
   have H' := am H
   clear H
   go_wp2
   go_meet
   case rel => exact ⟨_, (t204), rs, H', ⟨om⟩, ⟨bk BK203.out⟩, ⟨bws HB.out⟩⟩
 case rest =>
  clear HC3
  try clear hcz5_0 hcz5_1 hcz5_2 hcz5_3 hcz5_4 hcz5_5 hcz5_6 hcz5_7 hcz5_8 hfz5_0 hfz5_1 hfz5_2 hfz5_3 hfz5_4 hfz5_5 hfz5_6 hfz5_7 hfz5_8
  try clear hcz7_0 hcz7_1 hcz7_2 hcz7_3 hcz7_4 hcz7_5 hcz7_6 hcz7_7 hcz7_8 hfz7_0 hfz7_1 hfz7_2 hfz7_3 hfz7_4 hfz7_5 hfz7_6 hfz7_7 hfz7_8
  obtain ⟨kq, x3_2, rfl, HA, HJ2, BK203, HB⟩ := hcut
  cases kq with
  | zero => exact absurd HA.out (by simp [stowageref16_Told.j0])
  | succ kj2 =>
   have H := HA.out
   clear HA
   simp only [stowageref16_Told.j0] at H
   replace H := obE H
   obtain ⟨t207, A16, H⟩ := H
   have HC17 := am H
   clear H
   obtain ⟨hcz18_0, hcz18_1, hcz18_2, hcz18_3, hcz18_4, hcz18_5, hcz18_6, hcz18_7, hcz18_8, hfz18_0, hfz18_1, hfz18_2, hfz18_3, hfz18_4, hfz18_5, hfz18_6, hfz18_7, hfz18_8⟩ := cz9 BK203.out
   go_upto_if 22 with (first | ((with_reducible refine gate_callee (f := 40) rfl ?_); refine goesL_ (some 22) rfl rfl Tryd.func40 (by kernel_rfl) rfl #[.int .i64 a0_0] rfl gl ?_; (with_reducible refine (stowageref16_HasKey.calls a0_0 t207 _ A16.out).mono ?_); rintro e w' ⟨rfl, ⟨nd, rfl⟩⟩; refine ⟨_, rfl, ?_⟩))
   (try simp only [Act.put, List.setIfInBounds_toArray, List.set_cons_zero, List.set_cons_succ])
   go_cut [3] (fun v3 wc => ∃ (kq : Nat) (x3_16 : ByteArray), v3 = .string x3_16 ∧ Aside0 (stowageref16_Told.j1 kq x3_16 a0_0 a0_1 a0_2 a0_3 a0_4 a0_5 a0_6 l0_7 l0_8 = some r) ∧ Aside0 (kq ≤ kj2) ∧ Aside0 (wc.heap[gb203]? = some (.cells #[.int .i64 a0_0, .string a0_1, .string a0_2, .string a0_3, .int .i64 a0_4, .int .i64 a0_5, .string a0_6, (.slice A0_7 l0_7.length c0_7), (.slice A0_8 l0_8.length c0_8)] 34 (0, 0))) ∧ Aside0 (Below w.heap.size w wc))
   case first =>
    have H := HC17.out
    clear HC17
    by_cases c19 : t207 = true
    ·
     subst c19
     rw [if_pos rfl] at H
     replace H := obE H
     obtain ⟨t208, A20, H⟩ := H
     by_cases c21 : x3_2.size + t208.size ≤ 9223372036854775807
     ·
      rw [if_pos c21] at H
      have c21b0 := eq_true c21
      have c21b1 := decide_eq_true c21
      try have c21b2 : (9223372036854775807 < x3_2.size + t208.size) = False := eq_false (Nat.not_lt.2 c21)
      (try (have c21b3 := c21b2; simp only [ByteArray.size_append] at c21b3))
      have H' := am H
      clear H
      obtain ⟨hcz22_0, hcz22_1, hcz22_2, hcz22_3, hcz22_4, hcz22_5, hcz22_6, hcz22_7, hcz22_8, hfz22_0, hfz22_1, hfz22_2, hfz22_3, hfz22_4, hfz22_5, hfz22_6, hfz22_7, hfz22_8⟩ := cz9 BK203.out
      go_wp2_with (first | ((with_reducible refine gate_callee (f := 60) rfl ?_); refine goesL_ (some 26) rfl rfl Tryd.func60 (by kernel_rfl) rfl #[.string a0_3] rfl gl ?_; (with_reducible refine (stowageref01_Text.calls kj2 a0_3 t208 _ A20.out).mono ?_); rintro e w23 ⟨rfl, hb⟩; refine ⟨_, rfl, ?_⟩; replace BK203 := bb BK203.out hb; replace HB := am (below_step (bws HB.out) hb); (try clear hb)))
      go_meet
      case rel => exact ⟨_, (x3_2 ++ t208), rs, H', ⟨by have := HJ2.out; first | omega | exact Nat.le_refl _⟩, ⟨bk BK203.out⟩, ⟨bws HB.out⟩⟩
     ·
      rw [if_neg c21] at H
      exact absurd H (by simp)
    ·
     replace c19 := Bool.eq_false_iff.mpr c19
     subst c19
     rw [if_neg (show ¬ (false = true) by decide)] at H
     have H' := am H
     clear H
     go_wp2
     go_meet
     case rel => exact ⟨_, (x3_2), rs, H', ⟨by have := HJ2.out; first | omega | exact Nat.le_refl _⟩, ⟨bk BK203.out⟩, ⟨bws HB.out⟩⟩
   case rest =>
    clear HC17
    try clear hcz18_0 hcz18_1 hcz18_2 hcz18_3 hcz18_4 hcz18_5 hcz18_6 hcz18_7 hcz18_8 hfz18_0 hfz18_1 hfz18_2 hfz18_3 hfz18_4 hfz18_5 hfz18_6 hfz18_7 hfz18_8
    try clear hcz5_0 hcz5_1 hcz5_2 hcz5_3 hcz5_4 hcz5_5 hcz5_6 hcz5_7 hcz5_8 hfz5_0 hfz5_1 hfz5_2 hfz5_3 hfz5_4 hfz5_5 hfz5_6 hfz5_7 hfz5_8
    try clear hcz7_0 hcz7_1 hcz7_2 hcz7_3 hcz7_4 hcz7_5 hcz7_6 hcz7_7 hcz7_8 hfz7_0 hfz7_1 hfz7_2 hfz7_3 hfz7_4 hfz7_5 hfz7_6 hfz7_7 hfz7_8
    obtain ⟨kq, x3_16, rfl, HA, HJ16, BK203, HB⟩ := hcut
    cases kq with
    | zero => exact absurd HA.out (by simp [stowageref16_Told.j1])
    | succ kj16 =>
     have H := HA.out
     clear HA
     simp only [stowageref16_Told.j1] at H
     replace H := obE H
     obtain ⟨t209, A24, H⟩ := H
     have HC25 := am H
     clear H
     obtain ⟨hcz26_0, hcz26_1, hcz26_2, hcz26_3, hcz26_4, hcz26_5, hcz26_6, hcz26_7, hcz26_8, hfz26_0, hfz26_1, hfz26_2, hfz26_3, hfz26_4, hfz26_5, hfz26_6, hfz26_7, hfz26_8⟩ := cz9 BK203.out
     go_upto_if 30 with (first | ((with_reducible refine gate_callee (f := 42) rfl ?_); refine goesL_ (some 30) rfl rfl Tryd.func42 (by kernel_rfl) rfl #[.int .i64 a0_0] rfl gl ?_; (with_reducible refine (stowageref16_hasID.calls a0_0 t209 _ A24.out).mono ?_); rintro e w' ⟨rfl, ⟨nd, rfl⟩⟩; refine ⟨_, rfl, ?_⟩))
     (try simp only [Act.put, List.setIfInBounds_toArray, List.set_cons_zero, List.set_cons_succ])
     go_cut [3] (fun v3 wc => ∃ (kq : Nat) (x3_24 : ByteArray), v3 = .string x3_24 ∧ Aside0 (stowageref16_Told.j2 kq x3_24 a0_0 a0_1 a0_2 a0_3 a0_4 a0_5 a0_6 l0_7 l0_8 = some r) ∧ Aside0 (kq ≤ kj16) ∧ Aside0 (wc.heap[gb203]? = some (.cells #[.int .i64 a0_0, .string a0_1, .string a0_2, .string a0_3, .int .i64 a0_4, .int .i64 a0_5, .string a0_6, (.slice A0_7 l0_7.length c0_7), (.slice A0_8 l0_8.length c0_8)] 34 (0, 0))) ∧ Aside0 (Below w.heap.size w wc))
     case first =>
      have H := HC25.out
      clear HC25
      by_cases c27 : t209 = true
      ·
       subst c27
       rw [if_pos rfl] at H
       replace H := obE H
       obtain ⟨t210, A28, H⟩ := H
       by_cases c29 : x3_16.size + t210.size ≤ 9223372036854775807
       ·
        rw [if_pos c29] at H
        have c29b0 := eq_true c29
        have c29b1 := decide_eq_true c29
        try have c29b2 : (9223372036854775807 < x3_16.size + t210.size) = False := eq_false (Nat.not_lt.2 c29)
        (try (have c29b3 := c29b2; simp only [ByteArray.size_append] at c29b3))
        have H' := am H
        clear H
        obtain ⟨hcz30_0, hcz30_1, hcz30_2, hcz30_3, hcz30_4, hcz30_5, hcz30_6, hcz30_7, hcz30_8, hfz30_0, hfz30_1, hfz30_2, hfz30_3, hfz30_4, hfz30_5, hfz30_6, hfz30_7, hfz30_8⟩ := cz9 BK203.out
        go_wp2_with (first | ((with_reducible refine gate_callee (f := 59) rfl ?_); refine goesL_ (some 34) rfl rfl Tryd.func59 (by kernel_rfl) rfl #[.int .i64 a0_4] rfl gl ?_; (with_reducible refine (stowageref16_number.calls kj16 a0_4 t210 _ A28.out).mono ?_); rintro e w31 ⟨rfl, hb⟩; refine ⟨_, rfl, ?_⟩; replace BK203 := bb BK203.out hb; replace HB := am (below_step (bws HB.out) hb); (try clear hb)))
        go_meet
        case rel => exact ⟨_, (x3_16 ++ t210), rs, H', ⟨by have := HJ2.out; have := HJ16.out; first | omega | exact Nat.le_refl _⟩, ⟨bk BK203.out⟩, ⟨bws HB.out⟩⟩
       ·
        rw [if_neg c29] at H
        exact absurd H (by simp)
      ·
       replace c27 := Bool.eq_false_iff.mpr c27
       subst c27
       rw [if_neg (show ¬ (false = true) by decide)] at H
       have H' := am H
       clear H
       go_wp2
       go_meet
       case rel => exact ⟨_, (x3_16), rs, H', ⟨by have := HJ2.out; have := HJ16.out; first | omega | exact Nat.le_refl _⟩, ⟨bk BK203.out⟩, ⟨bws HB.out⟩⟩
     case rest =>
      clear HC25
      try clear hcz18_0 hcz18_1 hcz18_2 hcz18_3 hcz18_4 hcz18_5 hcz18_6 hcz18_7 hcz18_8 hfz18_0 hfz18_1 hfz18_2 hfz18_3 hfz18_4 hfz18_5 hfz18_6 hfz18_7 hfz18_8
      try clear hcz26_0 hcz26_1 hcz26_2 hcz26_3 hcz26_4 hcz26_5 hcz26_6 hcz26_7 hcz26_8 hfz26_0 hfz26_1 hfz26_2 hfz26_3 hfz26_4 hfz26_5 hfz26_6 hfz26_7 hfz26_8
      try clear hcz5_0 hcz5_1 hcz5_2 hcz5_3 hcz5_4 hcz5_5 hcz5_6 hcz5_7 hcz5_8 hfz5_0 hfz5_1 hfz5_2 hfz5_3 hfz5_4 hfz5_5 hfz5_6 hfz5_7 hfz5_8
      try clear hcz7_0 hcz7_1 hcz7_2 hcz7_3 hcz7_4 hcz7_5 hcz7_6 hcz7_7 hcz7_8 hfz7_0 hfz7_1 hfz7_2 hfz7_3 hfz7_4 hfz7_5 hfz7_6 hfz7_7 hfz7_8
      obtain ⟨kq, x3_24, rfl, HA, HJ24, BK203, HB⟩ := hcut
      cases kq with
      | zero => exact absurd HA.out (by simp [stowageref16_Told.j2])
      | succ kj24 =>
       have H := HA.out
       clear HA
       simp only [stowageref16_Told.j2] at H
       have HC32 := am H
       clear H
       obtain ⟨hcz33_0, hcz33_1, hcz33_2, hcz33_3, hcz33_4, hcz33_5, hcz33_6, hcz33_7, hcz33_8, hfz33_0, hfz33_1, hfz33_2, hfz33_3, hfz33_4, hfz33_5, hfz33_6, hfz33_7, hfz33_8⟩ := cz9 BK203.out
       go_upto_if 38 with (fail)
       go_cut [3] (fun v3 wc => ∃ (kq : Nat) (x3_31 : ByteArray), v3 = .string x3_31 ∧ Aside0 (stowageref16_Told.j3 kq x3_31 a0_0 a0_1 a0_2 a0_3 a0_4 a0_5 a0_6 l0_7 l0_8 = some r) ∧ Aside0 (kq ≤ kj24) ∧ Aside0 (wc.heap[gb203]? = some (.cells #[.int .i64 a0_0, .string a0_1, .string a0_2, .string a0_3, .int .i64 a0_4, .int .i64 a0_5, .string a0_6, (.slice A0_7 l0_7.length c0_7), (.slice A0_8 l0_8.length c0_8)] 34 (0, 0))) ∧ Aside0 (Below w.heap.size w wc))
       case first =>
        have H := HC32.out
        clear HC32
        by_cases c34 : a0_0 = 7
        ·
         rw [if_pos c34] at H
         have c34b0 := beq_iff_eq.mpr c34
         have c34b1 := bne_eq_false_iff_eq.mpr c34
         clear c34
         (first | rw [c34b0] | (simp only [i64_w, i32_w]; rw [c34b0]) | skip)
         replace H := obE H
         obtain ⟨t211, A35, H⟩ := H
         by_cases c36 : x3_24.size + t211.size ≤ 9223372036854775807
         ·
          rw [if_pos c36] at H
          have c36b0 := eq_true c36
          have c36b1 := decide_eq_true c36
          try have c36b2 : (9223372036854775807 < x3_24.size + t211.size) = False := eq_false (Nat.not_lt.2 c36)
          (try (have c36b3 := c36b2; simp only [ByteArray.size_append] at c36b3))
          have H' := am H
          clear H
          obtain ⟨hcz37_0, hcz37_1, hcz37_2, hcz37_3, hcz37_4, hcz37_5, hcz37_6, hcz37_7, hcz37_8, hfz37_0, hfz37_1, hfz37_2, hfz37_3, hfz37_4, hfz37_5, hfz37_6, hfz37_7, hfz37_8⟩ := cz9 BK203.out
          go_wp2_with (first | ((with_reducible refine gate_callee (f := 59) rfl ?_); refine goesL_ (some 42) rfl rfl Tryd.func59 (by kernel_rfl) rfl #[.int .i64 a0_5] rfl gl ?_; (with_reducible refine (stowageref16_number.calls kj24 a0_5 t211 _ A35.out).mono ?_); rintro e w38 ⟨rfl, hb⟩; refine ⟨_, rfl, ?_⟩; replace BK203 := bb BK203.out hb; replace HB := am (below_step (bws HB.out) hb); (try clear hb)))
          go_meet
          case rel => exact ⟨_, (x3_24 ++ t211), rs, H', ⟨by have := HJ2.out; have := HJ16.out; have := HJ24.out; first | omega | exact Nat.le_refl _⟩, ⟨bk BK203.out⟩, ⟨bws HB.out⟩⟩
         ·
          rw [if_neg c36] at H
          exact absurd H (by simp)
        ·
         rw [if_neg c34] at H
         have c34b0 := beq_eq_false_iff_ne.mpr c34
         have c34b1 := bne_iff_ne.mpr c34
         (first | rw [c34b0] | (simp only [i64_w, i32_w]; rw [c34b0]) | skip)
         have H' := am H
         clear H
         go_wp2
         go_meet
         case rel => exact ⟨_, (x3_24), rs, H', ⟨by have := HJ2.out; have := HJ16.out; have := HJ24.out; first | omega | exact Nat.le_refl _⟩, ⟨bk BK203.out⟩, ⟨bws HB.out⟩⟩
       case rest =>
        clear HC32
        try clear hcz18_0 hcz18_1 hcz18_2 hcz18_3 hcz18_4 hcz18_5 hcz18_6 hcz18_7 hcz18_8 hfz18_0 hfz18_1 hfz18_2 hfz18_3 hfz18_4 hfz18_5 hfz18_6 hfz18_7 hfz18_8
        try clear hcz26_0 hcz26_1 hcz26_2 hcz26_3 hcz26_4 hcz26_5 hcz26_6 hcz26_7 hcz26_8 hfz26_0 hfz26_1 hfz26_2 hfz26_3 hfz26_4 hfz26_5 hfz26_6 hfz26_7 hfz26_8
        try clear hcz33_0 hcz33_1 hcz33_2 hcz33_3 hcz33_4 hcz33_5 hcz33_6 hcz33_7 hcz33_8 hfz33_0 hfz33_1 hfz33_2 hfz33_3 hfz33_4 hfz33_5 hfz33_6 hfz33_7 hfz33_8
        try clear hcz5_0 hcz5_1 hcz5_2 hcz5_3 hcz5_4 hcz5_5 hcz5_6 hcz5_7 hcz5_8 hfz5_0 hfz5_1 hfz5_2 hfz5_3 hfz5_4 hfz5_5 hfz5_6 hfz5_7 hfz5_8
        try clear hcz7_0 hcz7_1 hcz7_2 hcz7_3 hcz7_4 hcz7_5 hcz7_6 hcz7_7 hcz7_8 hfz7_0 hfz7_1 hfz7_2 hfz7_3 hfz7_4 hfz7_5 hfz7_6 hfz7_7 hfz7_8
        obtain ⟨kq, x3_31, rfl, HA, HJ31, BK203, HB⟩ := hcut
        cases kq with
        | zero => exact absurd HA.out (by simp [stowageref16_Told.j3])
        | succ kj31 =>
         have H := HA.out
         clear HA
         simp only [stowageref16_Told.j3] at H
         replace H := obE H
         obtain ⟨t212, A39, H⟩ := H
         have HC40 := am H
         clear H
         obtain ⟨hcz41_0, hcz41_1, hcz41_2, hcz41_3, hcz41_4, hcz41_5, hcz41_6, hcz41_7, hcz41_8, hfz41_0, hfz41_1, hfz41_2, hfz41_3, hfz41_4, hfz41_5, hfz41_6, hfz41_7, hfz41_8⟩ := cz9 BK203.out
         go_upto_if 46 with (first | ((with_reducible refine gate_callee (f := 44) rfl ?_); refine goesL_ (some 46) rfl rfl Tryd.func44 (by kernel_rfl) rfl #[.int .i64 a0_0] rfl gl ?_; (with_reducible refine (stowageref16_hasSum.calls a0_0 t212 _ A39.out).mono ?_); rintro e w' ⟨rfl, ⟨nd, rfl⟩⟩; refine ⟨_, rfl, ?_⟩))
         (try simp only [Act.put, List.setIfInBounds_toArray, List.set_cons_zero, List.set_cons_succ])
         go_cut [3] (fun v3 wc => ∃ (kq : Nat) (x3_39 : ByteArray), v3 = .string x3_39 ∧ Aside0 (stowageref16_Told.j4 kq x3_39 a0_0 a0_1 a0_2 a0_3 a0_4 a0_5 a0_6 l0_7 l0_8 = some r) ∧ Aside0 (kq ≤ kj31) ∧ Aside0 (wc.heap[gb203]? = some (.cells #[.int .i64 a0_0, .string a0_1, .string a0_2, .string a0_3, .int .i64 a0_4, .int .i64 a0_5, .string a0_6, (.slice A0_7 l0_7.length c0_7), (.slice A0_8 l0_8.length c0_8)] 34 (0, 0))) ∧ Aside0 (Below w.heap.size w wc))
         case first =>
          have H := HC40.out
          clear HC40
          by_cases c42 : t212 = true
          ·
           subst c42
           rw [if_pos rfl] at H
           replace H := obE H
           obtain ⟨t213, A43, H⟩ := H
           by_cases c44 : x3_31.size + t213.size ≤ 9223372036854775807
           ·
            rw [if_pos c44] at H
            have c44b0 := eq_true c44
            have c44b1 := decide_eq_true c44
            try have c44b2 : (9223372036854775807 < x3_31.size + t213.size) = False := eq_false (Nat.not_lt.2 c44)
            (try (have c44b3 := c44b2; simp only [ByteArray.size_append] at c44b3))
            replace H := obE H
            obtain ⟨t214, A45, H⟩ := H
            by_cases c46 : (x3_31 ++ t213).size + t214.size ≤ 9223372036854775807
            ·
             rw [if_pos c46] at H
             have c46b0 := eq_true c46
             have c46b1 := decide_eq_true c46
             try have c46b2 : (9223372036854775807 < (x3_31 ++ t213).size + t214.size) = False := eq_false (Nat.not_lt.2 c46)
             (try (have c46b3 := c46b2; simp only [ByteArray.size_append] at c46b3))
             have H' := am H
             clear H
             try go_wp2
             replace BK203 := am (blk_drew (blk_drewN BK203.out nd))
             replace HB := am (below_drew1 (pw_below_drewN HB.out nd))
             refine start_ (n := 10) (S := fun w' => w'.cell? ⟨gb203, 0, none⟩ = some (.int .i64 a0_0) ∧ w'.cell? ⟨gb203, 1, none⟩ = some (.string a0_1) ∧ w'.cell? ⟨gb203, 2, none⟩ = some (.string a0_2) ∧ w'.cell? ⟨gb203, 3, none⟩ = some (.string a0_3) ∧ w'.cell? ⟨gb203, 4, none⟩ = some (.int .i64 a0_4) ∧ w'.cell? ⟨gb203, 5, none⟩ = some (.int .i64 a0_5) ∧ w'.cell? ⟨gb203, 6, none⟩ = some (.string a0_6) ∧ w'.cell? ⟨gb203, 7, none⟩ = some (.slice A0_7 l0_7.length c0_7) ∧ w'.cell? ⟨gb203, 8, none⟩ = some (.slice A0_8 l0_8.length c0_8)) (ds := []) #[false, false, false, false, false, false, false, false, false, false] (by kernel_rfl) rfl rfl ⟨(blk_cell BK203.out 0).trans rfl, (blk_cell BK203.out 1).trans rfl, (blk_cell BK203.out 2).trans rfl, (blk_cell BK203.out 3).trans rfl, (blk_cell BK203.out 4).trans rfl, (blk_cell BK203.out 5).trans rfl, (blk_cell BK203.out 6).trans rfl, (blk_cell BK203.out 7).trans rfl, (blk_cell BK203.out 8).trans rfl⟩ (fun hHeld => ?_); refine with_tabW stowageref16_Told.tab11 stowageref16_Told.bits11 (fun HT_ HW_ => ?_)
             generalize (wc.drewN nd).drew = w47 at BK203 HB hHeld ⊢
             refine pu 0 (some 47) HT_.out ?_
             refine pu 1 (some 48) HT_.out ?_
             refine pu 5 (some 52) HT_.out ?_
             refine tk 2 (some 49) HT_.out HW_.out hHeld ?_
             refine tk 6 (some 53) HT_.out HW_.out hHeld ?_
             refine one_ (i := 3) (N := some 50) #[true, true, true, true, false, true, true, false, false, false] rfl rfl (one_of HT_.out (by kernel_rfl)) (by decide) (fun K hK => ?_)
             refine goes_ Tryd.func60 (by kernel_rfl) rfl #[.string a0_6] (by rfl) rfl rfl gl ?_
             with_reducible refine (stowageref01_Text.calls kj31 a0_6 t213 _ A43.out).mono ?_
             rintro e w48 ⟨rfl, hb⟩
             refine ⟨_, rfl, ?_⟩
             replace BK203 := bb BK203.out hb
             replace HB := am (below_step (bws HB.out) hb)
             (try clear hb)
             (try clear hb2)
             (try clear hk)
             (try clear hi)
             refine hK.out _ _ ⟨(blk_cell BK203.out 0).trans rfl, (blk_cell BK203.out 1).trans rfl, (blk_cell BK203.out 2).trans rfl, (blk_cell BK203.out 3).trans rfl, (blk_cell BK203.out 4).trans rfl, (blk_cell BK203.out 5).trans rfl, (blk_cell BK203.out 6).trans rfl, (blk_cell BK203.out 7).trans rfl, (blk_cell BK203.out 8).trans rfl⟩ (fun hHeld => ?_)
             clear hK K
             refine norm_ (a' := ?_) ?_ ?_
             rotate_left
             ·
              show Act.put _ (some 50) _ = _
              simp only [Act.put, List.setIfInBounds_toArray, List.set_cons_zero, List.set_cons_succ, i64_w, i32_w]
              rfl
             refine pu 4 (some 51) HT_.out ?_
             refine one_ (i := 7) (N := some 54) #[true, true, true, true, true, true, true, true, false, false] rfl rfl (one_of HT_.out (by kernel_rfl)) (by decide) (fun K hK => ?_)
             refine goes_ Tryd.func63 (by kernel_rfl) rfl #[.slice A0_7 l0_7.length c0_7] (by rfl) rfl rfl gl ?_
             with_reducible refine (stowageref13_Told.calls kj31 _ _ l0_7 t214 _ ?side1 ?side2 A45.out).mono ?_
             (case side1 => exact kC (Kd.C_below HR0_7.out HB.out))
             (case side2 => exact HC0_7.out)
             rintro e w49 ⟨rfl, hb⟩
             refine ⟨_, rfl, ?_⟩
             replace BK203 := bb BK203.out hb
             replace HB := am (below_step (bws HB.out) hb)
             (try clear hb)
             (try clear hb2)
             (try clear hk)
             (try clear hi)
             refine hK.out _ _ ⟨(blk_cell BK203.out 0).trans rfl, (blk_cell BK203.out 1).trans rfl, (blk_cell BK203.out 2).trans rfl, (blk_cell BK203.out 3).trans rfl, (blk_cell BK203.out 4).trans rfl, (blk_cell BK203.out 5).trans rfl, (blk_cell BK203.out 6).trans rfl, (blk_cell BK203.out 7).trans rfl, (blk_cell BK203.out 8).trans rfl⟩ (fun hHeld => ?_)
             clear hK K
             refine norm_ (a' := ?_) ?_ ?_
             rotate_left
             ·
              show Act.put _ (some 54) _ = _
              simp only [Act.put, List.setIfInBounds_toArray, List.set_cons_zero, List.set_cons_succ, i64_w, i32_w]
              rfl
             refine pu 8 (some 55) HT_.out ?_
             refine pu 9 (some 3) HT_.out ?_
             refine done_ (done_of HT_.out (by kernel_rfl)) ?_
             try go_wp2
             go_meet
             case rel => exact ⟨_, ((x3_31 ++ t213) ++ t214), rs, H', ⟨by have := HJ2.out; have := HJ16.out; have := HJ24.out; have := HJ31.out; first | omega | exact Nat.le_refl _⟩, ⟨bk BK203.out⟩, ⟨bws HB.out⟩⟩
            ·
             rw [if_neg c46] at H
             exact absurd H (by simp)
           ·
            rw [if_neg c44] at H
            exact absurd H (by simp)
          ·
           replace c42 := Bool.eq_false_iff.mpr c42
           subst c42
           rw [if_neg (show ¬ (false = true) by decide)] at H
           have H' := am H
           clear H
           go_wp2
           go_meet
           case rel => exact ⟨_, (x3_31), rs, H', ⟨by have := HJ2.out; have := HJ16.out; have := HJ24.out; have := HJ31.out; first | omega | exact Nat.le_refl _⟩, ⟨bk BK203.out⟩, ⟨bws HB.out⟩⟩
         case rest =>
          clear HC40
          try clear hcz18_0 hcz18_1 hcz18_2 hcz18_3 hcz18_4 hcz18_5 hcz18_6 hcz18_7 hcz18_8 hfz18_0 hfz18_1 hfz18_2 hfz18_3 hfz18_4 hfz18_5 hfz18_6 hfz18_7 hfz18_8
          try clear hcz26_0 hcz26_1 hcz26_2 hcz26_3 hcz26_4 hcz26_5 hcz26_6 hcz26_7 hcz26_8 hfz26_0 hfz26_1 hfz26_2 hfz26_3 hfz26_4 hfz26_5 hfz26_6 hfz26_7 hfz26_8
          try clear hcz33_0 hcz33_1 hcz33_2 hcz33_3 hcz33_4 hcz33_5 hcz33_6 hcz33_7 hcz33_8 hfz33_0 hfz33_1 hfz33_2 hfz33_3 hfz33_4 hfz33_5 hfz33_6 hfz33_7 hfz33_8
          try clear hcz41_0 hcz41_1 hcz41_2 hcz41_3 hcz41_4 hcz41_5 hcz41_6 hcz41_7 hcz41_8 hfz41_0 hfz41_1 hfz41_2 hfz41_3 hfz41_4 hfz41_5 hfz41_6 hfz41_7 hfz41_8
          try clear hcz5_0 hcz5_1 hcz5_2 hcz5_3 hcz5_4 hcz5_5 hcz5_6 hcz5_7 hcz5_8 hfz5_0 hfz5_1 hfz5_2 hfz5_3 hfz5_4 hfz5_5 hfz5_6 hfz5_7 hfz5_8
          try clear hcz7_0 hcz7_1 hcz7_2 hcz7_3 hcz7_4 hcz7_5 hcz7_6 hcz7_7 hcz7_8 hfz7_0 hfz7_1 hfz7_2 hfz7_3 hfz7_4 hfz7_5 hfz7_6 hfz7_7 hfz7_8
          obtain ⟨kq, x3_39, rfl, HA, HJ39, BK203, HB⟩ := hcut
          cases kq with
          | zero => exact absurd HA.out (by simp [stowageref16_Told.j4])
          | succ kj39 =>
           have H := HA.out
           clear HA
           simp only [stowageref16_Told.j4] at H
           have HC50 := am H
           clear H
           obtain ⟨hcz51_0, hcz51_1, hcz51_2, hcz51_3, hcz51_4, hcz51_5, hcz51_6, hcz51_7, hcz51_8, hfz51_0, hfz51_1, hfz51_2, hfz51_3, hfz51_4, hfz51_5, hfz51_6, hfz51_7, hfz51_8⟩ := cz9 BK203.out
           go_upto_if 58 with (fail)
           go_cut [3] (fun v3 wc => ∃ (kq : Nat) (x3_49 : ByteArray), v3 = .string x3_49 ∧ Aside0 (stowageref16_Told.j5 kq x3_49 a0_0 a0_1 a0_2 a0_3 a0_4 a0_5 a0_6 l0_7 l0_8 = some r) ∧ Aside0 (kq ≤ kj39) ∧ Aside0 (wc.heap[gb203]? = some (.cells #[.int .i64 a0_0, .string a0_1, .string a0_2, .string a0_3, .int .i64 a0_4, .int .i64 a0_5, .string a0_6, (.slice A0_7 l0_7.length c0_7), (.slice A0_8 l0_8.length c0_8)] 34 (0, 0))) ∧ Aside0 (Below w.heap.size w wc))
           case first =>
            have H := HC50.out
            clear HC50
            by_cases c52 : a0_0 = 8
            ·
             rw [if_pos c52] at H
             have c52b0 := beq_iff_eq.mpr c52
             have c52b1 := bne_eq_false_iff_eq.mpr c52
             clear c52
             (first | rw [c52b0] | (simp only [i64_w, i32_w]; rw [c52b0]) | skip)
             replace H := obE H
             obtain ⟨t215, A53, H⟩ := H
             by_cases c54 : x3_39.size + t215.size ≤ 9223372036854775807
             ·
              rw [if_pos c54] at H
              have c54b0 := eq_true c54
              have c54b1 := decide_eq_true c54
              try have c54b2 : (9223372036854775807 < x3_39.size + t215.size) = False := eq_false (Nat.not_lt.2 c54)
              (try (have c54b3 := c54b2; simp only [ByteArray.size_append] at c54b3))
              have H' := am H
              clear H
              obtain ⟨hcz55_0, hcz55_1, hcz55_2, hcz55_3, hcz55_4, hcz55_5, hcz55_6, hcz55_7, hcz55_8, hfz55_0, hfz55_1, hfz55_2, hfz55_3, hfz55_4, hfz55_5, hfz55_6, hfz55_7, hfz55_8⟩ := cz9 BK203.out
              go_wp2_with (first | ((with_reducible refine gate_callee (f := 59) rfl ?_); refine goesL_ (some 63) rfl rfl Tryd.func59 (by kernel_rfl) rfl #[.int .i64 (l0_8.length : Int)] rfl gl ?_; (with_reducible refine (stowageref16_number.calls kj39 (l0_8.length : Int) t215 _ A53.out).mono ?_); rintro e w56 ⟨rfl, hb⟩; refine ⟨_, rfl, ?_⟩; replace BK203 := bb BK203.out hb; replace HB := am (below_step (bws HB.out) hb); (try clear hb)))
              go_meet
              case rel => exact ⟨_, (x3_39 ++ t215), rs, H', ⟨by have := HJ2.out; have := HJ16.out; have := HJ24.out; have := HJ31.out; have := HJ39.out; first | omega | exact Nat.le_refl _⟩, ⟨bk BK203.out⟩, ⟨bws HB.out⟩⟩
             ·
              rw [if_neg c54] at H
              exact absurd H (by simp)
            ·
             rw [if_neg c52] at H
             have c52b0 := beq_eq_false_iff_ne.mpr c52
             have c52b1 := bne_iff_ne.mpr c52
             (first | rw [c52b0] | (simp only [i64_w, i32_w]; rw [c52b0]) | skip)
             have H' := am H
             clear H
             go_wp2
             go_meet
             case rel => exact ⟨_, (x3_39), rs, H', ⟨by have := HJ2.out; have := HJ16.out; have := HJ24.out; have := HJ31.out; have := HJ39.out; first | omega | exact Nat.le_refl _⟩, ⟨bk BK203.out⟩, ⟨bws HB.out⟩⟩
           case rest =>
            clear HC50
            try clear hcz18_0 hcz18_1 hcz18_2 hcz18_3 hcz18_4 hcz18_5 hcz18_6 hcz18_7 hcz18_8 hfz18_0 hfz18_1 hfz18_2 hfz18_3 hfz18_4 hfz18_5 hfz18_6 hfz18_7 hfz18_8
            try clear hcz26_0 hcz26_1 hcz26_2 hcz26_3 hcz26_4 hcz26_5 hcz26_6 hcz26_7 hcz26_8 hfz26_0 hfz26_1 hfz26_2 hfz26_3 hfz26_4 hfz26_5 hfz26_6 hfz26_7 hfz26_8
            try clear hcz33_0 hcz33_1 hcz33_2 hcz33_3 hcz33_4 hcz33_5 hcz33_6 hcz33_7 hcz33_8 hfz33_0 hfz33_1 hfz33_2 hfz33_3 hfz33_4 hfz33_5 hfz33_6 hfz33_7 hfz33_8
            try clear hcz41_0 hcz41_1 hcz41_2 hcz41_3 hcz41_4 hcz41_5 hcz41_6 hcz41_7 hcz41_8 hfz41_0 hfz41_1 hfz41_2 hfz41_3 hfz41_4 hfz41_5 hfz41_6 hfz41_7 hfz41_8
            try clear hcz51_0 hcz51_1 hcz51_2 hcz51_3 hcz51_4 hcz51_5 hcz51_6 hcz51_7 hcz51_8 hfz51_0 hfz51_1 hfz51_2 hfz51_3 hfz51_4 hfz51_5 hfz51_6 hfz51_7 hfz51_8
            try clear hcz5_0 hcz5_1 hcz5_2 hcz5_3 hcz5_4 hcz5_5 hcz5_6 hcz5_7 hcz5_8 hfz5_0 hfz5_1 hfz5_2 hfz5_3 hfz5_4 hfz5_5 hfz5_6 hfz5_7 hfz5_8
            try clear hcz7_0 hcz7_1 hcz7_2 hcz7_3 hcz7_4 hcz7_5 hcz7_6 hcz7_7 hcz7_8 hfz7_0 hfz7_1 hfz7_2 hfz7_3 hfz7_4 hfz7_5 hfz7_6 hfz7_7 hfz7_8
            obtain ⟨kq, x3_49, rfl, HA, HJ49, BK203, HB⟩ := hcut
            cases kq with
            | zero => exact absurd HA.out (by simp [stowageref16_Told.j5])
            | succ kj49 =>
             have H := HA.out
             clear HA
             simp only [stowageref16_Told.j5] at H
             have H' := am H
             clear H
             go_wp2
             go_loopg [3, 4] kj49 (fun kq v3 v4 w' => ∃ (x3_7 : ByteArray) (x4_7 : Int), v3 = .string x3_7 ∧ v4 = .int .i64 x4_7 ∧ Aside0 (stowageref16_Told.l0 kq x3_7 x4_7 a0_0 a0_1 a0_2 a0_3 a0_4 a0_5 a0_6 l0_7 l0_8 = some r) ∧ Aside0 (kq ≤ kj49) ∧ Aside0 (w'.heap[gb203]? = some (.cells #[.int .i64 a0_0, .string a0_1, .string a0_2, .string a0_3, .int .i64 a0_4, .int .i64 a0_5, .string a0_6, (.slice A0_7 l0_7.length c0_7), (.slice A0_8 l0_8.length c0_8)] 34 (0, 0))) ∧ Aside0 (Below w.heap.size w w'))
             case atStart => exact ⟨(x3_49), (0), rs, rs, H', ⟨Nat.le_refl _⟩, ⟨bk BK203.out⟩, ⟨bws HB.out⟩⟩
             case round =>
              clear H'
              try clear hcz18_0 hcz18_1 hcz18_2 hcz18_3 hcz18_4 hcz18_5 hcz18_6 hcz18_7 hcz18_8 hfz18_0 hfz18_1 hfz18_2 hfz18_3 hfz18_4 hfz18_5 hfz18_6 hfz18_7 hfz18_8
              try clear hcz26_0 hcz26_1 hcz26_2 hcz26_3 hcz26_4 hcz26_5 hcz26_6 hcz26_7 hcz26_8 hfz26_0 hfz26_1 hfz26_2 hfz26_3 hfz26_4 hfz26_5 hfz26_6 hfz26_7 hfz26_8
              try clear hcz33_0 hcz33_1 hcz33_2 hcz33_3 hcz33_4 hcz33_5 hcz33_6 hcz33_7 hcz33_8 hfz33_0 hfz33_1 hfz33_2 hfz33_3 hfz33_4 hfz33_5 hfz33_6 hfz33_7 hfz33_8
              try clear hcz41_0 hcz41_1 hcz41_2 hcz41_3 hcz41_4 hcz41_5 hcz41_6 hcz41_7 hcz41_8 hfz41_0 hfz41_1 hfz41_2 hfz41_3 hfz41_4 hfz41_5 hfz41_6 hfz41_7 hfz41_8
              try clear hcz51_0 hcz51_1 hcz51_2 hcz51_3 hcz51_4 hcz51_5 hcz51_6 hcz51_7 hcz51_8 hfz51_0 hfz51_1 hfz51_2 hfz51_3 hfz51_4 hfz51_5 hfz51_6 hfz51_7 hfz51_8
              try clear hcz5_0 hcz5_1 hcz5_2 hcz5_3 hcz5_4 hcz5_5 hcz5_6 hcz5_7 hcz5_8 hfz5_0 hfz5_1 hfz5_2 hfz5_3 hfz5_4 hfz5_5 hfz5_6 hfz5_7 hfz5_8
              try clear hcz7_0 hcz7_1 hcz7_2 hcz7_3 hcz7_4 hcz7_5 hcz7_6 hcz7_7 hcz7_8 hfz7_0 hfz7_1 hfz7_2 hfz7_3 hfz7_4 hfz7_5 hfz7_6 hfz7_7 hfz7_8
              obtain ⟨x3_7, x4_7, rfl, rfl, HA, HK7, BK203, HB⟩ := hrel
              cases gk with
              | zero => exact absurd HA.out (by simp [stowageref16_Told.l0])
              | succ k7 =>
               have H := HA.out
               clear HA
               simp only [stowageref16_Told.l0] at H
               replace H := iteD H
               rcases H with ⟨c57b0, H⟩ | ⟨c57b0, H⟩
               ·
                replace H := iteD H
                rcases H with ⟨c58b0, H⟩ | ⟨_, H⟩
                ·
                 replace H := obE H
                 obtain ⟨t217, A59, H⟩ := H
                 by_cases c60 : x3_7.size + t217.size ≤ 9223372036854775807
                 ·
                  rw [if_pos c60] at H
                  have c60b0 := eq_true c60
                  have c60b1 := decide_eq_true c60
                  try have c60b2 : (9223372036854775807 < x3_7.size + t217.size) = False := eq_false (Nat.not_lt.2 c60)
                  (try (have c60b3 := c60b2; simp only [ByteArray.size_append] at c60b3))
                  replace H := obE H
                  obtain ⟨t219, A61, H⟩ := H
                  by_cases c62 : (x3_7 ++ t217).size + t219.size ≤ 9223372036854775807
                  ·
                   rw [if_pos c62] at H
                   have c62b0 := eq_true c62
                   have c62b1 := decide_eq_true c62
                   try have c62b2 : (9223372036854775807 < (x3_7 ++ t217).size + t219.size) = False := eq_false (Nat.not_lt.2 c62)
                   (try (have c62b3 := c62b2; simp only [ByteArray.size_append] at c62b3))
                   have H' := am H
                   clear H
                   obtain ⟨hcz63_0, hcz63_1, hcz63_2, hcz63_3, hcz63_4, hcz63_5, hcz63_6, hcz63_7, hcz63_8, hfz63_0, hfz63_1, hfz63_2, hfz63_3, hfz63_4, hfz63_5, hfz63_6, hfz63_7, hfz63_8⟩ := cz9 BK203.out
                   try go_wp2
                   replace BK203 := am (blk_drew BK203.out)
                   replace HB := am (below_drew1 HB.out)
                   have p216 := pz x4_7
                   have q216 := pl x4_7 (l0_8.length : Int)
                   obtain ⟨ad216, e216, hw216_0, hw216_1⟩ := at_T61 HR0_8.out x4_7 (of_eq_true p216) (of_eq_true q216)
                   cases e216
                   have hx216_0 := bc HB.out hw216_0
                   have hx216_1 := bc HB.out hw216_1
                   have p218 := pz x4_7
                   have q218 := pl x4_7 (l0_8.length : Int)
                   obtain ⟨ad218, e218, hw218_0, hw218_1⟩ := at_T61 HR0_8.out x4_7 (of_eq_true p218) (of_eq_true q218)
                   obtain rfl : ad216 = ad218 := (by injection e218)
                   have hx218_0 := bc HB.out hw218_0
                   have hx218_1 := bc HB.out hw218_1
                   refine start_ (n := 18) (S := fun w' => w'.cell? ⟨gb203, 0, none⟩ = some (.int .i64 a0_0) ∧ w'.cell? ⟨gb203, 1, none⟩ = some (.string a0_1) ∧ w'.cell? ⟨gb203, 2, none⟩ = some (.string a0_2) ∧ w'.cell? ⟨gb203, 3, none⟩ = some (.string a0_3) ∧ w'.cell? ⟨gb203, 4, none⟩ = some (.int .i64 a0_4) ∧ w'.cell? ⟨gb203, 5, none⟩ = some (.int .i64 a0_5) ∧ w'.cell? ⟨gb203, 6, none⟩ = some (.string a0_6) ∧ w'.cell? ⟨gb203, 7, none⟩ = some (.slice A0_7 l0_7.length c0_7) ∧ w'.cell? ⟨gb203, 8, none⟩ = some (.slice (some ad216) l0_8.length c0_8) ∧ w'.cell? (ad216.add ((x4_7).toNat * 2)) = some (.int .i64 ((rd_T61 l0_8 x4_7).f0)) ∧ w'.cell? ⟨(ad216.add ((x4_7).toNat * 2)).block, (ad216.add ((x4_7).toNat * 2)).off + 1, none⟩ = some (.string ((rd_T61 l0_8 x4_7).f1))) (ds := []) #[false, false, false, false, false, false, false, false, false, false, false, false, false, false, false, false, false, false] (by kernel_rfl) rfl rfl ⟨(blk_cell BK203.out 0).trans rfl, (blk_cell BK203.out 1).trans rfl, (blk_cell BK203.out 2).trans rfl, (blk_cell BK203.out 3).trans rfl, (blk_cell BK203.out 4).trans rfl, (blk_cell BK203.out 5).trans rfl, (blk_cell BK203.out 6).trans rfl, (blk_cell BK203.out 7).trans rfl, (blk_cell BK203.out 8).trans rfl, (bc HB.out hw216_0), (bc HB.out hw216_1)⟩ (fun hHeld => ?_); refine with_tabW stowageref16_Told.tab17 stowageref16_Told.bits17 (fun HT_ HW_ => ?_)
                   generalize wr.drew = w64 at BK203 HB hx216_0 hx216_1 hx218_0 hx218_1 hHeld ⊢
                   refine pu 0 (some 72) HT_.out ?_
                   refine pu 1 (some 73) HT_.out ?_
                   refine pu 3 (some 75) HT_.out ?_
                   refine pu 9 (some 81) HT_.out ?_
                   refine pu 11 (some 83) HT_.out ?_
                   refine tk 2 (some 74) HT_.out HW_.out hHeld ?_
                   refine pu 4 (some 76) HT_.out ?_
                   refine pu 5 (some 77) HT_.out ?_
                   refine tk 6 (some 78) HT_.out HW_.out hHeld ?_
                   refine tk 10 (some 82) HT_.out HW_.out hHeld ?_
                   refine pu 12 (some 84) HT_.out ?_
                   refine pu 13 (some 85) HT_.out ?_
                   refine tk 14 (some 86) HT_.out HW_.out hHeld ?_
                   refine one_ (i := 7) (N := some 79) #[true, true, true, true, true, true, true, true, false, true, true, true, true, true, true, false, false, false] rfl rfl (one_of HT_.out (by kernel_rfl)) (by decide) (fun K hK => ?_)
                   refine goes_ Tryd.func59 (by kernel_rfl) rfl #[.int .i64 ((rd_T61 l0_8 x4_7).f0)] (by rfl) rfl rfl gl ?_
                   with_reducible refine (stowageref16_number.calls k7 ((rd_T61 l0_8 x4_7).f0) t217 _ A59.out).mono ?_
                   rintro e w65 ⟨rfl, hb⟩
                   refine ⟨_, rfl, ?_⟩
                   replace BK203 := bb BK203.out hb
                   replace HB := am (below_step (bws HB.out) hb)
                   (try clear hb)
                   (try clear hb2)
                   (try clear hk)
                   (try clear hi)
                   refine hK.out _ _ ⟨(blk_cell BK203.out 0).trans rfl, (blk_cell BK203.out 1).trans rfl, (blk_cell BK203.out 2).trans rfl, (blk_cell BK203.out 3).trans rfl, (blk_cell BK203.out 4).trans rfl, (blk_cell BK203.out 5).trans rfl, (blk_cell BK203.out 6).trans rfl, (blk_cell BK203.out 7).trans rfl, (blk_cell BK203.out 8).trans rfl, (bc HB.out hw216_0), (bc HB.out hw216_1)⟩ (fun hHeld => ?_)
                   clear hK K
                   refine norm_ (a' := ?_) ?_ ?_
                   rotate_left
                   ·
                    show Act.put _ (some 79) _ = _
                    simp only [Act.put, List.setIfInBounds_toArray, List.set_cons_zero, List.set_cons_succ, i64_w, i32_w]
                    rfl
                   refine pu 8 (some 80) HT_.out ?_
                   refine one_ (i := 15) (N := some 87) #[true, true, true, true, true, true, true, true, true, true, true, true, true, true, true, true, false, false] rfl rfl (one_of HT_.out (by kernel_rfl)) (by decide) (fun K hK => ?_)
                   refine goes_ Tryd.func60 (by kernel_rfl) rfl #[.string ((rd_T61 l0_8 x4_7).f1)] (by rfl) rfl rfl gl ?_
                   with_reducible refine (stowageref01_Text.calls k7 ((rd_T61 l0_8 x4_7).f1) t219 _ A61.out).mono ?_
                   rintro e w66 ⟨rfl, hb⟩
                   refine ⟨_, rfl, ?_⟩
                   replace BK203 := bb BK203.out hb
                   replace HB := am (below_step (bws HB.out) hb)
                   (try clear hb)
                   (try clear hb2)
                   (try clear hk)
                   (try clear hi)
                   refine hK.out _ _ ⟨(blk_cell BK203.out 0).trans rfl, (blk_cell BK203.out 1).trans rfl, (blk_cell BK203.out 2).trans rfl, (blk_cell BK203.out 3).trans rfl, (blk_cell BK203.out 4).trans rfl, (blk_cell BK203.out 5).trans rfl, (blk_cell BK203.out 6).trans rfl, (blk_cell BK203.out 7).trans rfl, (blk_cell BK203.out 8).trans rfl, (bc HB.out hw216_0), (bc HB.out hw216_1)⟩ (fun hHeld => ?_)
                   clear hK K
                   refine norm_ (a' := ?_) ?_ ?_
                   rotate_left
                   ·
                    show Act.put _ (some 87) _ = _
                    simp only [Act.put, List.setIfInBounds_toArray, List.set_cons_zero, List.set_cons_succ, i64_w, i32_w]
                    rfl
                   refine pu 16 (some 88) HT_.out ?_
                   refine pu 17 (some 3) HT_.out ?_
                   refine done_ (done_of HT_.out (by kernel_rfl)) ?_
                   try go_wp2
                   go_roundg k7
                   case measure => have := HJ2.out; have := HJ16.out; have := HJ24.out; have := HJ31.out; have := HJ39.out; have := HJ49.out; have := HK7.out; omega
                   case rel => exact ⟨((x3_7 ++ t217) ++ t219), (wrap64 (x4_7 + 1)), rs, rs, H', ⟨by have := HJ2.out; have := HJ16.out; have := HJ24.out; have := HJ31.out; have := HJ39.out; have := HJ49.out; have := HK7.out; omega⟩, ⟨bk BK203.out⟩, ⟨bws HB.out⟩⟩
                  ·
                   rw [if_neg c62] at H
                   exact absurd H (by simp)
                 ·
                  rw [if_neg c60] at H
                  exact absurd H (by simp)
                ·
                 exact absurd H (by simp)
               ·
                obtain rfl := Option.some.inj H
                obtain ⟨hcz67_0, hcz67_1, hcz67_2, hcz67_3, hcz67_4, hcz67_5, hcz67_6, hcz67_7, hcz67_8, hfz67_0, hfz67_1, hfz67_2, hfz67_3, hfz67_4, hfz67_5, hfz67_6, hfz67_7, hfz67_8⟩ := cz9 BK203.out
                go_wp2
                go_ret
                exact ⟨rf, bws HB.out⟩
end Go.Proofs.YtdidopoalmkhlaaDoor.Ot
end
section
namespace Go.Proofs.YtdidopoalmkhlaaDoor.Ot
open Go.RowKit Go.Proofs.YtdidopoalmkhlaaDoorW.PrintWords Go.Proofs.YtdidopoalmkhlaaDoorW.PrintLast Go.Proofs.YtdidopoalmkhlaaDoorW.PrintMore
attribute [local go_sem] max2_int min2_int max_two min_two max_three min_three max_four min_four
set_option linter.unusedVariables false
set_option linter.unusedSimpArgs false
def stowageref16_Encode.f (k : Nat) (a0_0 : Int) (a0_1 : ByteArray) (a0_2 : ByteArray) (a0_3 : ByteArray) (a0_4 : Int) (a0_5 : Int) (a0_6 : ByteArray) (l0_7 : List (S95)) (l0_8 : List (S61)) : Option (ByteArray × Int) := (stowageref16_Check.f k a0_0 a0_1 a0_2 a0_3 a0_4 a0_5 a0_6 l0_7 l0_8).bind fun t221 => (if t221 = 0 then ((stowageref16_Told.f k a0_0 a0_1 a0_2 a0_3 a0_4 a0_5 a0_6 l0_7 l0_8).bind fun t222 => (some (t222, 0))) else (some ((⟨#[]⟩ : ByteArray), 1)))
theorem stowageref16_Encode.mono : ∀ a0 a1 a2 a3 a4 a5 a6 a7 a8 k, LeO (stowageref16_Encode.f k a0 a1 a2 a3 a4 a5 a6 a7 a8) (stowageref16_Encode.f (k + 1) a0 a1 a2 a3 a4 a5 a6 a7 a8) := by
 intro a0 a1 a2 a3 a4 a5 a6 a7 a8 k
 unfold stowageref16_Encode.f
 repeat' (with_reducible first | exact stowageref16_Check.mono _ _ _ _ _ _ _ _ _ _ | exact stowageref16_Told.mono _ _ _ _ _ _ _ _ _ _ | exact LeO.refl _ | exact LeO.none _ | refine LeO.ite ?_ ?_ | refine LeO.bind ?_ (fun _ => ?_))
set_option maxHeartbeats 8000000 in
set_option maxRecDepth 100000 in
theorem stowageref16_Encode.calls (k : Nat) (a0_0 : Int) (a0_1 : ByteArray) (a0_2 : ByteArray) (a0_3 : ByteArray) (a0_4 : Int) (a0_5 : Int) (a0_6 : ByteArray) (A0_7 : Option Addr) (c0_7 : Nat) (l0_7 : List (S95)) (A0_8 : Option Addr) (c0_8 : Nat) (l0_8 : List (S61)) (r1 : ByteArray) (r2 : Int) (w : World) (hr0_7 : Kd.C k95 w A0_7 l0_7.length l0_7) (hc0_7 : l0_7.length ≤ c0_7) (hr0_8 : Kd.C k61 w A0_8 l0_8.length l0_8) (hc0_8 : l0_8.length ≤ c0_8) (h : stowageref16_Encode.f k a0_0 a0_1 a0_2 a0_3 a0_4 a0_5 a0_6 l0_7 l0_8 = some (r1, r2)) :
  Calls Tryd.prog 9 #[.agg #[.int .i64 a0_0, .string a0_1, .string a0_2, .string a0_3, .int .i64 a0_4, .int .i64 a0_5, .string a0_6, .slice A0_7 l0_7.length c0_7, .slice A0_8 l0_8.length c0_8]] w fun e w' => e = .returned (.tuple #[.string r1, .int .i64 r2]) ∧ Below w.heap.size w w' := by
 have hu34 := Tryd.underlying34
 have HR0_7 := am hr0_7
 have HC0_7 := am hc0_7
 clear hr0_7 hc0_7
 have HR0_8 := am hr0_8
 have HC0_8 := am hc0_8
 clear hr0_8 hc0_8
 have HB := am (Below.refl w.heap.size w)
 have H := h
 clear h
 unfold stowageref16_Encode.f at H
 replace H := obE H
 obtain ⟨t221, A2, H⟩ := H
 by_cases c3 : t221 = 0
 ·
  rw [if_pos c3] at H
  have c3b0 := beq_iff_eq.mpr c3
  have c3b1 := bne_eq_false_iff_eq.mpr c3
  clear c3
  replace H := obE H
  obtain ⟨t222, A4, H⟩ := H
  simp only [Option.some.injEq, Prod.mk.injEq] at H
  obtain ⟨rfl, rfl⟩ := H
  go_enter Tryd.func9, Tryd.ntmps9
  go_wp2_with (first | ((with_reducible refine gate_dst (N := 1) rfl ?_); refine bx 1 #[.int .i64 a0_0, .string a0_1, .string a0_2, .string a0_3, .int .i64 a0_4, .int .i64 a0_5, .string a0_6, .slice A0_7 l0_7.length c0_7, .slice A0_8 l0_8.length c0_8] 34 ?_; intro gb220 hg w5 hbox hb; have BK220 := am (hbox); have GW220 := gsz hg HB.out; have GE220 := gsz hg HB.out; replace HB := am (below_step (bw HB.out) hb); clear hb hbox hg; obtain ⟨hcz6_0, hcz6_1, hcz6_2, hcz6_3, hcz6_4, hcz6_5, hcz6_6, hcz6_7, hcz6_8, hfz6_0, hfz6_1, hfz6_2, hfz6_3, hfz6_4, hfz6_5, hfz6_6, hfz6_7, hfz6_8⟩ := cz9 BK220.out) | ((with_reducible refine gate_callee (f := 15) rfl ?_); refine goesL_ (some 5) rfl rfl Tryd.func15 (by kernel_rfl) rfl #[.agg #[.int .i64 a0_0, .string a0_1, .string a0_2, .string a0_3, .int .i64 a0_4, .int .i64 a0_5, .string a0_6, .slice A0_7 l0_7.length c0_7, .slice A0_8 l0_8.length c0_8]] rfl gl ?_; (with_reducible refine (stowageref16_Check.calls k a0_0 a0_1 a0_2 a0_3 a0_4 a0_5 a0_6 _ _ l0_7 _ _ l0_8 t221 _ ?side1 ?side2 ?side3 ?side4 A2.out).mono ?_); (case side1 => exact kC (Kd.C_below HR0_7.out HB.out)); (case side2 => exact HC0_7.out); (case side3 => exact kC (Kd.C_below HR0_8.out HB.out)); (case side4 => exact HC0_8.out); rintro e w7 ⟨rfl, hb⟩; refine ⟨_, rfl, ?_⟩; replace BK220 := bb BK220.out hb; replace HB := am (below_step (bws HB.out) hb); (try clear hb); obtain ⟨hcz8_0, hcz8_1, hcz8_2, hcz8_3, hcz8_4, hcz8_5, hcz8_6, hcz8_7, hcz8_8, hfz8_0, hfz8_1, hfz8_2, hfz8_3, hfz8_4, hfz8_5, hfz8_6, hfz8_7, hfz8_8⟩ := cz9 BK220.out) | ((with_reducible refine gate_callee (f := 24) rfl ?_); refine goesL_ (some 8) rfl rfl Tryd.func24 (by kernel_rfl) rfl #[.agg #[.int .i64 a0_0, .string a0_1, .string a0_2, .string a0_3, .int .i64 a0_4, .int .i64 a0_5, .string a0_6, .slice A0_7 l0_7.length c0_7, .slice A0_8 l0_8.length c0_8]] rfl gl ?_; (with_reducible refine (stowageref16_Told.calls k a0_0 a0_1 a0_2 a0_3 a0_4 a0_5 a0_6 _ _ l0_7 _ _ l0_8 t222 _ ?side1 ?side2 ?side3 ?side4 A4.out).mono ?_); (case side1 => exact kC (Kd.C_below HR0_7.out HB.out)); (case side2 => exact HC0_7.out); (case side3 => exact kC (Kd.C_below HR0_8.out HB.out)); (case side4 => exact HC0_8.out); rintro e w9 ⟨rfl, hb⟩; refine ⟨_, rfl, ?_⟩; replace BK220 := bb BK220.out hb; replace HB := am (below_step (bws HB.out) hb); (try clear hb)))
  go_ret2
  exact ⟨rf, bws HB.out⟩
 ·
  rw [if_neg c3] at H
  have c3b0 := beq_eq_false_iff_ne.mpr c3
  have c3b1 := bne_iff_ne.mpr c3
  simp only [Option.some.injEq, Prod.mk.injEq] at H
  obtain ⟨rfl, rfl⟩ := H
  go_enter Tryd.func9, Tryd.ntmps9
  go_wp2_with (first | ((with_reducible refine gate_dst (N := 1) rfl ?_); refine bx 1 #[.int .i64 a0_0, .string a0_1, .string a0_2, .string a0_3, .int .i64 a0_4, .int .i64 a0_5, .string a0_6, .slice A0_7 l0_7.length c0_7, .slice A0_8 l0_8.length c0_8] 34 ?_; intro gb220 hg w10 hbox hb; have BK220 := am (hbox); have GW220 := gsz hg HB.out; have GE220 := gsz hg HB.out; replace HB := am (below_step (bw HB.out) hb); clear hb hbox hg; obtain ⟨hcz11_0, hcz11_1, hcz11_2, hcz11_3, hcz11_4, hcz11_5, hcz11_6, hcz11_7, hcz11_8, hfz11_0, hfz11_1, hfz11_2, hfz11_3, hfz11_4, hfz11_5, hfz11_6, hfz11_7, hfz11_8⟩ := cz9 BK220.out) | ((with_reducible refine gate_callee (f := 15) rfl ?_); refine goesL_ (some 5) rfl rfl Tryd.func15 (by kernel_rfl) rfl #[.agg #[.int .i64 a0_0, .string a0_1, .string a0_2, .string a0_3, .int .i64 a0_4, .int .i64 a0_5, .string a0_6, .slice A0_7 l0_7.length c0_7, .slice A0_8 l0_8.length c0_8]] rfl gl ?_; (with_reducible refine (stowageref16_Check.calls k a0_0 a0_1 a0_2 a0_3 a0_4 a0_5 a0_6 _ _ l0_7 _ _ l0_8 t221 _ ?side1 ?side2 ?side3 ?side4 A2.out).mono ?_); (case side1 => exact kC (Kd.C_below HR0_7.out HB.out)); (case side2 => exact HC0_7.out); (case side3 => exact kC (Kd.C_below HR0_8.out HB.out)); (case side4 => exact HC0_8.out); rintro e w12 ⟨rfl, hb⟩; refine ⟨_, rfl, ?_⟩; replace BK220 := bb BK220.out hb; replace HB := am (below_step (bws HB.out) hb); (try clear hb)))
  go_ret2
  exact ⟨rf, bws HB.out⟩
def stowagelaw13_Piece.l0 : Nat → List (S82) → List (S95) → Int → Option ((List (S95)))
 | 0, _, _, _ => none
 | k + 1, x0, x3, x4 => if x4 < (x0.length : Int) then (if 0 ≤ x4 then (if x3.length < 5864062014805 then (stowagelaw13_Piece.l0 k x0 (x3 ++ [(⟨(rd_T82 x0 x4).f0, (rd_T82 x0 x4).f1⟩ : S95)]) (wrap64 (x4 + 1))) else (none)) else (none)) else (some x3)
def stowagelaw13_Piece.f (k : Nat) (l0 : List (S82)) : Option ((List (S95))) := stowagelaw13_Piece.l0 k l0 ([] : List (S95)) 0
theorem stowagelaw13_Piece.mono_l : ∀ k, (∀ y0 y1 y2, LeO (stowagelaw13_Piece.l0 k y0 y1 y2) (stowagelaw13_Piece.l0 (k + 1) y0 y1 y2))
 | 0 => fun _ _ _ r h => by simp [stowagelaw13_Piece.l0] at h
 | k + 1 => by
  have ih0 := stowagelaw13_Piece.mono_l k
  ·
   intro y0 y1 y2
   unfold stowagelaw13_Piece.l0
   repeat' (with_reducible first | exact ih0 _ _ _ | exact LeO.refl _ | exact LeO.none _ | refine LeO.ite ?_ ?_ | refine LeO.bind ?_ (fun _ => ?_))
theorem stowagelaw13_Piece.mono : ∀ a0 k, LeO (stowagelaw13_Piece.f k a0) (stowagelaw13_Piece.f (k + 1) a0) := by
 intro a0 k
 have ih0 := stowagelaw13_Piece.mono_l k
 unfold stowagelaw13_Piece.f
 repeat' (with_reducible first | exact ih0 _ _ _ | exact LeO.refl _ | exact LeO.none _ | refine LeO.ite ?_ ?_ | refine LeO.bind ?_ (fun _ => ?_))
set_option maxHeartbeats 8000000 in
set_option maxRecDepth 100000 in
theorem stowagelaw13_Piece.calls (k : Nat) (A0 : Option Addr) (c0 : Nat) (l0 : List (S82)) (r : List (S95)) (w : World) (hr0 : Kd.C k82 w A0 l0.length l0) (hc0 : l0.length ≤ c0) (h : stowagelaw13_Piece.f k l0 = some r) :
  Calls Tryd.prog 25 #[.slice A0 l0.length c0] w fun e w' => ∃ v0_ : Value, e = .returned (v0_) ∧ Kd.R k95 95 w' w.heap.size (fun _ => True) v0_ r ∧ Below w.heap.size w w' := by
 have hu82 := Tryd.underlying82
 have HR0 := am hr0
 have HC0 := am hc0
 clear hr0 hc0
 have HB := am (Below.refl w.heap.size w)
 have H := h
 clear h
 unfold stowagelaw13_Piece.f at H
 have H' := am H
 clear H
 go_enter Tryd.func25, Tryd.ntmps25
 go_wp2
 go_loopg [3, 4] k (fun kq v3 v4 w' => ∃ (x3_1 : List (S95)) (x4_1 : Int), v4 = .int .i64 x4_1 ∧ Aside0 (stowagelaw13_Piece.l0 kq l0 x3_1 x4_1 = some r) ∧ Aside0 (kq ≤ k) ∧ Aside0 (Kd.R k95 95 w' w.heap.size (fun _ => True) v3 x3_1) ∧ Aside0 (Below w.heap.size w w'))
 case atStart => exact ⟨(([] : List (S95))), (0), rs, H', ⟨Nat.le_refl _⟩, ⟨niR⟩, ⟨bw HB.out⟩⟩
 case round =>
  clear H'
  obtain ⟨x3_1, x4_1, rfl, HA, HK1, HO_3, HB⟩ := hrel
  cases gk with
  | zero => exact absurd HA.out (by simp [stowagelaw13_Piece.l0])
  | succ k1 =>
   have H := HA.out
   clear HA
   simp only [stowagelaw13_Piece.l0] at H
   replace H := iteD H
   rcases H with ⟨c2b0, H⟩ | ⟨c2b0, H⟩
   ·
    replace H := iteD H
    rcases H with ⟨c3b0, H⟩ | ⟨_, H⟩
    ·
     by_cases c4 : x3_1.length < 5864062014805
     ·
      rw [if_pos c4] at H
      have LMc4 := am c4
      clear c4
      obtain ⟨y224, hy224⟩ : ∃ y_ : List (S95), y_ = (x3_1 ++ [(⟨(rd_T82 l0 x4_1).f0, (rd_T82 l0 x4_1).f1⟩ : S95)]) := ⟨_, rfl⟩
      replace H : (stowagelaw13_Piece.l0 k1 l0 y224 (wrap64 (x4_1 + 1))) = some r := by first | (rw [hy224]; with_reducible exact H) | (have H2_ := (Option.bind_some _ _).symm.trans H; rw [hy224]; with_reducible exact H2_) | (have H2_ := (Option.bind_some _ _).symm.trans H; with_reducible exact H2_) | with_reducible exact H | (rw [hy224]; exact H) | exact H
      have Ny224 := am hy224
      clear hy224
      have H' := am H
      clear H
      have p223 := pz x4_1
      have q223 := pl x4_1 (l0.length : Int)
      obtain ⟨ad223, e223, hx223_0, hx223_1⟩ := at_T82 HR0.out x4_1 (of_eq_true p223) (of_eq_true q223)
      cases e223
      replace hx223_0 := bc HB.out hx223_0
      replace hx223_1 := bc HB.out hx223_1
      go_wp2_with (first | ((with_reducible refine gate_builtin (b := .append) (xs := #[.tmp 11, .tmp 16]) rfl ?_); at_builtin; refine Kd.R_append k95 (w0 := w) w.heap.size rfl (.tmp 11) (.tmp 16) 31 95 (.agg #[(.string ⟨#[]⟩), (.int .i64 0)]) 24 rfl Tryd.underlying31 info95 rfl (by decide) (by omega) u3 x3_1 (⟨(rd_T82 l0 x4_1).f0, (rd_T82 l0 x4_1).f1⟩ : S95) [.string ((rd_T82 l0 x4_1).f0), .int .i64 ((rd_T82 l0 x4_1).f1)] (fun _ => True) (fun _ => False) rfl rfl ?aP (fun _ hk => hk.elim) ?aF ?aO ?aB ?aS ?aL ?_; (case aP => exact k95_mkM _ _ _ (⟨(rd_T82 l0 x4_1).f0, (rd_T82 l0 x4_1).f1⟩ : S95)); (case aB => exact (bw HB.out)); (case aF => exact (fun _ _ => trivial)); (case aO => exact (kR HO_3.out)); (case aS => exact (below_size (bw HB.out))); (case aL => have := LMc4.out; omega); intro v225 w5 ho hb hg hat; rw [← Ny224.out] at ho; have n0_ := am (hb); have n1_ := am (ho); clear HB; clear HO_3; have HB := n0_; have HO226 := n1_; clear n0_ n1_; clear ho hb hg hat))
      go_roundg k1
      case measure => have := HK1.out; omega
      case rel => exact ⟨(y224), (wrap64 (x4_1 + 1)), rs, H', ⟨by have := HK1.out; omega⟩, ⟨kR HO226.out⟩, ⟨bw HB.out⟩⟩
     ·
      rw [if_neg c4] at H
      exact absurd H (by simp)
    ·
     exact absurd H (by simp)
   ·
    obtain rfl := Option.some.inj H
    go_wp2
    go_ret
    exact ⟨_, rf, kR HO_3.out, bw HB.out⟩
def stowagelaw16_Ref.l0 : Nat → List (S61) → Int → Int → ByteArray → ByteArray → ByteArray → Int → Int → ByteArray → List (S82) → List (S62) → Option (Int × ByteArray × ByteArray × ByteArray × Int × Int × ByteArray × (List (S95)) × (List (S61)))
 | 0, _, _, _, _, _, _, _, _, _, _, _ => none
 | k + 1, x3, x4, x228000, x228001, x228002, x228003, x228004, x228005, x228006, x228007, x228008 => if x4 < (x228008.length : Int) then (if 0 ≤ x4 then (if x3.length < 5864062014805 then (stowagelaw16_Ref.l0 k (x3 ++ [(⟨(rd_T62 x228008 x4).f0, (rd_T62 x228008 x4).f1⟩ : S61)]) (wrap64 (x4 + 1)) x228000 x228001 x228002 x228003 x228004 x228005 x228006 x228007 x228008) else (none)) else (none)) else ((stowagelaw13_Piece.f k x228007).bind fun t233 => (some (x228000, x228001, x228002, x228003, x228004, x228005, x228006, t233, x3)))
def stowagelaw16_Ref.f (k : Nat) (a0_0 : Int) (a0_1 : ByteArray) (a0_2 : ByteArray) (a0_3 : ByteArray) (a0_4 : Int) (a0_5 : Int) (a0_6 : ByteArray) (l0_7 : List (S82)) (l0_8 : List (S62)) : Option (Int × ByteArray × ByteArray × ByteArray × Int × Int × ByteArray × (List (S95)) × (List (S61))) := stowagelaw16_Ref.l0 k ([] : List (S61)) 0 a0_0 a0_1 a0_2 a0_3 a0_4 a0_5 a0_6 l0_7 l0_8
theorem stowagelaw16_Ref.mono_l : ∀ k, (∀ y0 y1 y2 y3 y4 y5 y6 y7 y8 y9 y10, LeO (stowagelaw16_Ref.l0 k y0 y1 y2 y3 y4 y5 y6 y7 y8 y9 y10) (stowagelaw16_Ref.l0 (k + 1) y0 y1 y2 y3 y4 y5 y6 y7 y8 y9 y10))
 | 0 => fun _ _ _ _ _ _ _ _ _ _ _ r h => by simp [stowagelaw16_Ref.l0] at h
 | k + 1 => by
  have ih0 := stowagelaw16_Ref.mono_l k
  ·
   intro y0 y1 y2 y3 y4 y5 y6 y7 y8 y9 y10
   unfold stowagelaw16_Ref.l0
   repeat' (with_reducible first | exact ih0 _ _ _ _ _ _ _ _ _ _ _ | exact stowagelaw13_Piece.mono _ _ | exact LeO.refl _ | exact LeO.none _ | refine LeO.ite ?_ ?_ | refine LeO.bind ?_ (fun _ => ?_))
theorem stowagelaw16_Ref.mono : ∀ a0 a1 a2 a3 a4 a5 a6 a7 a8 k, LeO (stowagelaw16_Ref.f k a0 a1 a2 a3 a4 a5 a6 a7 a8) (stowagelaw16_Ref.f (k + 1) a0 a1 a2 a3 a4 a5 a6 a7 a8) := by
 intro a0 a1 a2 a3 a4 a5 a6 a7 a8 k
 have ih0 := stowagelaw16_Ref.mono_l k
 unfold stowagelaw16_Ref.f
 repeat' (with_reducible first | exact ih0 _ _ _ _ _ _ _ _ _ _ _ | exact stowagelaw13_Piece.mono _ _ | exact LeO.refl _ | exact LeO.none _ | refine LeO.ite ?_ ?_ | refine LeO.bind ?_ (fun _ => ?_))
def stowagelaw16_Ref.T6 : Bool × List (List Nat × List Nat) := (true, [([], []), ([0], [0]), ([], []), ([2], [2]), ([], []), ([4], [4]), ([], []), ([6], [6]), ([], []), ([8], [8]), ([], []), ([10], [10]), ([], []), ([12], [12]), ([], []), ([14], [14]), ([15], [15]), ([], []), ([1, 3, 5, 7, 9, 11, 13, 16, 17], [1, 3, 5, 7, 9, 11, 13, 16, 17]), ([18, 16, 0, 1, 2, 3, 4, 5, 6, 7, 8, 9, 10, 11, 12, 13, 14, 15, 16, 17, 18], [18])])
def stowagelaw16_Ref.B6 : List Nat := [0, 1, 0, 4, 0, 16, 0, 64, 0, 256, 0, 1024, 0, 4096, 0, 16384, 49152, 0, 262143, 524287]
theorem stowagelaw16_Ref.tab6 : rtab .any (opsOf Tryd.f10 6) = stowagelaw16_Ref.T6 := by kernel_rfl
theorem stowagelaw16_Ref.bits6 : waitsOk stowagelaw16_Ref.T6.2 stowagelaw16_Ref.B6 = true := by kernel_rfl
set_option maxHeartbeats 8000000 in
set_option maxRecDepth 100000 in
theorem stowagelaw16_Ref.calls (k : Nat) (a0_0 : Int) (a0_1 : ByteArray) (a0_2 : ByteArray) (a0_3 : ByteArray) (a0_4 : Int) (a0_5 : Int) (a0_6 : ByteArray) (A0_7 : Option Addr) (c0_7 : Nat) (l0_7 : List (S82)) (A0_8 : Option Addr) (c0_8 : Nat) (l0_8 : List (S62)) (r1 : Int) (r2 : ByteArray) (r3 : ByteArray) (r4 : ByteArray) (r5 : Int) (r6 : Int) (r7 : ByteArray) (r8 : List (S95)) (r9 : List (S61)) (w : World) (hr0_7 : Kd.C k82 w A0_7 l0_7.length l0_7) (hc0_7 : l0_7.length ≤ c0_7) (hr0_8 : Kd.C k62 w A0_8 l0_8.length l0_8) (hc0_8 : l0_8.length ≤ c0_8) (h : stowagelaw16_Ref.f k a0_0 a0_1 a0_2 a0_3 a0_4 a0_5 a0_6 l0_7 l0_8 = some (r1, r2, r3, r4, r5, r6, r7, r8, r9)) :
  Calls Tryd.prog 10 #[.agg #[.int .i64 a0_0, .string a0_1, .string a0_2, .string a0_3, .int .i64 a0_4, .int .i64 a0_5, .string a0_6, .slice A0_7 l0_7.length c0_7, .slice A0_8 l0_8.length c0_8]] w fun e w' => ∃ v7_ v8_ : Value, e = .returned (.agg #[.int .i64 r1, .string r2, .string r3, .string r4, .int .i64 r5, .int .i64 r6, .string r7, v7_, v8_]) ∧ Kd.R k95 95 w' w.heap.size (fun _ => True) v7_ r8 ∧ Kd.R k61 61 w' w.heap.size (fun _ => True) v8_ r9 ∧ Below w.heap.size w w' := by
 have hu25 := Tryd.underlying25
 have hu34 := Tryd.underlying34
 have hu62 := Tryd.underlying62
 have HR0_7 := am hr0_7
 have HC0_7 := am hc0_7
 clear hr0_7 hc0_7
 have HR0_8 := am hr0_8
 have HC0_8 := am hc0_8
 clear hr0_8 hc0_8
 have HB := am (Below.refl w.heap.size w)
 have H := h
 clear h
 unfold stowagelaw16_Ref.f at H
 have H' := am H
 clear H
 go_enter Tryd.func10, Tryd.ntmps10
 go_wp2_with (first | ((with_reducible refine gate_dst (N := 1) rfl ?_); refine bx 1 #[.int .i64 a0_0, .string a0_1, .string a0_2, .string a0_3, .int .i64 a0_4, .int .i64 a0_5, .string a0_6, .slice A0_7 l0_7.length c0_7, .slice A0_8 l0_8.length c0_8] 25 ?_; intro gb227 hg w2 hbox hb; have BK227 := am (hbox); have GW227 := gsz hg HB.out; have GE227 := gsz hg HB.out; replace HB := am (below_step (bw HB.out) hb); clear hb hbox hg) | ((with_reducible refine gate_dst (N := 2) rfl ?_); refine bx 2 #[.int .i64 0, .string (⟨#[]⟩ : ByteArray), .string (⟨#[]⟩ : ByteArray), .string (⟨#[]⟩ : ByteArray), .int .i64 0, .int .i64 0, .string (⟨#[]⟩ : ByteArray), .slice none 0 0, .slice none 0 0] 34 ?_; intro gb228 hg w3 hbox hb; have BK228 := am (hbox); have GW228 := gsz hg HB.out; have GE228 := gsz hg HB.out; have NB227_228 := nlt (g := gb227) hg BK227.out; have NB228_227 := ngt (g := gb227) hg BK227.out; replace BK227 := bb BK227.out hb; replace HB := am (below_step (bws HB.out) hb); clear hb hbox hg))
 go_loopg [3, 4] k (fun kq v3 v4 w' => ∃ (x3_1 : List (S61)) (x4_1 : Int), v4 = .int .i64 x4_1 ∧ Aside0 (stowagelaw16_Ref.l0 kq x3_1 x4_1 a0_0 a0_1 a0_2 a0_3 a0_4 a0_5 a0_6 l0_7 l0_8 = some (r1, r2, r3, r4, r5, r6, r7, r8, r9)) ∧ Aside0 (kq ≤ k) ∧ Aside0 (Kd.R k61 61 w' w.heap.size (fun _ => True) v3 x3_1) ∧ Aside0 (w'.heap[gb227]? = some (.cells #[.int .i64 a0_0, .string a0_1, .string a0_2, .string a0_3, .int .i64 a0_4, .int .i64 a0_5, .string a0_6, (.slice A0_7 l0_7.length c0_7), (.slice A0_8 l0_8.length c0_8)] 25 (0, 0))) ∧ Aside0 (w'.heap[gb228]? = some (.cells #[.int .i64 0, .string (⟨#[]⟩ : ByteArray), .string (⟨#[]⟩ : ByteArray), .string (⟨#[]⟩ : ByteArray), .int .i64 0, .int .i64 0, .string (⟨#[]⟩ : ByteArray), (.slice none 0 0), (.slice none 0 0)] 34 (0, 0))) ∧ Aside0 (Below w.heap.size w w'))
 case atStart => exact ⟨(([] : List (S61))), (0), rs, H', ⟨Nat.le_refl _⟩, ⟨niR⟩, ⟨bk BK227.out⟩, ⟨bk BK228.out⟩, ⟨bws HB.out⟩⟩
 case round =>
  clear H'
  obtain ⟨x3_1, x4_1, rfl, HA, HK1, HO_3, BK227, BK228, HB⟩ := hrel
  cases gk with
  | zero => exact absurd HA.out (by simp [stowagelaw16_Ref.l0])
  | succ k1 =>
   have H := HA.out
   clear HA
   simp only [stowagelaw16_Ref.l0] at H
   replace H := iteD H
   rcases H with ⟨c4b0, H⟩ | ⟨c4b0, H⟩
   ·
    replace H := iteD H
    rcases H with ⟨c5b0, H⟩ | ⟨_, H⟩
    ·
     by_cases c6 : x3_1.length < 5864062014805
     ·
      rw [if_pos c6] at H
      have LMc6 := am c6
      clear c6
      obtain ⟨y230, hy230⟩ : ∃ y_ : List (S61), y_ = (x3_1 ++ [(⟨(rd_T62 l0_8 x4_1).f0, (rd_T62 l0_8 x4_1).f1⟩ : S61)]) := ⟨_, rfl⟩
      replace H : (stowagelaw16_Ref.l0 k1 y230 (wrap64 (x4_1 + 1)) a0_0 a0_1 a0_2 a0_3 a0_4 a0_5 a0_6 l0_7 l0_8) = some (r1, r2, r3, r4, r5, r6, r7, r8, r9) := by first | (rw [hy230]; with_reducible exact H) | (have H2_ := (Option.bind_some _ _).symm.trans H; rw [hy230]; with_reducible exact H2_) | (have H2_ := (Option.bind_some _ _).symm.trans H; with_reducible exact H2_) | with_reducible exact H | (rw [hy230]; exact H) | exact H
      have Ny230 := am hy230
      clear hy230
      have H' := am H
      clear H
      have hnb7 := NB227_228.out
      have hnc7 := NB228_227.out
      obtain ⟨hcz8_0, hcz8_1, hcz8_2, hcz8_3, hcz8_4, hcz8_5, hcz8_6, hcz8_7, hcz8_8, hfz8_0, hfz8_1, hfz8_2, hfz8_3, hfz8_4, hfz8_5, hfz8_6, hfz8_7, hfz8_8⟩ := cz9 BK227.out
      have p229 := pz x4_1
      have q229 := pl x4_1 (l0_8.length : Int)
      obtain ⟨ad229, e229, hx229_0, hx229_1⟩ := at_T62 HR0_8.out x4_1 (of_eq_true p229) (of_eq_true q229)
      cases e229
      replace hx229_0 := bc HB.out hx229_0
      replace hx229_1 := bc HB.out hx229_1
      go_wp2_with (first | ((with_reducible refine gate_builtin (b := .append) (xs := #[.tmp 12, .tmp 18]) rfl ?_); at_builtin; refine Kd.R_append k61 (w0 := w) w.heap.size rfl (.tmp 12) (.tmp 18) 32 61 (.agg #[(.int .i64 0), (.string ⟨#[]⟩)]) 24 rfl Tryd.underlying32 info61 rfl (by decide) (by omega) u3 x3_1 (⟨(rd_T62 l0_8 x4_1).f0, (rd_T62 l0_8 x4_1).f1⟩ : S61) [.int .i64 ((rd_T62 l0_8 x4_1).f0), .string ((rd_T62 l0_8 x4_1).f1)] (fun _ => True) (fun _ => False) rfl rfl ?aP (fun _ hk => hk.elim) ?aF ?aO ?aB ?aS ?aL ?_; (case aP => exact k61_mkM _ _ _ (⟨(rd_T62 l0_8 x4_1).f0, (rd_T62 l0_8 x4_1).f1⟩ : S61)); (case aB => exact (bws HB.out)); (case aF => exact (fun _ _ => trivial)); (case aO => exact (kR HO_3.out)); (case aS => exact (below_size (bws HB.out))); (case aL => have := LMc6.out; omega); intro v231 w9 ho hb hg hat; rw [← Ny230.out] at ho; have n0_ := am (blk_grown (g := gb227) (o := .cells #[.int .i64 a0_0, .string a0_1, .string a0_2, .string a0_3, .int .i64 a0_4, .int .i64 a0_5, .string a0_6, .slice A0_7 l0_7.length c0_7, .slice (some ad229) l0_8.length c0_8] 25 (0, 0)) (bk BK227.out) hg (Kd.R_ne HO_3.out BK227.out (by decide))); have n1_ := am (blk_grown (g := gb228) (o := .cells #[.int .i64 0, .string (⟨#[]⟩ : ByteArray), .string (⟨#[]⟩ : ByteArray), .string (⟨#[]⟩ : ByteArray), .int .i64 0, .int .i64 0, .string (⟨#[]⟩ : ByteArray), .slice none 0 0, .slice none 0 0] 34 (0, 0)) (bk BK228.out) hg (Kd.R_ne HO_3.out BK228.out (by decide))); have n2_ := am (hb); have n3_ := am (ho); clear BK227; clear BK228; clear HB; clear HO_3; have BK227 := n0_; have BK228 := n1_; have HB := n2_; have HO232 := n3_; clear n0_ n1_ n2_ n3_; clear ho hb hg hat))
      go_roundg k1
      case measure => have := HK1.out; omega
      case rel => exact ⟨(y230), (wrap64 (x4_1 + 1)), rs, H', ⟨by have := HK1.out; omega⟩, ⟨kR HO232.out⟩, ⟨bk BK227.out⟩, ⟨bk BK228.out⟩, ⟨bws HB.out⟩⟩
     ·
      rw [if_neg c6] at H
      exact absurd H (by simp)
    ·
     exact absurd H (by simp)
   ·
    replace H := obE H
    obtain ⟨t233, A10, H⟩ := H
    simp only [Option.some.injEq, Prod.mk.injEq] at H
    obtain ⟨rfl, rfl, rfl, rfl, rfl, rfl, rfl, rfl, rfl⟩ := H
    have hnb11 := NB227_228.out
    have hnc11 := NB228_227.out
    obtain ⟨hcz12_0, hcz12_1, hcz12_2, hcz12_3, hcz12_4, hcz12_5, hcz12_6, hcz12_7, hcz12_8, hfz12_0, hfz12_1, hfz12_2, hfz12_3, hfz12_4, hfz12_5, hfz12_6, hfz12_7, hfz12_8⟩ := cz9 BK227.out
    try go_wp2
    replace HO_3 := am (Kd.R_drew HO_3.out)
    replace BK227 := am (blk_drew BK227.out)
    replace BK228 := am (blk_drew BK228.out)
    replace HB := am (below_drew1 HB.out)
    refine start_ (n := 20) (S := fun w' => w'.cell? ⟨gb227, 0, none⟩ = some (.int .i64 a0_0) ∧ w'.cell? ⟨gb227, 1, none⟩ = some (.string a0_1) ∧ w'.cell? ⟨gb227, 2, none⟩ = some (.string a0_2) ∧ w'.cell? ⟨gb227, 3, none⟩ = some (.string a0_3) ∧ w'.cell? ⟨gb227, 4, none⟩ = some (.int .i64 a0_4) ∧ w'.cell? ⟨gb227, 5, none⟩ = some (.int .i64 a0_5) ∧ w'.cell? ⟨gb227, 6, none⟩ = some (.string a0_6) ∧ w'.cell? ⟨gb227, 7, none⟩ = some (.slice A0_7 l0_7.length c0_7) ∧ w'.cell? ⟨gb227, 8, none⟩ = some (.slice A0_8 l0_8.length c0_8)) (ds := []) #[false, false, false, false, false, false, false, false, false, false, false, false, false, false, false, false, false, false, false, false] (by kernel_rfl) rfl rfl ⟨(blk_cell BK227.out 0).trans rfl, (blk_cell BK227.out 1).trans rfl, (blk_cell BK227.out 2).trans rfl, (blk_cell BK227.out 3).trans rfl, (blk_cell BK227.out 4).trans rfl, (blk_cell BK227.out 5).trans rfl, (blk_cell BK227.out 6).trans rfl, (blk_cell BK227.out 7).trans rfl, (blk_cell BK227.out 8).trans rfl⟩ (fun hHeld => ?_); refine with_tabW stowagelaw16_Ref.tab6 stowagelaw16_Ref.bits6 (fun HT_ HW_ => ?_)
    generalize wr.drew = w13 at HO_3 BK227 BK228 HB hHeld ⊢
    refine pu 0 (some 20) HT_.out ?_
    refine pu 2 (some 22) HT_.out ?_
    refine pu 4 (some 24) HT_.out ?_
    refine pu 6 (some 26) HT_.out ?_
    refine pu 8 (some 28) HT_.out ?_
    refine pu 10 (some 30) HT_.out ?_
    refine pu 12 (some 32) HT_.out ?_
    refine pu 14 (some 34) HT_.out ?_
    refine pu 17 (some 37) HT_.out ?_
    refine tk 1 (some 21) HT_.out HW_.out hHeld ?_
    refine tk 3 (some 23) HT_.out HW_.out hHeld ?_
    refine tk 5 (some 25) HT_.out HW_.out hHeld ?_
    refine tk 7 (some 27) HT_.out HW_.out hHeld ?_
    refine tk 9 (some 29) HT_.out HW_.out hHeld ?_
    refine tk 11 (some 31) HT_.out HW_.out hHeld ?_
    refine tk 13 (some 33) HT_.out HW_.out hHeld ?_
    refine tk 15 (some 35) HT_.out HW_.out hHeld ?_
    refine one_ (i := 16) (N := some 36) #[true, true, true, true, true, true, true, true, true, true, true, true, true, true, true, true, true, true, false, false] rfl rfl (one_of HT_.out (by kernel_rfl)) (by decide) (fun K hK => ?_)
    refine goes_ Tryd.func25 (by kernel_rfl) rfl #[.slice A0_7 l0_7.length c0_7] (by rfl) rfl rfl gl ?_
    with_reducible refine (stowagelaw13_Piece.calls k1 _ _ l0_7 t233 _ ?side1 ?side2 A10.out).mono ?_
    (case side1 => exact kC (Kd.C_below HR0_7.out HB.out))
    (case side2 => exact HC0_7.out)
    rintro e w14 ⟨v234, rfl, ho0, hb⟩
    refine ⟨_, rfl, ?_⟩
    replace HO_3 := am (Kd.R_below (kR HO_3.out) hb)
    have HO235 := am (Kd.R_lower ho0 (below_size (bws HB.out)))
    replace BK227 := bb BK227.out hb
    replace BK228 := bb BK228.out hb
    replace HB := am (below_step (bws HB.out) hb)
    (try clear hb)
    (try clear hb2)
    (try clear hk)
    (try clear hi)
    (try clear ho0)
    obtain ⟨Ao15, co15, eo15⟩ := Kd.R_slice HO_3.out
    (first | subst eo15 | (injection eo15 with f1_ f2_ f3_; have f4_ := f1_.symm; have f5_ := f3_.symm; clear f1_ f2_ f3_; subst f4_; subst f5_))
    obtain ⟨Ao16, co16, eo16⟩ := Kd.R_slice HO235.out
    (first | subst eo16 | (injection eo16 with f1_ f2_ f3_; have f4_ := f1_.symm; have f5_ := f3_.symm; clear f1_ f2_ f3_; subst f4_; subst f5_))
    refine hK.out _ _ ⟨(blk_cell BK227.out 0).trans rfl, (blk_cell BK227.out 1).trans rfl, (blk_cell BK227.out 2).trans rfl, (blk_cell BK227.out 3).trans rfl, (blk_cell BK227.out 4).trans rfl, (blk_cell BK227.out 5).trans rfl, (blk_cell BK227.out 6).trans rfl, (blk_cell BK227.out 7).trans rfl, (blk_cell BK227.out 8).trans rfl⟩ (fun hHeld => ?_)
    clear hK K
    refine norm_ (a' := ?_) ?_ ?_
    rotate_left
    ·
     show Act.put _ (some 36) _ = _
     simp only [Act.put, List.setIfInBounds_toArray, List.set_cons_zero, List.set_cons_succ, i64_w, i32_w]
     rfl
    refine pu 18 (some 38) HT_.out ?_
    refine one_ (i := 19) (N := none) #[true, true, true, true, true, true, true, true, true, true, true, true, true, true, true, true, true, true, true, true] rfl rfl (one_of HT_.out (by kernel_rfl)) (by decide) (fun K hK => ?_)
    have hs17 : w14.cell? ⟨gb228, 0, none⟩ = some (.int .i64 0) := (blk_cell BK228.out 0).trans rfl
    have hfs17 := blk_frozen BK228.out 0
    have hns17_0 := NB227_228.out
    have hms17_0 := NB228_227.out
    have hs18 : w14.cell? ⟨gb228, 1, none⟩ = some (.string (⟨#[]⟩ : ByteArray)) := (blk_cell BK228.out 1).trans rfl
    have hfs18 := blk_frozen BK228.out 1
    have hns18_0 := NB227_228.out
    have hms18_0 := NB228_227.out
    have hs19 : w14.cell? ⟨gb228, 2, none⟩ = some (.string (⟨#[]⟩ : ByteArray)) := (blk_cell BK228.out 2).trans rfl
    have hfs19 := blk_frozen BK228.out 2
    have hns19_0 := NB227_228.out
    have hms19_0 := NB228_227.out
    have hs20 : w14.cell? ⟨gb228, 3, none⟩ = some (.string (⟨#[]⟩ : ByteArray)) := (blk_cell BK228.out 3).trans rfl
    have hfs20 := blk_frozen BK228.out 3
    have hns20_0 := NB227_228.out
    have hms20_0 := NB228_227.out
    have hs21 : w14.cell? ⟨gb228, 4, none⟩ = some (.int .i64 0) := (blk_cell BK228.out 4).trans rfl
    have hfs21 := blk_frozen BK228.out 4
    have hns21_0 := NB227_228.out
    have hms21_0 := NB228_227.out
    have hs22 : w14.cell? ⟨gb228, 5, none⟩ = some (.int .i64 0) := (blk_cell BK228.out 5).trans rfl
    have hfs22 := blk_frozen BK228.out 5
    have hns22_0 := NB227_228.out
    have hms22_0 := NB228_227.out
    have hs23 : w14.cell? ⟨gb228, 6, none⟩ = some (.string (⟨#[]⟩ : ByteArray)) := (blk_cell BK228.out 6).trans rfl
    have hfs23 := blk_frozen BK228.out 6
    have hns23_0 := NB227_228.out
    have hms23_0 := NB228_227.out
    have hs24 : w14.cell? ⟨gb228, 7, none⟩ = some (.slice none 0 0) := (blk_cell BK228.out 7).trans rfl
    have hfs24 := blk_frozen BK228.out 7
    have hns24_0 := NB227_228.out
    have hms24_0 := NB228_227.out
    have hs25 : w14.cell? ⟨gb228, 8, none⟩ = some (.slice none 0 0) := (blk_cell BK228.out 8).trans rfl
    have hfs25 := blk_frozen BK228.out 8
    have hns25_0 := NB227_228.out
    have hms25_0 := NB228_227.out
    refine skip_ (w1 := ?_) (by rfl) rfl ?_ ?_
    rotate_left
    ·
     go_simp
     rfl
    refine hK.out _ _ ⟨((cell_far (p := ⟨gb228, _, none⟩) NB227_228.out _).trans (((cell_far (p := ⟨gb228, _, none⟩) NB227_228.out _).trans (((cell_far (p := ⟨gb228, _, none⟩) NB227_228.out _).trans (((cell_far (p := ⟨gb228, _, none⟩) NB227_228.out _).trans (((cell_far (p := ⟨gb228, _, none⟩) NB227_228.out _).trans (((cell_far (p := ⟨gb228, _, none⟩) NB227_228.out _).trans (((cell_far (p := ⟨gb228, _, none⟩) NB227_228.out _).trans (((cell_far (p := ⟨gb228, _, none⟩) NB227_228.out _).trans (((cell_far (p := ⟨gb228, _, none⟩) NB227_228.out _).trans (hHeld.1)))))))))))))))))), ((cell_far (p := ⟨gb228, _, none⟩) NB227_228.out _).trans (((cell_far (p := ⟨gb228, _, none⟩) NB227_228.out _).trans (((cell_far (p := ⟨gb228, _, none⟩) NB227_228.out _).trans (((cell_far (p := ⟨gb228, _, none⟩) NB227_228.out _).trans (((cell_far (p := ⟨gb228, _, none⟩) NB227_228.out _).trans (((cell_far (p := ⟨gb228, _, none⟩) NB227_228.out _).trans (((cell_far (p := ⟨gb228, _, none⟩) NB227_228.out _).trans (((cell_far (p := ⟨gb228, _, none⟩) NB227_228.out _).trans (((cell_far (p := ⟨gb228, _, none⟩) NB227_228.out _).trans (hHeld.2.1)))))))))))))))))), ((cell_far (p := ⟨gb228, _, none⟩) NB227_228.out _).trans (((cell_far (p := ⟨gb228, _, none⟩) NB227_228.out _).trans (((cell_far (p := ⟨gb228, _, none⟩) NB227_228.out _).trans (((cell_far (p := ⟨gb228, _, none⟩) NB227_228.out _).trans (((cell_far (p := ⟨gb228, _, none⟩) NB227_228.out _).trans (((cell_far (p := ⟨gb228, _, none⟩) NB227_228.out _).trans (((cell_far (p := ⟨gb228, _, none⟩) NB227_228.out _).trans (((cell_far (p := ⟨gb228, _, none⟩) NB227_228.out _).trans (((cell_far (p := ⟨gb228, _, none⟩) NB227_228.out _).trans (hHeld.2.2.1)))))))))))))))))), ((cell_far (p := ⟨gb228, _, none⟩) NB227_228.out _).trans (((cell_far (p := ⟨gb228, _, none⟩) NB227_228.out _).trans (((cell_far (p := ⟨gb228, _, none⟩) NB227_228.out _).trans (((cell_far (p := ⟨gb228, _, none⟩) NB227_228.out _).trans (((cell_far (p := ⟨gb228, _, none⟩) NB227_228.out _).trans (((cell_far (p := ⟨gb228, _, none⟩) NB227_228.out _).trans (((cell_far (p := ⟨gb228, _, none⟩) NB227_228.out _).trans (((cell_far (p := ⟨gb228, _, none⟩) NB227_228.out _).trans (((cell_far (p := ⟨gb228, _, none⟩) NB227_228.out _).trans (hHeld.2.2.2.1)))))))))))))))))), ((cell_far (p := ⟨gb228, _, none⟩) NB227_228.out _).trans (((cell_far (p := ⟨gb228, _, none⟩) NB227_228.out _).trans (((cell_far (p := ⟨gb228, _, none⟩) NB227_228.out _).trans (((cell_far (p := ⟨gb228, _, none⟩) NB227_228.out _).trans (((cell_far (p := ⟨gb228, _, none⟩) NB227_228.out _).trans (((cell_far (p := ⟨gb228, _, none⟩) NB227_228.out _).trans (((cell_far (p := ⟨gb228, _, none⟩) NB227_228.out _).trans (((cell_far (p := ⟨gb228, _, none⟩) NB227_228.out _).trans (((cell_far (p := ⟨gb228, _, none⟩) NB227_228.out _).trans (hHeld.2.2.2.2.1)))))))))))))))))), ((cell_far (p := ⟨gb228, _, none⟩) NB227_228.out _).trans (((cell_far (p := ⟨gb228, _, none⟩) NB227_228.out _).trans (((cell_far (p := ⟨gb228, _, none⟩) NB227_228.out _).trans (((cell_far (p := ⟨gb228, _, none⟩) NB227_228.out _).trans (((cell_far (p := ⟨gb228, _, none⟩) NB227_228.out _).trans (((cell_far (p := ⟨gb228, _, none⟩) NB227_228.out _).trans (((cell_far (p := ⟨gb228, _, none⟩) NB227_228.out _).trans (((cell_far (p := ⟨gb228, _, none⟩) NB227_228.out _).trans (((cell_far (p := ⟨gb228, _, none⟩) NB227_228.out _).trans (hHeld.2.2.2.2.2.1)))))))))))))))))), ((cell_far (p := ⟨gb228, _, none⟩) NB227_228.out _).trans (((cell_far (p := ⟨gb228, _, none⟩) NB227_228.out _).trans (((cell_far (p := ⟨gb228, _, none⟩) NB227_228.out _).trans (((cell_far (p := ⟨gb228, _, none⟩) NB227_228.out _).trans (((cell_far (p := ⟨gb228, _, none⟩) NB227_228.out _).trans (((cell_far (p := ⟨gb228, _, none⟩) NB227_228.out _).trans (((cell_far (p := ⟨gb228, _, none⟩) NB227_228.out _).trans (((cell_far (p := ⟨gb228, _, none⟩) NB227_228.out _).trans (((cell_far (p := ⟨gb228, _, none⟩) NB227_228.out _).trans (hHeld.2.2.2.2.2.2.1)))))))))))))))))), ((cell_far (p := ⟨gb228, _, none⟩) NB227_228.out _).trans (((cell_far (p := ⟨gb228, _, none⟩) NB227_228.out _).trans (((cell_far (p := ⟨gb228, _, none⟩) NB227_228.out _).trans (((cell_far (p := ⟨gb228, _, none⟩) NB227_228.out _).trans (((cell_far (p := ⟨gb228, _, none⟩) NB227_228.out _).trans (((cell_far (p := ⟨gb228, _, none⟩) NB227_228.out _).trans (((cell_far (p := ⟨gb228, _, none⟩) NB227_228.out _).trans (((cell_far (p := ⟨gb228, _, none⟩) NB227_228.out _).trans (((cell_far (p := ⟨gb228, _, none⟩) NB227_228.out _).trans (hHeld.2.2.2.2.2.2.2.1)))))))))))))))))), ((cell_far (p := ⟨gb228, _, none⟩) NB227_228.out _).trans (((cell_far (p := ⟨gb228, _, none⟩) NB227_228.out _).trans (((cell_far (p := ⟨gb228, _, none⟩) NB227_228.out _).trans (((cell_far (p := ⟨gb228, _, none⟩) NB227_228.out _).trans (((cell_far (p := ⟨gb228, _, none⟩) NB227_228.out _).trans (((cell_far (p := ⟨gb228, _, none⟩) NB227_228.out _).trans (((cell_far (p := ⟨gb228, _, none⟩) NB227_228.out _).trans (((cell_far (p := ⟨gb228, _, none⟩) NB227_228.out _).trans (((cell_far (p := ⟨gb228, _, none⟩) NB227_228.out _).trans (hHeld.2.2.2.2.2.2.2.2))))))))))))))))))⟩ (fun hHeld => ?_)
    clear hK K
    refine done_ (done_of HT_.out (by kernel_rfl)) ?_
    try go_wp2
    refine bodyPost_ret (results_cell_row rfl _ _ gb228 34 #[.int .i64 a0_0, .string a0_1, .string a0_2, .string a0_3, .int .i64 a0_4, .int .i64 a0_5, .string a0_6, .slice Ao16 t233.length co16, .slice Ao15 x3_1.length co15] (0, 0) _ rfl (bkp BK228.out) Tryd.underlying34 rfl (by kernel_rfl)) rfl ?_
    exact ⟨_, _, rf, by (with_reducible repeat (first | apply Kd.R_alloc | apply Kd.R_drewN | apply Kd.R_drew)); exact Kd.R_mono (Kd.R_far (p := ⟨gb228, 8, none⟩) (Kd.R_far (p := ⟨gb228, 7, none⟩) (Kd.R_far (p := ⟨gb228, 6, none⟩) (Kd.R_far (p := ⟨gb228, 5, none⟩) (Kd.R_far (p := ⟨gb228, 4, none⟩) (Kd.R_far (p := ⟨gb228, 3, none⟩) (Kd.R_far (p := ⟨gb228, 2, none⟩) (Kd.R_far (p := ⟨gb228, 1, none⟩) (Kd.R_far (p := ⟨gb228, 0, none⟩) (Kd.R_types HO235.out BK228.out (by decide)) (fun _ hk => hk.2) (.int .i64 a0_0)) (fun _ hk => hk.2) (.string a0_1)) (fun _ hk => hk.2) (.string a0_2)) (fun _ hk => hk.2) (.string a0_3)) (fun _ hk => hk.2) (.int .i64 a0_4)) (fun _ hk => hk.2) (.int .i64 a0_5)) (fun _ hk => hk.2) (.string a0_6)) (fun _ hk => hk.2) (.slice Ao16 t233.length co16)) (fun _ hk => hk.2) (.slice Ao15 x3_1.length co15)) (fun _ hk => trivial), by (with_reducible repeat (first | apply Kd.R_alloc | apply Kd.R_drewN | apply Kd.R_drew)); exact Kd.R_mono (Kd.R_far (p := ⟨gb228, 8, none⟩) (Kd.R_far (p := ⟨gb228, 7, none⟩) (Kd.R_far (p := ⟨gb228, 6, none⟩) (Kd.R_far (p := ⟨gb228, 5, none⟩) (Kd.R_far (p := ⟨gb228, 4, none⟩) (Kd.R_far (p := ⟨gb228, 3, none⟩) (Kd.R_far (p := ⟨gb228, 2, none⟩) (Kd.R_far (p := ⟨gb228, 1, none⟩) (Kd.R_far (p := ⟨gb228, 0, none⟩) (Kd.R_types HO_3.out BK228.out (by decide)) (fun _ hk => hk.2) (.int .i64 a0_0)) (fun _ hk => hk.2) (.string a0_1)) (fun _ hk => hk.2) (.string a0_2)) (fun _ hk => hk.2) (.string a0_3)) (fun _ hk => hk.2) (.int .i64 a0_4)) (fun _ hk => hk.2) (.int .i64 a0_5)) (fun _ hk => hk.2) (.string a0_6)) (fun _ hk => hk.2) (.slice Ao16 t233.length co16)) (fun _ hk => hk.2) (.slice Ao15 x3_1.length co15)) (fun _ hk => trivial), bws HB.out⟩
def digest_Hex.f (a0 : ByteArray) : Option ByteArray := Sha.hexF a0
theorem digest_Hex.calls (a0 : ByteArray) (r : ByteArray) (w : World) (h : digest_Hex.f a0 = some r) :
  Calls Tryd.prog 26 #[.string a0] w fun e w' => e = .returned (.string r) ∧ Below w.heap.size w w' := by
 unfold digest_Hex.f Sha.hexF at h
 split at h
 ·
  rename_i hc
  cases h
  exact Sha.Hex a0 hc w
 ·
  cases h
def digest_Tagged.f (a0 : Int) (l1 : List ByteArray) : Option ByteArray := Sha.tagF a0 l1
theorem digest_Tagged.calls (a0 : Int) (A1 : Option Addr) (c1 : Nat) (l1 : List ByteArray) (r : ByteArray) (w : World) (hr1 : Kd.C Kd.string w A1 l1.length l1) (hc1 : l1.length ≤ c1) (h : digest_Tagged.f a0 l1 = some r) (hG : GG w) :
  Calls Tryd.prog 27 #[.int .u8 a0, .slice A1 l1.length c1] w fun e w' => e = .returned (.string r) ∧ Below w.heap.size w w' := by
 unfold digest_Tagged.f Sha.tagF at h
 split at h
 ·
  rename_i hc
  cases h
  rw [Sha.Y_int a0 hc.1 hc.2.1]
  exact Sha.Tagged _ A1 c1 l1 w hr1 hc1 hc.2.2 hG.1
 ·
  cases h
def cmd_Digest.f (k : Nat) (a0_0 : Int) (a0_1 : ByteArray) (a0_2 : ByteArray) (a0_3 : ByteArray) (a0_4 : Int) (a0_5 : Int) (a0_6 : ByteArray) (l0_7 : List (S82)) (l0_8 : List (S62)) : Option (ByteArray × Int) := (cmd_Check.f k a0_0 a0_1 a0_2 a0_3 a0_4 a0_5 a0_6 l0_7 l0_8).bind fun t237 => (if t237 = 0 then ((cmd_told.f k a0_0 (⟨#[]⟩ : ByteArray) a0_2 a0_3 a0_4 a0_5 a0_6 l0_7 l0_8).bind fun t238 => ((digest_Tagged.f 67 (([t238] : List ByteArray))).bind fun t242 => ((digest_Hex.f t242).bind fun t243 => (some (t243, 0))))) else (some ((⟨#[]⟩ : ByteArray), 1)))
theorem cmd_Digest.mono : ∀ a0 a1 a2 a3 a4 a5 a6 a7 a8 k, LeO (cmd_Digest.f k a0 a1 a2 a3 a4 a5 a6 a7 a8) (cmd_Digest.f (k + 1) a0 a1 a2 a3 a4 a5 a6 a7 a8) := by
 intro a0 a1 a2 a3 a4 a5 a6 a7 a8 k
 unfold cmd_Digest.f
 repeat' (with_reducible first | exact cmd_Check.mono _ _ _ _ _ _ _ _ _ _ | exact cmd_told.mono _ _ _ _ _ _ _ _ _ _ | exact LeO.refl _ | exact LeO.none _ | refine LeO.ite ?_ ?_ | refine LeO.bind ?_ (fun _ => ?_))
set_option maxHeartbeats 8000000 in
set_option maxRecDepth 100000 in
theorem cmd_Digest.calls (k : Nat) (a0_0 : Int) (a0_1 : ByteArray) (a0_2 : ByteArray) (a0_3 : ByteArray) (a0_4 : Int) (a0_5 : Int) (a0_6 : ByteArray) (A0_7 : Option Addr) (c0_7 : Nat) (l0_7 : List (S82)) (A0_8 : Option Addr) (c0_8 : Nat) (l0_8 : List (S62)) (r1 : ByteArray) (r2 : Int) (w : World) (hr0_7 : Kd.C k82 w A0_7 l0_7.length l0_7) (hc0_7 : l0_7.length ≤ c0_7) (hr0_8 : Kd.C k62 w A0_8 l0_8.length l0_8) (hc0_8 : l0_8.length ≤ c0_8) (h : cmd_Digest.f k a0_0 a0_1 a0_2 a0_3 a0_4 a0_5 a0_6 l0_7 l0_8 = some (r1, r2)) (hG : GG w) :
  Calls Tryd.prog 11 #[.agg #[.int .i64 a0_0, .string a0_1, .string a0_2, .string a0_3, .int .i64 a0_4, .int .i64 a0_5, .string a0_6, .slice A0_7 l0_7.length c0_7, .slice A0_8 l0_8.length c0_8]] w fun e w' => e = .returned (.tuple #[.string r1, .int .i64 r2]) ∧ Below w.heap.size w w' := by
 have HG := am hG
 clear hG
 have hu25 := Tryd.underlying25
 have HR0_7 := am hr0_7
 have HC0_7 := am hc0_7
 clear hr0_7 hc0_7
 have HR0_8 := am hr0_8
 have HC0_8 := am hc0_8
 clear hr0_8 hc0_8
 have HB := am (Below.refl w.heap.size w)
 have H := h
 clear h
 unfold cmd_Digest.f at H
 replace H := obE H
 obtain ⟨t237, A2, H⟩ := H
 by_cases c3 : t237 = 0
 ·
  rw [if_pos c3] at H
  have c3b0 := beq_iff_eq.mpr c3
  have c3b1 := bne_eq_false_iff_eq.mpr c3
  clear c3
  replace H := obE H
  obtain ⟨t238, A4, H⟩ := H
  obtain ⟨y239, hy239⟩ : ∃ y_ : List ByteArray, y_ = (([t238] : List ByteArray)) := ⟨_, rfl⟩
  replace H : ((digest_Tagged.f 67 y239).bind fun t242 => ((digest_Hex.f t242).bind fun t243 => (some (t243, 0)))) = some (r1, r2) := by first | (rw [hy239]; with_reducible exact H) | (have H2_ := (Option.bind_some _ _).symm.trans H; rw [hy239]; with_reducible exact H2_) | (have H2_ := (Option.bind_some _ _).symm.trans H; with_reducible exact H2_) | with_reducible exact H | (rw [hy239]; exact H) | exact H
  have Ny239 := am hy239
  clear hy239
  replace H := obE H
  obtain ⟨t242, A5, H⟩ := H
  replace H := obE H
  obtain ⟨t243, A6, H⟩ := H
  simp only [Option.some.injEq, Prod.mk.injEq] at H
  obtain ⟨rfl, rfl⟩ := H
  go_enter Tryd.func11, Tryd.ntmps11
  go_wp2_with (first | ((with_reducible refine gate_dst (N := 1) rfl ?_); refine bx 1 #[.int .i64 a0_0, .string a0_1, .string a0_2, .string a0_3, .int .i64 a0_4, .int .i64 a0_5, .string a0_6, .slice A0_7 l0_7.length c0_7, .slice A0_8 l0_8.length c0_8] 25 ?_; intro gb236 hg w7 hbox hb; have BK236 := am (hbox); have GW236 := gsz hg HB.out; have GE236 := gsz hg HB.out; replace HB := am (below_step (bw HB.out) hb); clear hb hbox hg; obtain ⟨hcz8_0, hcz8_1, hcz8_2, hcz8_3, hcz8_4, hcz8_5, hcz8_6, hcz8_7, hcz8_8, hfz8_0, hfz8_1, hfz8_2, hfz8_3, hfz8_4, hfz8_5, hfz8_6, hfz8_7, hfz8_8⟩ := cz9 BK236.out) | ((with_reducible refine gate_callee (f := 14) rfl ?_); refine goesL_ (some 5) rfl rfl Tryd.func14 (by kernel_rfl) rfl #[.agg #[.int .i64 a0_0, .string a0_1, .string a0_2, .string a0_3, .int .i64 a0_4, .int .i64 a0_5, .string a0_6, .slice A0_7 l0_7.length c0_7, .slice A0_8 l0_8.length c0_8]] rfl gl ?_; (with_reducible refine (cmd_Check.calls k a0_0 a0_1 a0_2 a0_3 a0_4 a0_5 a0_6 _ _ l0_7 _ _ l0_8 t237 _ ?side1 ?side2 ?side3 ?side4 A2.out ?sideG).mono ?_); (case sideG => first | exact HG.out | exact gg_below HG.out (bws HB.out)); (case side1 => exact kC (Kd.C_below HR0_7.out HB.out)); (case side2 => exact HC0_7.out); (case side3 => exact kC (Kd.C_below HR0_8.out HB.out)); (case side4 => exact HC0_8.out); rintro e w9 ⟨rfl, hb⟩; refine ⟨_, rfl, ?_⟩; replace BK236 := bb BK236.out hb; replace HB := am (below_step (bws HB.out) hb); (try clear hb); obtain ⟨hcz10_0, hcz10_1, hcz10_2, hcz10_3, hcz10_4, hcz10_5, hcz10_6, hcz10_7, hcz10_8, hfz10_0, hfz10_1, hfz10_2, hfz10_3, hfz10_4, hfz10_5, hfz10_6, hfz10_7, hfz10_8⟩ := cz9 BK236.out) | ((with_reducible refine gate_callee (f := 23) rfl ?_); refine goesL_ (some 9) rfl rfl Tryd.func23 (by kernel_rfl) rfl #[.agg #[.int .i64 a0_0, .string (⟨#[]⟩ : ByteArray), .string a0_2, .string a0_3, .int .i64 a0_4, .int .i64 a0_5, .string a0_6, .slice A0_7 l0_7.length c0_7, .slice A0_8 l0_8.length c0_8]] rfl gl ?_; (with_reducible refine (cmd_told.calls k a0_0 (⟨#[]⟩ : ByteArray) a0_2 a0_3 a0_4 a0_5 a0_6 _ _ l0_7 _ _ l0_8 t238 _ ?side1 ?side2 ?side3 ?side4 A4.out).mono ?_); (case side1 => exact Kd.C_below HR0_7.out (bws HB.out)); (case side2 => exact HC0_7.out); (case side3 => exact Kd.C_below HR0_8.out (bws HB.out)); (case side4 => exact HC0_8.out); rintro e w11 ⟨rfl, hb⟩; refine ⟨_, rfl, ?_⟩; replace BK236 := am (blk_below (g := gb236) (o := .cells #[.int .i64 a0_0, .string (⟨#[]⟩ : ByteArray), .string a0_2, .string a0_3, .int .i64 a0_4, .int .i64 a0_5, .string a0_6, .slice A0_7 l0_7.length c0_7, .slice A0_8 l0_8.length c0_8] 25 (0, 0)) (bkp BK236.out) hb); replace HB := am (below_step (bws HB.out) hb); (try clear hb)) | ((with_reducible refine gate_dst (N := 10) rfl ?_); refine Kd.R_lit Kd.string _ 9 ?hg (N := 10) ?hd (xs := ([t238] : List ByteArray)) (inner := [.string t238]) (ok := fun _ => True) (okp := fun _ => True) ?hr ?hp (fun _ hk => hk) trivial (Below.refl _ _) (Nat.le_refl _) (by simp) ?_; (case hd => rfl); (case hg => rfl); (case hr => first | (go_simp; done) | (go_simp; rfl)); (case hp => exact (Reps.one (show Kd.M Kd.string _ _ _ t238 [.string t238] from rfl) (Reps.none _ _))); intro v240 w12 ho13 hb hg_ hnew_; clear hg_ hnew_; (first | rw [← Ny239.out] at ho13 | (simp only [Int.reduceToNat] at ho13; rw [← Ny239.out] at ho13)); have HO241 := am (Kd.R_lower ho13 (below_size (bws HB.out))); replace BK236 := bb BK236.out hb; replace HB := am (below_step (bws HB.out) hb); clear hb ho13; obtain ⟨Ao14, co14, eo14⟩ := Kd.R_slice HO241.out; subst eo14) | ((with_reducible refine gate_callee (f := 27) rfl ?_); refine goesL_ (some 11) rfl rfl Tryd.func27 (by kernel_rfl) rfl #[.int .u8 67, .slice Ao14 y239.length co14] rfl gl ?_; (with_reducible refine (digest_Tagged.calls 67 _ _ y239 t242 _ ?side1 ?side2 A5.out ?sideG).mono ?_); (case sideG => first | exact HG.out | exact gg_below HG.out (bws HB.out)); (case side1 => repeat (first | exact (Kd.R_reads' HO241.out).2.2 | (with_reducible refine Kd.C_alloc ?_ _) | (with_reducible refine Kd.C_drewN ?_ _) | (with_reducible refine Kd.C_drew ?_))); (case side2 => exact (Kd.R_reads' HO241.out).2.1); rintro e w15 ⟨rfl, hb⟩; refine ⟨_, rfl, ?_⟩; replace HO241 := am (Kd.R_below (kR HO241.out) hb); replace BK236 := bb BK236.out hb; replace HB := am (below_step (bws HB.out) hb); (try clear hb)) | ((with_reducible refine gate_callee (f := 26) rfl ?_); refine goesL_ (some 12) rfl rfl Tryd.func26 (by kernel_rfl) rfl #[.string t242] rfl gl ?_; (with_reducible refine (digest_Hex.calls t242 t243 _ A6.out).mono ?_); rintro e w16 ⟨rfl, hb⟩; refine ⟨_, rfl, ?_⟩; replace HO241 := am (Kd.R_below (kR HO241.out) hb); replace BK236 := bb BK236.out hb; replace HB := am (below_step (bws HB.out) hb); (try clear hb)))
  go_ret2
  exact ⟨rf, bws HB.out⟩
 ·
  rw [if_neg c3] at H
  have c3b0 := beq_eq_false_iff_ne.mpr c3
  have c3b1 := bne_iff_ne.mpr c3
  simp only [Option.some.injEq, Prod.mk.injEq] at H
  obtain ⟨rfl, rfl⟩ := H
  go_enter Tryd.func11, Tryd.ntmps11
  go_wp2_with (first | ((with_reducible refine gate_dst (N := 1) rfl ?_); refine bx 1 #[.int .i64 a0_0, .string a0_1, .string a0_2, .string a0_3, .int .i64 a0_4, .int .i64 a0_5, .string a0_6, .slice A0_7 l0_7.length c0_7, .slice A0_8 l0_8.length c0_8] 25 ?_; intro gb236 hg w17 hbox hb; have BK236 := am (hbox); have GW236 := gsz hg HB.out; have GE236 := gsz hg HB.out; replace HB := am (below_step (bw HB.out) hb); clear hb hbox hg; obtain ⟨hcz18_0, hcz18_1, hcz18_2, hcz18_3, hcz18_4, hcz18_5, hcz18_6, hcz18_7, hcz18_8, hfz18_0, hfz18_1, hfz18_2, hfz18_3, hfz18_4, hfz18_5, hfz18_6, hfz18_7, hfz18_8⟩ := cz9 BK236.out) | ((with_reducible refine gate_callee (f := 14) rfl ?_); refine goesL_ (some 5) rfl rfl Tryd.func14 (by kernel_rfl) rfl #[.agg #[.int .i64 a0_0, .string a0_1, .string a0_2, .string a0_3, .int .i64 a0_4, .int .i64 a0_5, .string a0_6, .slice A0_7 l0_7.length c0_7, .slice A0_8 l0_8.length c0_8]] rfl gl ?_; (with_reducible refine (cmd_Check.calls k a0_0 a0_1 a0_2 a0_3 a0_4 a0_5 a0_6 _ _ l0_7 _ _ l0_8 t237 _ ?side1 ?side2 ?side3 ?side4 A2.out ?sideG).mono ?_); (case sideG => first | exact HG.out | exact gg_below HG.out (bws HB.out)); (case side1 => exact kC (Kd.C_below HR0_7.out HB.out)); (case side2 => exact HC0_7.out); (case side3 => exact kC (Kd.C_below HR0_8.out HB.out)); (case side4 => exact HC0_8.out); rintro e w19 ⟨rfl, hb⟩; refine ⟨_, rfl, ?_⟩; replace BK236 := bb BK236.out hb; replace HB := am (below_step (bws HB.out) hb); (try clear hb)))
  go_ret2
  exact ⟨rf, bws HB.out⟩
mutual
def stowageref03_Hex.l0 : Nat → ByteArray → List Int → Int → Option (ByteArray)
 | 0, _, _, _ => none
 | k + 1, x0, x3, x4 => if x4 < (x0.size : Int) then (if 0 ≤ x4 then ((some (([(Int.tdiv (bt x0 x4) 16) % 256, Int.tmod (bt x0 x4) 16] : List Int) : List Int)).bind fun y244 => (stowageref03_Hex.l1 k x0 x3 x4 y244 (y244.length : Int) 0)) else (none)) else (some (strOfNums x3))
def stowageref03_Hex.l1 : Nat → ByteArray → List Int → Int → List Int → Int → Int → Option (ByteArray)
 | 0, _, _, _, _, _, _ => none
 | k + 1, x0, x3, x4, x21, x22, x23 => if x23 < x22 then (if 0 ≤ x23 then (if x23 < (x21.length : Int) then (if (rd x21 x23) < 10 then (if x3.length < 140737488355328 then (stowageref03_Hex.l1 k x0 (x3 ++ [(48 + (rd x21 x23)) % 256]) x4 x21 x22 (wrap64 (x23 + 1))) else (none)) else (if x3.length < 140737488355328 then (stowageref03_Hex.l1 k x0 (x3 ++ [(87 + (rd x21 x23)) % 256]) x4 x21 x22 (wrap64 (x23 + 1))) else (none))) else (none)) else (none)) else (stowageref03_Hex.l0 k x0 x3 (wrap64 (x4 + 1)))
end
def stowageref03_Hex.f (k : Nat) (a0 : ByteArray) : Option (ByteArray) := stowageref03_Hex.l0 k a0 ([] : List Int) 0
theorem stowageref03_Hex.mono_l : ∀ k, (∀ y0 y1 y2, LeO (stowageref03_Hex.l0 k y0 y1 y2) (stowageref03_Hex.l0 (k + 1) y0 y1 y2)) ∧ (∀ y0 y1 y2 y3 y4 y5, LeO (stowageref03_Hex.l1 k y0 y1 y2 y3 y4 y5) (stowageref03_Hex.l1 (k + 1) y0 y1 y2 y3 y4 y5))
 | 0 => ⟨fun _ _ _ r h => by simp [stowageref03_Hex.l0] at h, fun _ _ _ _ _ _ r h => by simp [stowageref03_Hex.l1] at h⟩
 | k + 1 => by
  obtain ⟨ih0, ih1⟩ := stowageref03_Hex.mono_l k
  refine ⟨?_, ?_⟩
  all_goals intros
  all_goals first | unfold stowageref03_Hex.l0 | unfold stowageref03_Hex.l1
  all_goals repeat' (with_reducible first | exact ih0 _ _ _ | exact ih1 _ _ _ _ _ _ | exact LeO.refl _ | exact LeO.none _ | refine LeO.ite ?_ ?_ | refine LeO.bind ?_ (fun _ => ?_))
theorem stowageref03_Hex.mono : ∀ a0 k, LeO (stowageref03_Hex.f k a0) (stowageref03_Hex.f (k + 1) a0) := by
 intro a0 k
 obtain ⟨ih0, ih1⟩ := stowageref03_Hex.mono_l k
 unfold stowageref03_Hex.f
 repeat' (with_reducible first | exact ih0 _ _ _ | exact ih1 _ _ _ _ _ _ | exact LeO.refl _ | exact LeO.none _ | refine LeO.ite ?_ ?_ | refine LeO.bind ?_ (fun _ => ?_))
def stowageref03_Hex.T5 : Bool × List (List Nat × List Nat) := (true, [([], []), ([], []), ([0, 1], [0, 1]), ([2], [2]), ([], []), ([], []), ([4, 5], [4, 5]), ([6], [6]), ([3, 7], [3, 7]), ([8], [8]), ([], [])])
def stowageref03_Hex.B5 : List Nat := [0, 0, 3, 7, 0, 0, 48, 112, 255, 511, 0]
theorem stowageref03_Hex.tab5 : rtab .any (opsOf Tryd.f28 5) = stowageref03_Hex.T5 := by kernel_rfl
theorem stowageref03_Hex.bits5 : waitsOk stowageref03_Hex.T5.2 stowageref03_Hex.B5 = true := by kernel_rfl
set_option maxHeartbeats 8000000 in
set_option maxRecDepth 100000 in
theorem stowageref03_Hex.calls (k : Nat) (a0 : ByteArray) (r : ByteArray) (w : World) (h : stowageref03_Hex.f k a0 = some r) :
  Calls Tryd.prog 28 #[.string a0] w fun e w' => e = .returned (.string r) ∧ Below w.heap.size w w' := by
 have HB := am (Below.refl w.heap.size w)
 have H := h
 clear h
 unfold stowageref03_Hex.f at H
 have H' := am H
 clear H
 go_enter Tryd.func28, Tryd.ntmps28
 go_wp2
 go_loopg [3, 4] k (fun kq v3 v4 w' => ∃ (x3_1 : List Int) (x4_1 : Int), v4 = .int .i64 x4_1 ∧ Aside0 (stowageref03_Hex.l0 kq a0 x3_1 x4_1 = some r) ∧ Aside0 (kq ≤ k) ∧ Aside0 (Kd.R (Kd.int .u8) 5 w' w.heap.size (fun _ => True) v3 x3_1) ∧ Aside0 (Below w.heap.size w w'))
 case atStart => exact ⟨(([] : List Int)), (0), rs, H', ⟨Nat.le_refl _⟩, ⟨niR⟩, ⟨bw HB.out⟩⟩
 case round =>
  clear H'
  obtain ⟨x3_1, x4_1, rfl, HA, HK1, HO_3, HB⟩ := hrel
  cases gk with
  | zero => exact absurd HA.out (by simp [stowageref03_Hex.l0])
  | succ k1 =>
   have H := HA.out
   clear HA
   simp only [stowageref03_Hex.l0] at H
   replace H := iteD H
   rcases H with ⟨c2b0, H⟩ | ⟨c2b0, H⟩
   ·
    replace H := iteD H
    rcases H with ⟨c3b0, H⟩ | ⟨_, H⟩
    ·
     obtain ⟨y244, hy244⟩ : ∃ y_ : List Int, y_ = (([(Int.tdiv (bt a0 x4_1) 16) % 256, Int.tmod (bt a0 x4_1) 16] : List Int)) := ⟨_, rfl⟩
     replace H : (stowageref03_Hex.l1 k1 a0 x3_1 x4_1 y244 (y244.length : Int) 0) = some r := by first | (rw [hy244]; with_reducible exact H) | (have H2_ := (Option.bind_some _ _).symm.trans H; rw [hy244]; with_reducible exact H2_) | (have H2_ := (Option.bind_some _ _).symm.trans H; with_reducible exact H2_) | with_reducible exact H | (rw [hy244]; exact H) | exact H
     have Ny244 := am hy244
     clear hy244
     have H' := am H
     clear H
     try go_wp2
     replace HO_3 := am (Kd.R_drew HO_3.out)
     replace HB := am (below_drew1 HB.out)
     have p4 := pz x4_1
     have q4 := pl x4_1 (a0.size : Int)
     have hx4 := bt_at a0 x4_1
     have p5 := pz x4_1
     have q5 := pl x4_1 (a0.size : Int)
     have hx5 := bt_at a0 x4_1
     refine start_ (n := 11) (S := fun w' => True) (ds := []) #[false, false, false, false, false, false, false, false, false, false, false] (by kernel_rfl) rfl rfl trivial (fun hHeld => ?_); refine with_tabW stowageref03_Hex.tab5 stowageref03_Hex.bits5 (fun HT_ HW_ => ?_)
     generalize wr.drew = w6 at HO_3 HB hHeld ⊢
     refine pu 0 (some 13) HT_.out ?_
     refine pu 1 (some 14) HT_.out ?_
     refine pu 4 (some 17) HT_.out ?_
     refine pu 5 (some 18) HT_.out ?_
     refine pu 10 (some 23) HT_.out ?_
     refine tk 2 (some 15) HT_.out HW_.out hHeld ?_
     refine pu 3 (some 16) HT_.out ?_
     refine tk 6 (some 19) HT_.out HW_.out hHeld ?_
     refine pu 7 (some 20) HT_.out ?_
     refine one_ (i := 8) (N := some 21) #[true, true, true, true, true, true, true, true, true, false, true] rfl rfl (one_of HT_.out (by kernel_rfl)) (by decide) (fun K hK => ?_)
     refine Kd.R_lit_step (Kd.int .u8) _ 5 ?hg (N := 21) ?hd (xs := ([(Int.tdiv (bt a0 x4_1) 16) % 256, Int.tmod (bt a0 x4_1) 16] : List Int)) (inner := [.int .u8 ((Int.tdiv (bt a0 x4_1) 16) % 256), .int .u8 (Int.tmod (bt a0 x4_1) 16)]) (ok := fun _ => True) (okp := fun _ => True) ?hr ?hp (fun _ hk => hk) trivial (Below.refl _ _) (Nat.le_refl _) (by simp) ?_; (case hd => rfl); (case hg => rfl); (case hr => first | (go_simp; done) | (go_simp; rfl)); (case hp => exact (Reps.one (show Kd.M (Kd.int .u8) _ _ _ ((Int.tdiv (bt a0 x4_1) 16) % 256) [.int .u8 ((Int.tdiv (bt a0 x4_1) 16) % 256)] from rfl) (Reps.one (show Kd.M (Kd.int .u8) _ _ _ (Int.tmod (bt a0 x4_1) 16) [.int .u8 (Int.tmod (bt a0 x4_1) 16)] from rfl) (Reps.none _ _))))
     intro v245 w7 ho8 hb hg_ hnew_
     clear hg_ hnew_
     (first | rw [← Ny244.out] at ho8 | (simp only [Int.reduceToNat] at ho8; rw [← Ny244.out] at ho8))
     have n0_ := am (Kd.R_elder' (kR HO_3.out) (Kd.R_base ho8) hb)
     have n1_ := am (Kd.R_lower (Kd.R_new' ho8 (Kd.R_lt (kR HO_3.out))) (below_size (bw HB.out)))
     have n2_ := am (below_step (bw HB.out) hb)
     clear HO_3
     clear HB
     have HO_3 := n0_
     have HO246 := n1_
     have HB := n2_
     clear n0_ n1_ n2_
     clear hb ho8
     obtain ⟨Ao9, co9, eo9⟩ := Kd.R_slice HO246.out
     (first | subst eo9 | (injection eo9 with f1_ f2_ f3_; have f4_ := f1_.symm; have f5_ := f3_.symm; clear f1_ f2_ f3_; subst f4_; subst f5_))
     refine hK.out _ _ trivial (fun hHeld => ?_)
     clear hK K
     refine norm_ (a' := ?_) ?_ ?_
     rotate_left
     ·
      show Act.put _ (some 21) _ = _
      simp only [Act.put, List.setIfInBounds_toArray, List.set_cons_zero, List.set_cons_succ, i64_w, i32_w]
      rfl
     refine pu 9 (some 22) HT_.out ?_
     refine done_ (done_of HT_.out (by kernel_rfl)) ?_
     try go_wp2
     go_loopg [3, 23] k1 (fun kq v3 v23 w' => ∃ (x3_2 : List Int) (x23_2 : Int), v23 = .int .i64 x23_2 ∧ Aside0 (stowageref03_Hex.l1 kq a0 x3_2 x4_1 y244 (y244.length : Int) x23_2 = some r) ∧ Aside0 (kq ≤ k1) ∧ Aside0 (Kd.R (Kd.int .u8) 5 w' w.heap.size (fun k_ => some k_ ≠ ((.slice Ao9 y244.length co9) : Value).ownBlock) v3 x3_2) ∧ Aside0 (Kd.R (Kd.int .u8) 5 w' w.heap.size (fun k_ => some k_ ≠ (v3 : Value).ownBlock) (.slice Ao9 y244.length co9) y244) ∧ Aside0 (Below w.heap.size w w'))
     case atStart => exact ⟨(x3_1), (0), rs, H', ⟨Nat.le_refl _⟩, ⟨by (with_reducible repeat (first | apply Kd.R_alloc | apply Kd.R_drewN | apply Kd.R_drew)); exact Kd.R_mono HO_3.out (fun _ hk => hk.2)⟩, ⟨by (with_reducible repeat (first | apply Kd.R_alloc | apply Kd.R_drewN | apply Kd.R_drew)); exact Kd.R_mono HO246.out (fun _ hk => hk.2)⟩, ⟨bw HB.out⟩⟩
     case round =>
      clear H'
      try clear c2b0
      try clear c3b0
      try clear p4
      try clear q4
      try clear hx4
      try clear p5
      try clear q5
      try clear hx5
      obtain ⟨x3_2, x23_2, rfl, HA, HK2, HO_3, HO_21, HB⟩ := hrel
      cases gk with
      | zero => exact absurd HA.out (by simp [stowageref03_Hex.l1])
      | succ k2 =>
       have H := HA.out
       clear HA
       simp only [stowageref03_Hex.l1] at H
       replace H := iteD H
       rcases H with ⟨c10b0, H⟩ | ⟨c10b0, H⟩
       ·
        replace H := iteD H
        rcases H with ⟨c11b0, H⟩ | ⟨_, H⟩
        ·
         replace H := iteD H
         rcases H with ⟨c12b0, H⟩ | ⟨_, H⟩
         ·
          replace H := iteD H
          rcases H with ⟨c13b0, H⟩ | ⟨c13b0, H⟩
          ·
           by_cases c14 : x3_2.length < 140737488355328
           ·
            rw [if_pos c14] at H
            have LMc14 := am c14
            clear c14
            obtain ⟨y248, hy248⟩ : ∃ y_ : List Int, y_ = (x3_2 ++ [(48 + (rd y244 x23_2)) % 256]) := ⟨_, rfl⟩
            replace H : (stowageref03_Hex.l1 k2 a0 y248 x4_1 y244 (y244.length : Int) (wrap64 (x23_2 + 1))) = some r := by first | (rw [hy248]; with_reducible exact H) | (have H2_ := (Option.bind_some _ _).symm.trans H; rw [hy248]; with_reducible exact H2_) | (have H2_ := (Option.bind_some _ _).symm.trans H; with_reducible exact H2_) | with_reducible exact H | (rw [hy248]; exact H) | exact H
            have Ny248 := am hy248
            clear hy248
            have H' := am H
            clear H
            have p247 := pz x23_2
            have q247 := pl x23_2 (y244.length : Int)
            obtain ⟨ad247, e247, hx247_0⟩ := Kd.at_int (Kd.R_reads' HO_21.out).2.2 x23_2 (of_eq_true p247) (of_eq_true q247)
            cases e247
            go_wp2_with (first | ((with_reducible refine gate_builtin (b := .append) (xs := #[.tmp 29, .tmp 32]) rfl ?_); at_builtin; refine Kd.R_append (Kd.int .u8) (w0 := w) w.heap.size rfl (.tmp 29) (.tmp 32) 101 5 (.int .u8 0) 1 rfl Tryd.underlying101 info5 rfl (by decide) (by omega) u3 x3_2 ((48 + (rd y244 x23_2)) % 256) [.int .u8 ((48 + (rd y244 x23_2)) % 256)] (fun k_ => some k_ ≠ (.slice (some ad247) y244.length co9 : Value).ownBlock) (fun _ => False) rfl rfl ?aP (fun _ hk => hk.elim) ?aF ?aO ?aB ?aS ?aL ?_; (case aP => exact rfl); (case aB => exact (bw HB.out)); (case aF => exact (fun k_ hk => Kd.fresh' (Kd.R_lt (kR HO_21.out)) k_ hk)); (case aO => exact (kR HO_3.out)); (case aS => exact (below_size (bw HB.out))); (case aL => have := LMc14.out; omega); intro v249 w15 ho hb hg hat; rw [← Ny248.out] at ho; have n0_ := am (Kd.R_after (ok := (fun _ => True)) (by (with_reducible repeat (first | apply Kd.R_alloc | apply Kd.R_drewN | apply Kd.R_drew)); exact Kd.R_mono HO_21.out (fun _ hk => ⟨trivial, hk⟩)) hg hat); have n1_ := am (hb); have n2_ := am (ho); clear HO_21; clear HB; clear HO_3; have HO_21 := n0_; have HB := n1_; have HO250 := n2_; clear n0_ n1_ n2_; clear ho hb hg hat))
            go_roundg k2
            case measure => have := HK1.out; have := HK2.out; omega
            case rel => exact ⟨(y248), (wrap64 (x23_2 + 1)), rs, H', ⟨by have := HK1.out; have := HK2.out; omega⟩, ⟨kR HO250.out⟩, ⟨by (with_reducible repeat (first | apply Kd.R_alloc | apply Kd.R_drewN | apply Kd.R_drew)); exact Kd.R_mono HO_21.out (fun _ hk => hk.2)⟩, ⟨bw HB.out⟩⟩
           ·
            rw [if_neg c14] at H
            exact absurd H (by simp)
          ·
           by_cases c16 : x3_2.length < 140737488355328
           ·
            rw [if_pos c16] at H
            have LMc16 := am c16
            clear c16
            obtain ⟨y251, hy251⟩ : ∃ y_ : List Int, y_ = (x3_2 ++ [(87 + (rd y244 x23_2)) % 256]) := ⟨_, rfl⟩
            replace H : (stowageref03_Hex.l1 k2 a0 y251 x4_1 y244 (y244.length : Int) (wrap64 (x23_2 + 1))) = some r := by first | (rw [hy251]; with_reducible exact H) | (have H2_ := (Option.bind_some _ _).symm.trans H; rw [hy251]; with_reducible exact H2_) | (have H2_ := (Option.bind_some _ _).symm.trans H; with_reducible exact H2_) | with_reducible exact H | (rw [hy251]; exact H) | exact H
            have Ny251 := am hy251
            clear hy251
            have H' := am H
            clear H
            have p247 := pz x23_2
            have q247 := pl x23_2 (y244.length : Int)
            obtain ⟨ad247, e247, hx247_0⟩ := Kd.at_int (Kd.R_reads' HO_21.out).2.2 x23_2 (of_eq_true p247) (of_eq_true q247)
            cases e247
            go_wp2_with (first | ((with_reducible refine gate_builtin (b := .append) (xs := #[.tmp 34, .tmp 37]) rfl ?_); at_builtin; refine Kd.R_append (Kd.int .u8) (w0 := w) w.heap.size rfl (.tmp 34) (.tmp 37) 101 5 (.int .u8 0) 1 rfl Tryd.underlying101 info5 rfl (by decide) (by omega) u3 x3_2 ((87 + (rd y244 x23_2)) % 256) [.int .u8 ((87 + (rd y244 x23_2)) % 256)] (fun k_ => some k_ ≠ (.slice (some ad247) y244.length co9 : Value).ownBlock) (fun _ => False) rfl rfl ?aP (fun _ hk => hk.elim) ?aF ?aO ?aB ?aS ?aL ?_; (case aP => exact rfl); (case aB => exact (bw HB.out)); (case aF => exact (fun k_ hk => Kd.fresh' (Kd.R_lt (kR HO_21.out)) k_ hk)); (case aO => exact (kR HO_3.out)); (case aS => exact (below_size (bw HB.out))); (case aL => have := LMc16.out; omega); intro v252 w17 ho hb hg hat; rw [← Ny251.out] at ho; have n0_ := am (Kd.R_after (ok := (fun _ => True)) (by (with_reducible repeat (first | apply Kd.R_alloc | apply Kd.R_drewN | apply Kd.R_drew)); exact Kd.R_mono HO_21.out (fun _ hk => ⟨trivial, hk⟩)) hg hat); have n1_ := am (hb); have n2_ := am (ho); clear HO_21; clear HB; clear HO_3; have HO_21 := n0_; have HB := n1_; have HO253 := n2_; clear n0_ n1_ n2_; clear ho hb hg hat))
            go_roundg k2
            case measure => have := HK1.out; have := HK2.out; omega
            case rel => exact ⟨(y251), (wrap64 (x23_2 + 1)), rs, H', ⟨by have := HK1.out; have := HK2.out; omega⟩, ⟨kR HO253.out⟩, ⟨by (with_reducible repeat (first | apply Kd.R_alloc | apply Kd.R_drewN | apply Kd.R_drew)); exact Kd.R_mono HO_21.out (fun _ hk => hk.2)⟩, ⟨bw HB.out⟩⟩
           ·
            rw [if_neg c16] at H
            exact absurd H (by simp)
         ·
          exact absurd H (by simp)
        ·
         exact absurd H (by simp)
       ·
        have H' := am H
        clear H
        go_wp2
        go_roundg k2
        case measure => have := HK1.out; have := HK2.out; omega
        case rel => exact ⟨(x3_2), (wrap64 (x4_1 + 1)), rs, H', ⟨by have := HK1.out; have := HK2.out; omega⟩, ⟨by (with_reducible repeat (first | apply Kd.R_alloc | apply Kd.R_drewN | apply Kd.R_drew)); exact Kd.R_mono HO_3.out (fun _ hk => trivial)⟩, ⟨bw HB.out⟩⟩
    ·
     exact absurd H (by simp)
   ·
    obtain rfl := Option.some.inj H
    have hcv18 := own_string (P := Tryd.prog) Tryd.underlying101 Tryd.underlying5 Tryd.underlying9 (Kd.own_of_R HO_3.out)
    go_wp2
    go_ret
    exact ⟨rf, bw HB.out⟩
end Go.Proofs.YtdidopoalmkhlaaDoor.Ot
end
section
namespace Go.Proofs.YtdidopoalmkhlaaDoor.Ot
open Go.RowKit Go.Proofs.YtdidopoalmkhlaaDoorW.PrintWords Go.Proofs.YtdidopoalmkhlaaDoorW.PrintLast Go.Proofs.YtdidopoalmkhlaaDoorW.PrintMore
attribute [local go_sem] max2_int min2_int max_two min_two max_three min_three max_four min_four
set_option linter.unusedVariables false
set_option linter.unusedSimpArgs false
def stowageref03_Tagged.f (a0 : Int) (l1 : List ByteArray) : Option ByteArray := Sha.tagF a0 l1
theorem stowageref03_Tagged.calls (a0 : Int) (A1 : Option Addr) (c1 : Nat) (l1 : List ByteArray) (r : ByteArray) (w : World) (hr1 : Kd.C Kd.string w A1 l1.length l1) (hc1 : l1.length ≤ c1) (h : stowageref03_Tagged.f a0 l1 = some r) :
  Calls Tryd.prog 29 #[.int .u8 a0, .slice A1 l1.length c1] w fun e w' => e = .returned (.string r) ∧ Below w.heap.size w w' := by
 unfold stowageref03_Tagged.f Sha.tagF at h
 split at h
 ·
  rename_i hc
  cases h
  rw [Sha.Y_int a0 hc.1 hc.2.1]
  exact Sha.RTagged _ A1 c1 l1 w hr1 hc1 hc.2.2
 ·
  cases h
end Go.Proofs.YtdidopoalmkhlaaDoor.Ot
end
