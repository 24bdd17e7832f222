/- Merged of several texts of this session's by merge.py. -/
import Derived.Test.YtdidopoalmkhlaaDoorMb3
import Derived.Test.YtdidopoalmkhlaaDoorMb4
namespace Go.Proofs.YtdidopoalmkhlaaDoor.Ob
open Go.RowKit Go.Proofs.YtdidopoalmkhlaaDoorW.PrintWords Go.Proofs.YtdidopoalmkhlaaDoorW.PrintLast Go.Proofs.YtdidopoalmkhlaaDoorW.PrintMore
attribute [local go_sem] max2_int min2_int max_two min_two max_three min_three max_four min_four
set_option linter.unusedVariables false
set_option linter.unusedSimpArgs false
mutual
def cmd_Check.j0 : Nat → Int → Bool → Int → ByteArray → ByteArray → ByteArray → Int → Int → ByteArray → List (S82) → List (S62) → Option (Int)
 | 0, _, _, _, _, _, _, _, _, _, _, _ => none
 | k + 1, x3, x32, x120000, x120001, x120002, x120003, x120004, x120005, x120006, x120007, x120008 => if x32 = true then (some 1) else ((chain_Pieces.f k x120007).bind fun bt136 => (if (Go.bits .and .i64 x3 2) = 0 then (if (Go.bits .and .i64 x3 4) = 0 then (if (Go.bits .and .i64 x3 32) = 0 then (if bt136.2 = 0 then (cmd_Check.j1 k x3 (decide (bt136.1 > 1048576)) x120000 x120001 x120002 x120003 x120004 x120005 x120006 x120007 x120008) else (cmd_Check.j1 k x3 true x120000 x120001 x120002 x120003 x120004 x120005 x120006 x120007 x120008)) else ((cmd_digits.f x120006).bind fun t138 => (if t138 = true then (if bt136.2 = 0 then (cmd_Check.j1 k x3 (decide (bt136.1 > 1048576)) x120000 x120001 x120002 x120003 x120004 x120005 x120006 x120007 x120008) else (cmd_Check.j1 k x3 true x120000 x120001 x120002 x120003 x120004 x120005 x120006 x120007 x120008)) else (cmd_Check.j1 k x3 true x120000 x120001 x120002 x120003 x120004 x120005 x120006 x120007 x120008)))) else ((names_Key.f x120003).bind fun t139 => (if t139 = true then (if (Go.bits .and .i64 x3 32) = 0 then (if bt136.2 = 0 then (cmd_Check.j1 k x3 (decide (bt136.1 > 1048576)) x120000 x120001 x120002 x120003 x120004 x120005 x120006 x120007 x120008) else (cmd_Check.j1 k x3 true x120000 x120001 x120002 x120003 x120004 x120005 x120006 x120007 x120008)) else ((cmd_digits.f x120006).bind fun t140 => (if t140 = true then (if bt136.2 = 0 then (cmd_Check.j1 k x3 (decide (bt136.1 > 1048576)) x120000 x120001 x120002 x120003 x120004 x120005 x120006 x120007 x120008) else (cmd_Check.j1 k x3 true x120000 x120001 x120002 x120003 x120004 x120005 x120006 x120007 x120008)) else (cmd_Check.j1 k x3 true x120000 x120001 x120002 x120003 x120004 x120005 x120006 x120007 x120008)))) else (cmd_Check.j1 k x3 true x120000 x120001 x120002 x120003 x120004 x120005 x120006 x120007 x120008)))) else ((names_Bucket.f k x120002).bind fun t141 => (if t141 = true then (if (Go.bits .and .i64 x3 4) = 0 then (if (Go.bits .and .i64 x3 32) = 0 then (if bt136.2 = 0 then (cmd_Check.j1 k x3 (decide (bt136.1 > 1048576)) x120000 x120001 x120002 x120003 x120004 x120005 x120006 x120007 x120008) else (cmd_Check.j1 k x3 true x120000 x120001 x120002 x120003 x120004 x120005 x120006 x120007 x120008)) else ((cmd_digits.f x120006).bind fun t142 => (if t142 = true then (if bt136.2 = 0 then (cmd_Check.j1 k x3 (decide (bt136.1 > 1048576)) x120000 x120001 x120002 x120003 x120004 x120005 x120006 x120007 x120008) else (cmd_Check.j1 k x3 true x120000 x120001 x120002 x120003 x120004 x120005 x120006 x120007 x120008)) else (cmd_Check.j1 k x3 true x120000 x120001 x120002 x120003 x120004 x120005 x120006 x120007 x120008)))) else ((names_Key.f x120003).bind fun t143 => (if t143 = true then (if (Go.bits .and .i64 x3 32) = 0 then (if bt136.2 = 0 then (cmd_Check.j1 k x3 (decide (bt136.1 > 1048576)) x120000 x120001 x120002 x120003 x120004 x120005 x120006 x120007 x120008) else (cmd_Check.j1 k x3 true x120000 x120001 x120002 x120003 x120004 x120005 x120006 x120007 x120008)) else ((cmd_digits.f x120006).bind fun t144 => (if t144 = true then (if bt136.2 = 0 then (cmd_Check.j1 k x3 (decide (bt136.1 > 1048576)) x120000 x120001 x120002 x120003 x120004 x120005 x120006 x120007 x120008) else (cmd_Check.j1 k x3 true x120000 x120001 x120002 x120003 x120004 x120005 x120006 x120007 x120008)) else (cmd_Check.j1 k x3 true x120000 x120001 x120002 x120003 x120004 x120005 x120006 x120007 x120008)))) else (cmd_Check.j1 k x3 true x120000 x120001 x120002 x120003 x120004 x120005 x120006 x120007 x120008)))) else (cmd_Check.j1 k x3 true x120000 x120001 x120002 x120003 x120004 x120005 x120006 x120007 x120008)))))
def cmd_Check.j1 : Nat → Int → Bool → Int → ByteArray → ByteArray → ByteArray → Int → Int → ByteArray → List (S82) → List (S62) → Option (Int)
 | 0, _, _, _, _, _, _, _, _, _, _, _ => none
 | k + 1, x3, x6, x120000, x120001, x120002, x120003, x120004, x120005, x120006, x120007, x120008 => if x6 = true then (cmd_Check.j2 k true x120000 x120001 x120002 x120003 x120004 x120005 x120006 x120007 x120008) else (if x120004 < 0 then (cmd_Check.j2 k true x120000 x120001 x120002 x120003 x120004 x120005 x120006 x120007 x120008) else (if x120004 > 1099511627776 then (cmd_Check.j2 k true x120000 x120001 x120002 x120003 x120004 x120005 x120006 x120007 x120008) else (if (Go.bits .and .i64 x3 8) = 0 then (if x120005 < 0 then (cmd_Check.j2 k true x120000 x120001 x120002 x120003 x120004 x120005 x120006 x120007 x120008) else (if x120005 > 100 then (cmd_Check.j2 k true x120000 x120001 x120002 x120003 x120004 x120005 x120006 x120007 x120008) else (if (Go.bits .and .i64 x3 16) = 0 then (cmd_Check.j2 k (decide ((x120008.length : Int) > 100)) x120000 x120001 x120002 x120003 x120004 x120005 x120006 x120007 x120008) else (if x120005 = 0 then (cmd_Check.j2 k true x120000 x120001 x120002 x120003 x120004 x120005 x120006 x120007 x120008) else (cmd_Check.j2 k (decide ((x120008.length : Int) > 100)) x120000 x120001 x120002 x120003 x120004 x120005 x120006 x120007 x120008))))) else (if x120004 = 0 then (if x120000 = 10 then (if x120005 < 0 then (cmd_Check.j2 k true x120000 x120001 x120002 x120003 x120004 x120005 x120006 x120007 x120008) else (if x120005 > 100 then (cmd_Check.j2 k true x120000 x120001 x120002 x120003 x120004 x120005 x120006 x120007 x120008) else (if (Go.bits .and .i64 x3 16) = 0 then (cmd_Check.j2 k (decide ((x120008.length : Int) > 100)) x120000 x120001 x120002 x120003 x120004 x120005 x120006 x120007 x120008) else (if x120005 = 0 then (cmd_Check.j2 k true x120000 x120001 x120002 x120003 x120004 x120005 x120006 x120007 x120008) else (cmd_Check.j2 k (decide ((x120008.length : Int) > 100)) x120000 x120001 x120002 x120003 x120004 x120005 x120006 x120007 x120008))))) else (cmd_Check.j2 k true x120000 x120001 x120002 x120003 x120004 x120005 x120006 x120007 x120008)) else (if x120005 < 0 then (cmd_Check.j2 k true x120000 x120001 x120002 x120003 x120004 x120005 x120006 x120007 x120008) else (if x120005 > 100 then (cmd_Check.j2 k true x120000 x120001 x120002 x120003 x120004 x120005 x120006 x120007 x120008) else (if (Go.bits .and .i64 x3 16) = 0 then (cmd_Check.j2 k (decide ((x120008.length : Int) > 100)) x120000 x120001 x120002 x120003 x120004 x120005 x120006 x120007 x120008) else (if x120005 = 0 then (cmd_Check.j2 k true x120000 x120001 x120002 x120003 x120004 x120005 x120006 x120007 x120008) else (cmd_Check.j2 k (decide ((x120008.length : Int) > 100)) x120000 x120001 x120002 x120003 x120004 x120005 x120006 x120007 x120008)))))))))
def cmd_Check.j2 : Nat → Bool → Int → ByteArray → ByteArray → ByteArray → Int → Int → ByteArray → List (S82) → List (S62) → Option (Int)
 | 0, _, _, _, _, _, _, _, _, _, _ => none
 | k + 1, x6, x120000, x120001, x120002, x120003, x120004, x120005, x120006, x120007, x120008 => cmd_Check.l0 k x6 x120008 (x120008.length : Int) 0
def cmd_Check.l0 : Nat → Bool → List (S62) → Int → Int → Option (Int)
 | 0, _, _, _, _ => none
 | k + 1, x6, x131, x132, x133 => if x133 < x132 then (if 0 ≤ x133 then (if x133 < (x131.length : Int) then (if x6 = true then (cmd_Check.l0 k true x131 x132 (wrap64 (x133 + 1))) else (if ((rd_T62 x131 x133).f0) < 0 then (cmd_Check.l0 k true x131 x132 (wrap64 (x133 + 1))) else (if ((rd_T62 x131 x133).f0) > 100 then (cmd_Check.l0 k true x131 x132 (wrap64 (x133 + 1))) else ((cmd_digits.f ((rd_T62 x131 x133).f1)).bind fun t147 => (cmd_Check.l0 k (!t147) x131 x132 (wrap64 (x133 + 1))))))) else (none)) else (none)) else (if x6 = true then (some 1) else (some 0))
end
def cmd_Check.f (k : Nat) (a0_0 : Int) (a0_1 : ByteArray) (a0_2 : ByteArray) (a0_3 : ByteArray) (a0_4 : Int) (a0_5 : Int) (a0_6 : ByteArray) (l0_7 : List (S82)) (l0_8 : List (S62)) : Option (Int) := (cmd_fields.f k a0_0).bind fun t120 => (if t120 = 0 then (cmd_Check.j0 k t120 true a0_0 a0_1 a0_2 a0_3 a0_4 a0_5 a0_6 l0_7 l0_8) else ((cmd_cut.f a0_0 a0_1 a0_2 a0_3 a0_4 a0_5 a0_6 l0_7 l0_8 t120).bind fun bt121 => ((cmd_same.f k bt121.1 bt121.2.1 bt121.2.2.1 bt121.2.2.2.1 bt121.2.2.2.2.1 bt121.2.2.2.2.2.1 bt121.2.2.2.2.2.2.1 bt121.2.2.2.2.2.2.2.1 bt121.2.2.2.2.2.2.2.2 a0_0 a0_1 a0_2 a0_3 a0_4 a0_5 a0_6 l0_7 l0_8).bind fun t134 => (if t134 = true then (if a0_1.toList = ([] : List UInt8) then (cmd_Check.j0 k t120 false a0_0 a0_1 a0_2 a0_3 a0_4 a0_5 a0_6 l0_7 l0_8) else ((names_Token.f k a0_1).bind fun t135 => (cmd_Check.j0 k t120 (!t135) a0_0 a0_1 a0_2 a0_3 a0_4 a0_5 a0_6 l0_7 l0_8))) else (cmd_Check.j0 k t120 true a0_0 a0_1 a0_2 a0_3 a0_4 a0_5 a0_6 l0_7 l0_8)))))
theorem cmd_Check.mono_l : ∀ k, (∀ y0 y1 y2 y3 y4 y5 y6 y7 y8 y9 y10, LeO (cmd_Check.j0 k y0 y1 y2 y3 y4 y5 y6 y7 y8 y9 y10) (cmd_Check.j0 (k + 1) y0 y1 y2 y3 y4 y5 y6 y7 y8 y9 y10)) ∧ (∀ y0 y1 y2 y3 y4 y5 y6 y7 y8 y9 y10, LeO (cmd_Check.j1 k y0 y1 y2 y3 y4 y5 y6 y7 y8 y9 y10) (cmd_Check.j1 (k + 1) y0 y1 y2 y3 y4 y5 y6 y7 y8 y9 y10)) ∧ (∀ y0 y1 y2 y3 y4 y5 y6 y7 y8 y9, LeO (cmd_Check.j2 k y0 y1 y2 y3 y4 y5 y6 y7 y8 y9) (cmd_Check.j2 (k + 1) y0 y1 y2 y3 y4 y5 y6 y7 y8 y9)) ∧ (∀ y0 y1 y2 y3, LeO (cmd_Check.l0 k y0 y1 y2 y3) (cmd_Check.l0 (k + 1) y0 y1 y2 y3))
 | 0 => ⟨fun _ _ _ _ _ _ _ _ _ _ _ r h => by simp [cmd_Check.j0] at h, fun _ _ _ _ _ _ _ _ _ _ _ r h => by simp [cmd_Check.j1] at h, fun _ _ _ _ _ _ _ _ _ _ r h => by simp [cmd_Check.j2] at h, fun _ _ _ _ r h => by simp [cmd_Check.l0] at h⟩
 | k + 1 => by
  obtain ⟨ih0, ih1, ih2, ih3⟩ := cmd_Check.mono_l k
  refine ⟨?_, ?_, ?_, ?_⟩
  all_goals intros
  all_goals first | unfold cmd_Check.j0 | unfold cmd_Check.j1 | unfold cmd_Check.j2 | unfold cmd_Check.l0
  all_goals repeat' (with_reducible first | exact ih0 _ _ _ _ _ _ _ _ _ _ _ | exact ih1 _ _ _ _ _ _ _ _ _ _ _ | exact ih2 _ _ _ _ _ _ _ _ _ _ | exact ih3 _ _ _ _ | exact chain_Pieces.mono _ _ | exact cmd_fields.mono _ _ | exact cmd_same.mono _ _ _ _ _ _ _ _ _ _ _ _ _ _ _ _ _ _ _ | exact names_Bucket.mono _ _ | exact names_Token.mono _ _ | exact LeO.refl _ | exact LeO.none _ | refine LeO.ite ?_ ?_ | refine LeO.bind ?_ (fun _ => ?_))
theorem cmd_Check.mono : ∀ a0 a1 a2 a3 a4 a5 a6 a7 a8 k, LeO (cmd_Check.f k a0 a1 a2 a3 a4 a5 a6 a7 a8) (cmd_Check.f (k + 1) a0 a1 a2 a3 a4 a5 a6 a7 a8) := by
 intro a0 a1 a2 a3 a4 a5 a6 a7 a8 k
 obtain ⟨ih0, ih1, ih2, ih3⟩ := cmd_Check.mono_l k
 unfold cmd_Check.f
 repeat' (with_reducible first | exact ih0 _ _ _ _ _ _ _ _ _ _ _ | exact ih1 _ _ _ _ _ _ _ _ _ _ _ | exact ih2 _ _ _ _ _ _ _ _ _ _ | exact ih3 _ _ _ _ | exact chain_Pieces.mono _ _ | exact cmd_fields.mono _ _ | exact cmd_same.mono _ _ _ _ _ _ _ _ _ _ _ _ _ _ _ _ _ _ _ | exact names_Bucket.mono _ _ | exact names_Token.mono _ _ | exact LeO.refl _ | exact LeO.none _ | refine LeO.ite ?_ ?_ | refine LeO.bind ?_ (fun _ => ?_))
def cmd_Check.T2 : Bool × List (List Nat × List Nat) := (true, [([], []), ([0], [0]), ([1], [1]), ([2], [2]), ([2], [2]), ([3, 4, 2, 2], [2, 3, 4]), ([2], [2]), ([5, 6, 5, 2], [2, 5, 6]), ([7, 2], [2, 7]), ([2, 8], [2, 8]), ([9, 7], [9]), ([10], [10]), ([11, 10], [10, 11]), ([12, 10], [10, 12]), ([13, 10, 10], [10, 13]), ([14], [14]), ([15, 14], [14, 15]), ([16, 14, 14], [14, 16]), ([17, 14], [14, 17]), ([14, 18, 10], [10, 14, 18]), ([10, 19], [10, 19])])
def cmd_Check.B2 : List Nat := [0, 1, 3, 7, 7, 31, 7, 127, 255, 511, 1023, 2047, 4095, 8191, 16383, 32767, 65535, 131071, 262143, 524287, 1048575]
theorem cmd_Check.tab2 : rtab .any (opsOf Tryd.f14 2) = cmd_Check.T2 := by kernel_rfl
theorem cmd_Check.bits2 : waitsOk cmd_Check.T2.2 cmd_Check.B2 = true := by kernel_rfl
set_option maxHeartbeats 8000000 in
set_option maxRecDepth 100000 in
theorem cmd_Check.calls (k : Nat) (a0_0 : Int) (a0_1 : ByteArray) (a0_2 : ByteArray) (a0_3 : ByteArray) (a0_4 : Int) (a0_5 : Int) (a0_6 : ByteArray) (A0_7 : Option Addr) (c0_7 : Nat) (l0_7 : List (S82)) (A0_8 : Option Addr) (c0_8 : Nat) (l0_8 : List (S62)) (r : Int) (w : World) (hr0_7 : Kd.C k82 w A0_7 l0_7.length l0_7) (hc0_7 : l0_7.length ≤ c0_7) (hr0_8 : Kd.C k62 w A0_8 l0_8.length l0_8) (hc0_8 : l0_8.length ≤ c0_8) (h : cmd_Check.f k a0_0 a0_1 a0_2 a0_3 a0_4 a0_5 a0_6 l0_7 l0_8 = some r) (hG : GG w) :
  Calls Tryd.prog 14 #[.agg #[.int .i64 a0_0, .string a0_1, .string a0_2, .string a0_3, .int .i64 a0_4, .int .i64 a0_5, .string a0_6, .slice A0_7 l0_7.length c0_7, .slice A0_8 l0_8.length c0_8]] w fun e w' => e = .returned (.int .i64 r) ∧ Below w.heap.size w w' := by
 have HG := am hG
 clear hG
 have hu25 := Tryd.underlying25
 have hu62 := Tryd.underlying62
 have HR0_7 := am hr0_7
 have HC0_7 := am hc0_7
 clear hr0_7 hc0_7
 have HR0_8 := am hr0_8
 have HC0_8 := am hc0_8
 clear hr0_8 hc0_8
 have HB := am (Below.refl w.heap.size w)
 have H := h
 clear h
 unfold cmd_Check.f at H
 replace H := obE H
 obtain ⟨t120, A2, H⟩ := H
 have HC3 := am H
 clear H
 go_enter Tryd.func14, Tryd.ntmps14
 go_upto_region 2 with (first | ((with_reducible refine gate_dst (N := 1) rfl ?_); (try (refine gate_guard (by rfl) ?_; dsimp only)); refine bx 1 #[.int .i64 a0_0, .string a0_1, .string a0_2, .string a0_3, .int .i64 a0_4, .int .i64 a0_5, .string a0_6, .slice A0_7 l0_7.length c0_7, .slice A0_8 l0_8.length c0_8] 25 ?_; intro gb119 hg w4 hbox hb; have BK119 := am (hbox); have GW119 := gsz hg HB.out; have GE119 := gsz hg HB.out; replace HB := am (below_step (bw HB.out) hb); clear hb hbox hg; have hcz5_0 : w4.cell? ⟨gb119, 0, none⟩ = some (.int .i64 a0_0) := (blk_cell BK119.out 0).trans rfl; have hcz5_1 : w4.cell? ⟨gb119, 1, none⟩ = some (.string a0_1) := (blk_cell BK119.out 1).trans rfl; have hcz5_2 : w4.cell? ⟨gb119, 2, none⟩ = some (.string a0_2) := (blk_cell BK119.out 2).trans rfl; have hcz5_3 : w4.cell? ⟨gb119, 3, none⟩ = some (.string a0_3) := (blk_cell BK119.out 3).trans rfl; have hcz5_4 : w4.cell? ⟨gb119, 4, none⟩ = some (.int .i64 a0_4) := (blk_cell BK119.out 4).trans rfl; have hcz5_5 : w4.cell? ⟨gb119, 5, none⟩ = some (.int .i64 a0_5) := (blk_cell BK119.out 5).trans rfl; have hcz5_6 : w4.cell? ⟨gb119, 6, none⟩ = some (.string a0_6) := (blk_cell BK119.out 6).trans rfl; have hcz5_7 : w4.cell? ⟨gb119, 7, none⟩ = some (.slice A0_7 l0_7.length c0_7) := (blk_cell BK119.out 7).trans rfl; have hcz5_8 : w4.cell? ⟨gb119, 8, none⟩ = some (.slice A0_8 l0_8.length c0_8) := (blk_cell BK119.out 8).trans rfl; have hfz5_0 := blk_frozen BK119.out 0; have hfz5_1 := blk_frozen BK119.out 1; have hfz5_2 := blk_frozen BK119.out 2; have hfz5_3 := blk_frozen BK119.out 3; have hfz5_4 := blk_frozen BK119.out 4; have hfz5_5 := blk_frozen BK119.out 5; have hfz5_6 := blk_frozen BK119.out 6; have hfz5_7 := blk_frozen BK119.out 7; have hfz5_8 := blk_frozen BK119.out 8) | ((with_reducible refine gate_callee (f := 30) rfl ?_); refine goesL_ (some 11) rfl rfl Tryd.func30 (by kernel_rfl) rfl #[.int .i64 a0_0] rfl gl ?_; (with_reducible refine (cmd_fields.calls k a0_0 t120 _ A2.out).mono ?_); rintro e w' ⟨rfl, ⟨nd, rfl⟩⟩; refine ⟨_, rfl, ?_⟩; replace BK119 := am (blk_drewN BK119.out nd); replace HB := am (pw_below_drewN HB.out nd); generalize w4.drewN nd = w4 at BK119 HB ⊢))
 (try simp only [Act.put, List.setIfInBounds_toArray, List.set_cons_zero, List.set_cons_succ])
 go_cut [32] (fun v32 wc => ∃ (kq : Nat) (x32_2 : Bool), v32 = .bool x32_2 ∧ Aside0 (cmd_Check.j0 kq t120 x32_2 a0_0 a0_1 a0_2 a0_3 a0_4 a0_5 a0_6 l0_7 l0_8 = some r) ∧ Aside0 (kq ≤ k) ∧ Aside0 (wc.heap[gb119]? = some (.cells #[.int .i64 a0_0, .string a0_1, .string a0_2, .string a0_3, .int .i64 a0_4, .int .i64 a0_5, .string a0_6, (.slice A0_7 l0_7.length c0_7), (.slice A0_8 l0_8.length c0_8)] 25 (0, 0))) ∧ Aside0 (Below w.heap.size w wc))
 case first => as_aux_lemma =>
  have H := HC3.out
  clear HC3
  by_cases c6 : t120 = 0
  ·
   rw [if_pos c6] at H
   have c6b0 := beq_iff_eq.mpr c6
   have c6b1 := bne_eq_false_iff_eq.mpr c6
   clear c6
   (first | rw [c6b0] | (simp only [i64_w, i32_w]; rw [c6b0]) | skip)
   have H' := am H
   clear H
   try go_wp2
   replace BK119 := am (blk_drew BK119.out)
   replace HB := am (below_drew1 HB.out)
   refine start_ (n := 21) (S := fun w' => True) (ds := []) #[false, false, false, false, false, false, false, false, false, false, false, false, false, false, false, false, false, false, false, false, false] (by kernel_rfl) rfl rfl trivial (fun hHeld => ?_); refine with_tabW cmd_Check.tab2 cmd_Check.bits2 (fun HT_ HW_ => ?_)
   generalize w4.drew = w7 at BK119 HB hHeld ⊢
   refine pu 0 (some 12) HT_.out ?_
   refine pu 1 (some 13) HT_.out ?_
   refine pu 2 (some 14) HT_.out ?_
   refine un 3 (some 15) HT_.out ?_
   refine un 4 (some 16) HT_.out ?_
   refine un 5 (some 17) HT_.out ?_
   refine un 6 (some 18) HT_.out ?_
   refine un 7 (some 19) HT_.out ?_
   refine un 8 (some 20) HT_.out ?_
   refine pu 9 (some 21) HT_.out ?_
   refine pu 10 (some 22) HT_.out ?_
   refine un 11 (some 23) HT_.out ?_
   refine un 12 (some 24) HT_.out ?_
   refine un 13 (some 25) HT_.out ?_
   refine un 14 (some 26) HT_.out ?_
   refine un 15 (some 27) HT_.out ?_
   refine un 16 (some 28) HT_.out ?_
   refine un 17 (some 29) HT_.out ?_
   refine un 18 (some 30) HT_.out ?_
   refine un 19 (some 31) HT_.out ?_
   refine pu 20 (some 32) HT_.out ?_
   refine done_ (done_of HT_.out (by kernel_rfl)) ?_
   try go_wp2
   go_meet
   case rel => exact ⟨_, (true), rs, H', ⟨om⟩, ⟨bk BK119.out⟩, ⟨bws HB.out⟩⟩
  · as_aux_lemma =>
   rw [if_neg c6] at H
   have c6b0 := beq_eq_false_iff_ne.mpr c6
   have c6b1 := bne_iff_ne.mpr c6
   (first | rw [c6b0] | (simp only [i64_w, i32_w]; rw [c6b0]) | skip)
   replace H := obE H
   obtain ⟨⟨t121, t122, t123, t124, t125, t126, t127, t128, t131⟩, A8, H⟩ := H
   try dsimp only at H
   replace H := obE H
   obtain ⟨t134, A9, H⟩ := H
   by_cases c10 : t134 = true
   · as_aux_lemma =>
    subst c10
    rw [if_pos rfl] at H
    by_cases c11 : a0_1.toList = ([] : List UInt8)
    · as_aux_lemma =>
     rw [if_pos c11] at H
     have c11b0 := beq_iff_eq.mpr c11
     have c11b1 := bne_eq_false_iff_eq.mpr c11
     clear c11
     have H' := am H
     clear H
     try go_wp2
     replace BK119 := am (blk_drew BK119.out)
     replace HB := am (below_drew1 HB.out)
     refine start_ (n := 21) (S := fun w' => w'.cell? ⟨gb119, 0, none⟩ = some (.int .i64 a0_0) ∧ w'.cell? ⟨gb119, 1, none⟩ = some (.string a0_1) ∧ w'.cell? ⟨gb119, 2, none⟩ = some (.string a0_2) ∧ w'.cell? ⟨gb119, 3, none⟩ = some (.string a0_3) ∧ w'.cell? ⟨gb119, 4, none⟩ = some (.int .i64 a0_4) ∧ w'.cell? ⟨gb119, 5, none⟩ = some (.int .i64 a0_5) ∧ w'.cell? ⟨gb119, 6, none⟩ = some (.string a0_6) ∧ w'.cell? ⟨gb119, 7, none⟩ = some (.slice A0_7 l0_7.length c0_7) ∧ w'.cell? ⟨gb119, 8, none⟩ = some (.slice A0_8 l0_8.length c0_8)) (ds := []) #[false, false, false, false, false, false, false, false, false, false, false, false, false, false, false, false, false, false, false, false, false] (by kernel_rfl) rfl rfl ⟨(blk_cell BK119.out 0).trans rfl, (blk_cell BK119.out 1).trans rfl, (blk_cell BK119.out 2).trans rfl, (blk_cell BK119.out 3).trans rfl, (blk_cell BK119.out 4).trans rfl, (blk_cell BK119.out 5).trans rfl, (blk_cell BK119.out 6).trans rfl, (blk_cell BK119.out 7).trans rfl, (blk_cell BK119.out 8).trans rfl⟩ (fun hHeld => ?_); refine with_tabW cmd_Check.tab2 cmd_Check.bits2 (fun HT_ HW_ => ?_)
     generalize w4.drew = w12 at BK119 HB hHeld ⊢
     refine pu 0 (some 12) HT_.out ?_
     refine pu 1 (some 13) HT_.out ?_
     refine pu 2 (some 14) HT_.out ?_
     refine pu 4 (some 16) HT_.out ?_
     refine tk 3 (some 15) HT_.out HW_.out hHeld ?_
     refine tk 6 (some 18) HT_.out HW_.out hHeld ?_
     refine one_ (i := 5) (N := some 17) #[true, true, true, true, true, true, true, false, false, false, false, false, false, false, false, false, false, false, false, false, false] rfl rfl (one_of HT_.out (by kernel_rfl)) (by decide) (fun K hK => ?_)
     refine goes_ Tryd.func32 (by kernel_rfl) rfl #[.agg #[.int .i64 a0_0, .string a0_1, .string a0_2, .string a0_3, .int .i64 a0_4, .int .i64 a0_5, .string a0_6, .slice A0_7 l0_7.length c0_7, .slice A0_8 l0_8.length c0_8], .int .i64 t120] (by rfl) rfl rfl gl ?_
     with_reducible refine (cmd_cut.calls a0_0 a0_1 a0_2 a0_3 a0_4 a0_5 a0_6 _ _ l0_7 _ _ l0_8 t120 t121 t122 t123 t124 t125 t126 t127 t128 t131 _ ?side1 ?side2 ?side3 ?side4 A8.out).mono ?_
     (case side1 => exact kC (Kd.C_below HR0_7.out HB.out))
     (case side2 => exact HC0_7.out)
     (case side3 => exact kC (Kd.C_below HR0_8.out HB.out))
     (case side4 => exact HC0_8.out)
     rintro e w13 ⟨v129, v132, rfl, ho0, ho1, hb⟩
     refine ⟨_, rfl, ?_⟩
     have HO130 := am (Kd.R_lower ho0 (below_size (bws HB.out)))
     have HO133 := am (Kd.R_lower ho1 (below_size (bws HB.out)))
     replace BK119 := bb BK119.out hb
     replace HB := am (below_step (bws HB.out) hb)
     (try clear hb)
     (try clear hb2)
     (try clear hk)
     (try clear hi)
     (try clear ho0)
     (try clear ho1)
     obtain ⟨Ao14, co14, eo14⟩ := Kd.R_slice HO130.out
     (first | subst eo14 | (injection eo14 with f1_ f2_ f3_; have f4_ := f1_.symm; have f5_ := f3_.symm; clear f1_ f2_ f3_; subst f4_; subst f5_))
     obtain ⟨Ao15, co15, eo15⟩ := Kd.R_slice HO133.out
     (first | subst eo15 | (injection eo15 with f1_ f2_ f3_; have f4_ := f1_.symm; have f5_ := f3_.symm; clear f1_ f2_ f3_; subst f4_; subst f5_))
     refine hK.out _ _ ⟨(blk_cell BK119.out 0).trans rfl, (blk_cell BK119.out 1).trans rfl, (blk_cell BK119.out 2).trans rfl, (blk_cell BK119.out 3).trans rfl, (blk_cell BK119.out 4).trans rfl, (blk_cell BK119.out 5).trans rfl, (blk_cell BK119.out 6).trans rfl, (blk_cell BK119.out 7).trans rfl, (blk_cell BK119.out 8).trans rfl⟩ (fun hHeld => ?_)
     clear hK K
     refine norm_ (a' := ?_) ?_ ?_
     rotate_left
     ·
      show Act.put _ (some 17) _ = _
      simp only [Act.put, List.setIfInBounds_toArray, List.set_cons_zero, List.set_cons_succ, i64_w, i32_w]
      rfl
     refine one_ (i := 7) (N := some 19) #[true, true, true, true, true, true, true, true, false, false, false, false, false, false, false, false, false, false, false, false, false] rfl rfl (one_of HT_.out (by kernel_rfl)) (by decide) (fun K hK => ?_)
     refine goes_ Tryd.func31 (by kernel_rfl) rfl #[.agg #[.int .i64 t121, .string t122, .string t123, .string t124, .int .i64 t125, .int .i64 t126, .string t127, .slice Ao14 t128.length co14, .slice Ao15 t131.length co15], .agg #[.int .i64 a0_0, .string a0_1, .string a0_2, .string a0_3, .int .i64 a0_4, .int .i64 a0_5, .string a0_6, .slice A0_7 l0_7.length c0_7, .slice A0_8 l0_8.length c0_8]] (by rfl) rfl rfl gl ?_
     with_reducible refine (cmd_same.calls k t121 t122 t123 t124 t125 t126 t127 _ _ t128 _ _ t131 a0_0 a0_1 a0_2 a0_3 a0_4 a0_5 a0_6 _ _ l0_7 _ _ l0_8 true _ ?side1 ?side2 ?side3 ?side4 ?side5 ?side6 ?side7 ?side8 A9.out).mono ?_
     (case side1 => repeat (first | exact (Kd.R_reads' HO130.out).2.2 | (with_reducible refine Kd.C_alloc ?_ _) | (with_reducible refine Kd.C_drewN ?_ _) | (with_reducible refine Kd.C_drew ?_)))
     (case side2 => exact (Kd.R_reads' HO130.out).2.1)
     (case side3 => repeat (first | exact (Kd.R_reads' HO133.out).2.2 | (with_reducible refine Kd.C_alloc ?_ _) | (with_reducible refine Kd.C_drewN ?_ _) | (with_reducible refine Kd.C_drew ?_)))
     (case side4 => exact (Kd.R_reads' HO133.out).2.1)
     (case side5 => exact kC (Kd.C_below HR0_7.out HB.out))
     (case side6 => exact HC0_7.out)
     (case side7 => exact kC (Kd.C_below HR0_8.out HB.out))
     (case side8 => exact HC0_8.out)
     rintro e w16 ⟨rfl, hb⟩
     refine ⟨_, rfl, ?_⟩
     replace HO130 := am (Kd.R_below (kR HO130.out) hb)
     replace HO133 := am (Kd.R_below (kR HO133.out) hb)
     replace BK119 := bb BK119.out hb
     replace HB := am (below_step (bws HB.out) hb)
     (try clear hb)
     (try clear hb2)
     (try clear hk)
     (try clear hi)
     refine hK.out _ _ ⟨(blk_cell BK119.out 0).trans rfl, (blk_cell BK119.out 1).trans rfl, (blk_cell BK119.out 2).trans rfl, (blk_cell BK119.out 3).trans rfl, (blk_cell BK119.out 4).trans rfl, (blk_cell BK119.out 5).trans rfl, (blk_cell BK119.out 6).trans rfl, (blk_cell BK119.out 7).trans rfl, (blk_cell BK119.out 8).trans rfl⟩ (fun hHeld => ?_)
     clear hK K
     refine norm_ (a' := ?_) ?_ ?_
     rotate_left
     ·
      show Act.put _ (some 19) _ = _
      simp only [Act.put, List.setIfInBounds_toArray, List.set_cons_zero, List.set_cons_succ, i64_w, i32_w]
      rfl
     refine pu 8 (some 20) HT_.out ?_
     refine pu 9 (some 21) HT_.out ?_
     refine pu 10 (some 22) HT_.out ?_
     refine pu 11 (some 23) HT_.out ?_
     refine tk 12 (some 24) HT_.out HW_.out hHeld ?_
     refine pu 13 (some 25) HT_.out ?_
     refine pu 14 (some 26) HT_.out ?_
     refine un 15 (some 27) HT_.out ?_
     refine un 16 (some 28) HT_.out ?_
     refine un 17 (some 29) HT_.out ?_
     refine un 18 (some 30) HT_.out ?_
     refine pu 19 (some 31) HT_.out ?_
     refine pu 20 (some 32) HT_.out ?_
     refine done_ (done_of HT_.out (by kernel_rfl)) ?_
     try go_wp2
     go_meet
     case rel => exact ⟨_, (false), rs, H', ⟨om⟩, ⟨bk BK119.out⟩, ⟨bws HB.out⟩⟩
    · as_aux_lemma =>
     rw [if_neg c11] at H
     have c11b0 := beq_eq_false_iff_ne.mpr c11
     have c11b1 := bne_iff_ne.mpr c11
     replace H := obE H
     obtain ⟨t135, A17, H⟩ := H
     have H' := am H
     clear H
     try go_wp2
     replace BK119 := am (blk_drew BK119.out)
     replace HB := am (below_drew1 HB.out)
     refine start_ (n := 21) (S := fun w' => w'.cell? ⟨gb119, 0, none⟩ = some (.int .i64 a0_0) ∧ w'.cell? ⟨gb119, 1, none⟩ = some (.string a0_1) ∧ w'.cell? ⟨gb119, 2, none⟩ = some (.string a0_2) ∧ w'.cell? ⟨gb119, 3, none⟩ = some (.string a0_3) ∧ w'.cell? ⟨gb119, 4, none⟩ = some (.int .i64 a0_4) ∧ w'.cell? ⟨gb119, 5, none⟩ = some (.int .i64 a0_5) ∧ w'.cell? ⟨gb119, 6, none⟩ = some (.string a0_6) ∧ w'.cell? ⟨gb119, 7, none⟩ = some (.slice A0_7 l0_7.length c0_7) ∧ w'.cell? ⟨gb119, 8, none⟩ = some (.slice A0_8 l0_8.length c0_8)) (ds := []) #[false, false, false, false, false, false, false, false, false, false, false, false, false, false, false, false, false, false, false, false, false] (by kernel_rfl) rfl rfl ⟨(blk_cell BK119.out 0).trans rfl, (blk_cell BK119.out 1).trans rfl, (blk_cell BK119.out 2).trans rfl, (blk_cell BK119.out 3).trans rfl, (blk_cell BK119.out 4).trans rfl, (blk_cell BK119.out 5).trans rfl, (blk_cell BK119.out 6).trans rfl, (blk_cell BK119.out 7).trans rfl, (blk_cell BK119.out 8).trans rfl⟩ (fun hHeld => ?_); refine with_tabW cmd_Check.tab2 cmd_Check.bits2 (fun HT_ HW_ => ?_)
     generalize w4.drew = w18 at BK119 HB hHeld ⊢
     refine pu 0 (some 12) HT_.out ?_
     refine pu 1 (some 13) HT_.out ?_
     refine pu 2 (some 14) HT_.out ?_
     refine pu 4 (some 16) HT_.out ?_
     refine tk 3 (some 15) HT_.out HW_.out hHeld ?_
     refine tk 6 (some 18) HT_.out HW_.out hHeld ?_
     refine one_ (i := 5) (N := some 17) #[true, true, true, true, true, true, true, false, false, false, false, false, false, false, false, false, false, false, false, false, false] rfl rfl (one_of HT_.out (by kernel_rfl)) (by decide) (fun K hK => ?_)
     refine goes_ Tryd.func32 (by kernel_rfl) rfl #[.agg #[.int .i64 a0_0, .string a0_1, .string a0_2, .string a0_3, .int .i64 a0_4, .int .i64 a0_5, .string a0_6, .slice A0_7 l0_7.length c0_7, .slice A0_8 l0_8.length c0_8], .int .i64 t120] (by rfl) rfl rfl gl ?_
     with_reducible refine (cmd_cut.calls a0_0 a0_1 a0_2 a0_3 a0_4 a0_5 a0_6 _ _ l0_7 _ _ l0_8 t120 t121 t122 t123 t124 t125 t126 t127 t128 t131 _ ?side1 ?side2 ?side3 ?side4 A8.out).mono ?_
     (case side1 => exact kC (Kd.C_below HR0_7.out HB.out))
     (case side2 => exact HC0_7.out)
     (case side3 => exact kC (Kd.C_below HR0_8.out HB.out))
     (case side4 => exact HC0_8.out)
     rintro e w19 ⟨v129, v132, rfl, ho0, ho1, hb⟩
     refine ⟨_, rfl, ?_⟩
     have HO130 := am (Kd.R_lower ho0 (below_size (bws HB.out)))
     have HO133 := am (Kd.R_lower ho1 (below_size (bws HB.out)))
     replace BK119 := bb BK119.out hb
     replace HB := am (below_step (bws HB.out) hb)
     (try clear hb)
     (try clear hb2)
     (try clear hk)
     (try clear hi)
     (try clear ho0)
     (try clear ho1)
     obtain ⟨Ao20, co20, eo20⟩ := Kd.R_slice HO130.out
     (first | subst eo20 | (injection eo20 with f1_ f2_ f3_; have f4_ := f1_.symm; have f5_ := f3_.symm; clear f1_ f2_ f3_; subst f4_; subst f5_))
     obtain ⟨Ao21, co21, eo21⟩ := Kd.R_slice HO133.out
     (first | subst eo21 | (injection eo21 with f1_ f2_ f3_; have f4_ := f1_.symm; have f5_ := f3_.symm; clear f1_ f2_ f3_; subst f4_; subst f5_))
     refine hK.out _ _ ⟨(blk_cell BK119.out 0).trans rfl, (blk_cell BK119.out 1).trans rfl, (blk_cell BK119.out 2).trans rfl, (blk_cell BK119.out 3).trans rfl, (blk_cell BK119.out 4).trans rfl, (blk_cell BK119.out 5).trans rfl, (blk_cell BK119.out 6).trans rfl, (blk_cell BK119.out 7).trans rfl, (blk_cell BK119.out 8).trans rfl⟩ (fun hHeld => ?_)
     clear hK K
     refine norm_ (a' := ?_) ?_ ?_
     rotate_left
     ·
      show Act.put _ (some 17) _ = _
      simp only [Act.put, List.setIfInBounds_toArray, List.set_cons_zero, List.set_cons_succ, i64_w, i32_w]
      rfl
     refine one_ (i := 7) (N := some 19) #[true, true, true, true, true, true, true, true, false, false, false, false, false, false, false, false, false, false, false, false, false] rfl rfl (one_of HT_.out (by kernel_rfl)) (by decide) (fun K hK => ?_)
     refine goes_ Tryd.func31 (by kernel_rfl) rfl #[.agg #[.int .i64 t121, .string t122, .string t123, .string t124, .int .i64 t125, .int .i64 t126, .string t127, .slice Ao20 t128.length co20, .slice Ao21 t131.length co21], .agg #[.int .i64 a0_0, .string a0_1, .string a0_2, .string a0_3, .int .i64 a0_4, .int .i64 a0_5, .string a0_6, .slice A0_7 l0_7.length c0_7, .slice A0_8 l0_8.length c0_8]] (by rfl) rfl rfl gl ?_
     with_reducible refine (cmd_same.calls k t121 t122 t123 t124 t125 t126 t127 _ _ t128 _ _ t131 a0_0 a0_1 a0_2 a0_3 a0_4 a0_5 a0_6 _ _ l0_7 _ _ l0_8 true _ ?side1 ?side2 ?side3 ?side4 ?side5 ?side6 ?side7 ?side8 A9.out).mono ?_
     (case side1 => repeat (first | exact (Kd.R_reads' HO130.out).2.2 | (with_reducible refine Kd.C_alloc ?_ _) | (with_reducible refine Kd.C_drewN ?_ _) | (with_reducible refine Kd.C_drew ?_)))
     (case side2 => exact (Kd.R_reads' HO130.out).2.1)
     (case side3 => repeat (first | exact (Kd.R_reads' HO133.out).2.2 | (with_reducible refine Kd.C_alloc ?_ _) | (with_reducible refine Kd.C_drewN ?_ _) | (with_reducible refine Kd.C_drew ?_)))
     (case side4 => exact (Kd.R_reads' HO133.out).2.1)
     (case side5 => exact kC (Kd.C_below HR0_7.out HB.out))
     (case side6 => exact HC0_7.out)
     (case side7 => exact kC (Kd.C_below HR0_8.out HB.out))
     (case side8 => exact HC0_8.out)
     rintro e w22 ⟨rfl, hb⟩
     refine ⟨_, rfl, ?_⟩
     replace HO130 := am (Kd.R_below (kR HO130.out) hb)
     replace HO133 := am (Kd.R_below (kR HO133.out) hb)
     replace BK119 := bb BK119.out hb
     replace HB := am (below_step (bws HB.out) hb)
     (try clear hb)
     (try clear hb2)
     (try clear hk)
     (try clear hi)
     refine hK.out _ _ ⟨(blk_cell BK119.out 0).trans rfl, (blk_cell BK119.out 1).trans rfl, (blk_cell BK119.out 2).trans rfl, (blk_cell BK119.out 3).trans rfl, (blk_cell BK119.out 4).trans rfl, (blk_cell BK119.out 5).trans rfl, (blk_cell BK119.out 6).trans rfl, (blk_cell BK119.out 7).trans rfl, (blk_cell BK119.out 8).trans rfl⟩ (fun hHeld => ?_)
     clear hK K
     refine norm_ (a' := ?_) ?_ ?_
     rotate_left
     ·
      show Act.put _ (some 19) _ = _
      simp only [Act.put, List.setIfInBounds_toArray, List.set_cons_zero, List.set_cons_succ, i64_w, i32_w]
      rfl
     refine pu 8 (some 20) HT_.out ?_
     refine pu 9 (some 21) HT_.out ?_
     refine pu 10 (some 22) HT_.out ?_
     refine pu 11 (some 23) HT_.out ?_
     refine tk 12 (some 24) HT_.out HW_.out hHeld ?_
     refine pu 13 (some 25) HT_.out ?_
     refine pu 14 (some 26) HT_.out ?_
     refine pu 15 (some 27) HT_.out ?_
     refine tk 16 (some 28) HT_.out HW_.out hHeld ?_
     refine one_ (i := 17) (N := some 29) #[true, true, true, true, true, true, true, true, true, true, true, true, true, true, true, true, true, true, false, false, false] rfl rfl (one_of HT_.out (by kernel_rfl)) (by decide) (fun K hK => ?_)
     refine goes_ Tryd.func33 (by kernel_rfl) rfl #[.string a0_1] (by rfl) rfl rfl gl ?_
     with_reducible refine (names_Token.calls k a0_1 t135 _ A17.out).mono ?_
     rintro e w' ⟨rfl, ⟨nd, rfl⟩⟩
     refine ⟨_, rfl, ?_⟩
     refine hK.out _ _ ⟨(blk_cell BK119.out 0).trans rfl, (blk_cell BK119.out 1).trans rfl, (blk_cell BK119.out 2).trans rfl, (blk_cell BK119.out 3).trans rfl, (blk_cell BK119.out 4).trans rfl, (blk_cell BK119.out 5).trans rfl, (blk_cell BK119.out 6).trans rfl, (blk_cell BK119.out 7).trans rfl, (blk_cell BK119.out 8).trans rfl⟩ (fun hHeld => ?_)
     clear hK K
     refine norm_ (a' := ?_) ?_ ?_
     rotate_left
     ·
      show Act.put _ (some 29) _ = _
      simp only [Act.put, List.setIfInBounds_toArray, List.set_cons_zero, List.set_cons_succ, i64_w, i32_w]
      rfl
     refine pu 18 (some 30) HT_.out ?_
     refine pu 19 (some 31) HT_.out ?_
     refine pu 20 (some 32) HT_.out ?_
     refine done_ (done_of HT_.out (by kernel_rfl)) ?_
     try go_wp2
     go_meet
     case rel => exact ⟨_, (!t135), rs, H', ⟨om⟩, ⟨bk BK119.out⟩, ⟨bws HB.out⟩⟩
   · as_aux_lemma =>
    replace c10 := Bool.eq_false_iff.mpr c10
    subst c10
    rw [if_neg (show ¬ (false = true) by decide)] at H
    have H' := am H
    clear H
    try go_wp2
    replace BK119 := am (blk_drew BK119.out)
    replace HB := am (below_drew1 HB.out)
    refine start_ (n := 21) (S := fun w' => w'.cell? ⟨gb119, 0, none⟩ = some (.int .i64 a0_0) ∧ w'.cell? ⟨gb119, 1, none⟩ = some (.string a0_1) ∧ w'.cell? ⟨gb119, 2, none⟩ = some (.string a0_2) ∧ w'.cell? ⟨gb119, 3, none⟩ = some (.string a0_3) ∧ w'.cell? ⟨gb119, 4, none⟩ = some (.int .i64 a0_4) ∧ w'.cell? ⟨gb119, 5, none⟩ = some (.int .i64 a0_5) ∧ w'.cell? ⟨gb119, 6, none⟩ = some (.string a0_6) ∧ w'.cell? ⟨gb119, 7, none⟩ = some (.slice A0_7 l0_7.length c0_7) ∧ w'.cell? ⟨gb119, 8, none⟩ = some (.slice A0_8 l0_8.length c0_8)) (ds := []) #[false, false, false, false, false, false, false, false, false, false, false, false, false, false, false, false, false, false, false, false, false] (by kernel_rfl) rfl rfl ⟨(blk_cell BK119.out 0).trans rfl, (blk_cell BK119.out 1).trans rfl, (blk_cell BK119.out 2).trans rfl, (blk_cell BK119.out 3).trans rfl, (blk_cell BK119.out 4).trans rfl, (blk_cell BK119.out 5).trans rfl, (blk_cell BK119.out 6).trans rfl, (blk_cell BK119.out 7).trans rfl, (blk_cell BK119.out 8).trans rfl⟩ (fun hHeld => ?_); refine with_tabW cmd_Check.tab2 cmd_Check.bits2 (fun HT_ HW_ => ?_)
    generalize w4.drew = w23 at BK119 HB hHeld ⊢
    refine pu 0 (some 12) HT_.out ?_
    refine pu 1 (some 13) HT_.out ?_
    refine pu 2 (some 14) HT_.out ?_
    refine pu 4 (some 16) HT_.out ?_
    refine tk 3 (some 15) HT_.out HW_.out hHeld ?_
    refine tk 6 (some 18) HT_.out HW_.out hHeld ?_
    refine one_ (i := 5) (N := some 17) #[true, true, true, true, true, true, true, false, false, false, false, false, false, false, false, false, false, false, false, false, false] rfl rfl (one_of HT_.out (by kernel_rfl)) (by decide) (fun K hK => ?_)
    refine goes_ Tryd.func32 (by kernel_rfl) rfl #[.agg #[.int .i64 a0_0, .string a0_1, .string a0_2, .string a0_3, .int .i64 a0_4, .int .i64 a0_5, .string a0_6, .slice A0_7 l0_7.length c0_7, .slice A0_8 l0_8.length c0_8], .int .i64 t120] (by rfl) rfl rfl gl ?_
    with_reducible refine (cmd_cut.calls a0_0 a0_1 a0_2 a0_3 a0_4 a0_5 a0_6 _ _ l0_7 _ _ l0_8 t120 t121 t122 t123 t124 t125 t126 t127 t128 t131 _ ?side1 ?side2 ?side3 ?side4 A8.out).mono ?_
    (case side1 => exact kC (Kd.C_below HR0_7.out HB.out))
    (case side2 => exact HC0_7.out)
    (case side3 => exact kC (Kd.C_below HR0_8.out HB.out))
    (case side4 => exact HC0_8.out)
    rintro e w24 ⟨v129, v132, rfl, ho0, ho1, hb⟩
    refine ⟨_, rfl, ?_⟩
    have HO130 := am (Kd.R_lower ho0 (below_size (bws HB.out)))
    have HO133 := am (Kd.R_lower ho1 (below_size (bws HB.out)))
    replace BK119 := bb BK119.out hb
    replace HB := am (below_step (bws HB.out) hb)
    (try clear hb)
    (try clear hb2)
    (try clear hk)
    (try clear hi)
    (try clear ho0)
    (try clear ho1)
    obtain ⟨Ao25, co25, eo25⟩ := Kd.R_slice HO130.out
    (first | subst eo25 | (injection eo25 with f1_ f2_ f3_; have f4_ := f1_.symm; have f5_ := f3_.symm; clear f1_ f2_ f3_; subst f4_; subst f5_))
    obtain ⟨Ao26, co26, eo26⟩ := Kd.R_slice HO133.out
    (first | subst eo26 | (injection eo26 with f1_ f2_ f3_; have f4_ := f1_.symm; have f5_ := f3_.symm; clear f1_ f2_ f3_; subst f4_; subst f5_))
    refine hK.out _ _ ⟨(blk_cell BK119.out 0).trans rfl, (blk_cell BK119.out 1).trans rfl, (blk_cell BK119.out 2).trans rfl, (blk_cell BK119.out 3).trans rfl, (blk_cell BK119.out 4).trans rfl, (blk_cell BK119.out 5).trans rfl, (blk_cell BK119.out 6).trans rfl, (blk_cell BK119.out 7).trans rfl, (blk_cell BK119.out 8).trans rfl⟩ (fun hHeld => ?_)
    clear hK K
    refine norm_ (a' := ?_) ?_ ?_
    rotate_left
    ·
     show Act.put _ (some 17) _ = _
     simp only [Act.put, List.setIfInBounds_toArray, List.set_cons_zero, List.set_cons_succ, i64_w, i32_w]
     rfl
    refine one_ (i := 7) (N := some 19) #[true, true, true, true, true, true, true, true, false, false, false, false, false, false, false, false, false, false, false, false, false] rfl rfl (one_of HT_.out (by kernel_rfl)) (by decide) (fun K hK => ?_)
    refine goes_ Tryd.func31 (by kernel_rfl) rfl #[.agg #[.int .i64 t121, .string t122, .string t123, .string t124, .int .i64 t125, .int .i64 t126, .string t127, .slice Ao25 t128.length co25, .slice Ao26 t131.length co26], .agg #[.int .i64 a0_0, .string a0_1, .string a0_2, .string a0_3, .int .i64 a0_4, .int .i64 a0_5, .string a0_6, .slice A0_7 l0_7.length c0_7, .slice A0_8 l0_8.length c0_8]] (by rfl) rfl rfl gl ?_
    with_reducible refine (cmd_same.calls k t121 t122 t123 t124 t125 t126 t127 _ _ t128 _ _ t131 a0_0 a0_1 a0_2 a0_3 a0_4 a0_5 a0_6 _ _ l0_7 _ _ l0_8 false _ ?side1 ?side2 ?side3 ?side4 ?side5 ?side6 ?side7 ?side8 A9.out).mono ?_
    (case side1 => repeat (first | exact (Kd.R_reads' HO130.out).2.2 | (with_reducible refine Kd.C_alloc ?_ _) | (with_reducible refine Kd.C_drewN ?_ _) | (with_reducible refine Kd.C_drew ?_)))
    (case side2 => exact (Kd.R_reads' HO130.out).2.1)
    (case side3 => repeat (first | exact (Kd.R_reads' HO133.out).2.2 | (with_reducible refine Kd.C_alloc ?_ _) | (with_reducible refine Kd.C_drewN ?_ _) | (with_reducible refine Kd.C_drew ?_)))
    (case side4 => exact (Kd.R_reads' HO133.out).2.1)
    (case side5 => exact kC (Kd.C_below HR0_7.out HB.out))
    (case side6 => exact HC0_7.out)
    (case side7 => exact kC (Kd.C_below HR0_8.out HB.out))
    (case side8 => exact HC0_8.out)
    rintro e w27 ⟨rfl, hb⟩
    refine ⟨_, rfl, ?_⟩
    replace HO130 := am (Kd.R_below (kR HO130.out) hb)
    replace HO133 := am (Kd.R_below (kR HO133.out) hb)
    replace BK119 := bb BK119.out hb
    replace HB := am (below_step (bws HB.out) hb)
    (try clear hb)
    (try clear hb2)
    (try clear hk)
    (try clear hi)
    refine hK.out _ _ ⟨(blk_cell BK119.out 0).trans rfl, (blk_cell BK119.out 1).trans rfl, (blk_cell BK119.out 2).trans rfl, (blk_cell BK119.out 3).trans rfl, (blk_cell BK119.out 4).trans rfl, (blk_cell BK119.out 5).trans rfl, (blk_cell BK119.out 6).trans rfl, (blk_cell BK119.out 7).trans rfl, (blk_cell BK119.out 8).trans rfl⟩ (fun hHeld => ?_)
    clear hK K
    refine norm_ (a' := ?_) ?_ ?_
    rotate_left
    ·
     show Act.put _ (some 19) _ = _
     simp only [Act.put, List.setIfInBounds_toArray, List.set_cons_zero, List.set_cons_succ, i64_w, i32_w]
     rfl
    refine pu 8 (some 20) HT_.out ?_
    refine pu 9 (some 21) HT_.out ?_
    refine pu 10 (some 22) HT_.out ?_
    refine un 11 (some 23) HT_.out ?_
    refine un 12 (some 24) HT_.out ?_
    refine un 13 (some 25) HT_.out ?_
    refine un 14 (some 26) HT_.out ?_
    refine un 15 (some 27) HT_.out ?_
    refine un 16 (some 28) HT_.out ?_
    refine un 17 (some 29) HT_.out ?_
    refine un 18 (some 30) HT_.out ?_
    refine un 19 (some 31) HT_.out ?_
    refine pu 20 (some 32) HT_.out ?_
    refine done_ (done_of HT_.out (by kernel_rfl)) ?_
    try go_wp2
    go_meet
    case rel => exact ⟨_, (true), rs, H', ⟨om⟩, ⟨bk BK119.out⟩, ⟨bws HB.out⟩⟩
 case rest => as_aux_lemma =>
  clear HC3
  try clear c1
  try clear p2
  try clear c3
  try clear c10
  try clear c11
  try clear c11b0
  try clear c11b1
  obtain ⟨kq, x32_2, rfl, HA, HJ2, BK119, HB⟩ := hcut
  cases kq with
  | zero => exact absurd HA.out (by simp [cmd_Check.j0])
  | succ kj2 =>
   have H := HA.out
   clear HA
   simp only [cmd_Check.j0] at H
   by_cases c28 : x32_2 = true
   ·
    subst c28
    rw [if_pos rfl] at H
    obtain rfl := Option.some.inj H
    go_wp2
    go_ret
    exact ⟨rf, bws HB.out⟩
   · as_aux_lemma =>
    replace c28 := Bool.eq_false_iff.mpr c28
    subst c28
    rw [if_neg (show ¬ (false = true) by decide)] at H
    replace H := obE H
    obtain ⟨⟨t136, t137⟩, A29, H⟩ := H
    try dsimp only at H
    have HC30 := am H
    clear H
    have hcz31_0 : wc.cell? ⟨gb119, 0, none⟩ = some (.int .i64 a0_0) := (blk_cell BK119.out 0).trans rfl
    have hcz31_1 : wc.cell? ⟨gb119, 1, none⟩ = some (.string a0_1) := (blk_cell BK119.out 1).trans rfl
    have hcz31_2 : wc.cell? ⟨gb119, 2, none⟩ = some (.string a0_2) := (blk_cell BK119.out 2).trans rfl
    have hcz31_3 : wc.cell? ⟨gb119, 3, none⟩ = some (.string a0_3) := (blk_cell BK119.out 3).trans rfl
    have hcz31_4 : wc.cell? ⟨gb119, 4, none⟩ = some (.int .i64 a0_4) := (blk_cell BK119.out 4).trans rfl
    have hcz31_5 : wc.cell? ⟨gb119, 5, none⟩ = some (.int .i64 a0_5) := (blk_cell BK119.out 5).trans rfl
    have hcz31_6 : wc.cell? ⟨gb119, 6, none⟩ = some (.string a0_6) := (blk_cell BK119.out 6).trans rfl
    have hcz31_7 : wc.cell? ⟨gb119, 7, none⟩ = some (.slice A0_7 l0_7.length c0_7) := (blk_cell BK119.out 7).trans rfl
    have hcz31_8 : wc.cell? ⟨gb119, 8, none⟩ = some (.slice A0_8 l0_8.length c0_8) := (blk_cell BK119.out 8).trans rfl
    have hfz31_0 := blk_frozen BK119.out 0
    have hfz31_1 := blk_frozen BK119.out 1
    have hfz31_2 := blk_frozen BK119.out 2
    have hfz31_3 := blk_frozen BK119.out 3
    have hfz31_4 := blk_frozen BK119.out 4
    have hfz31_5 := blk_frozen BK119.out 5
    have hfz31_6 := blk_frozen BK119.out 6
    have hfz31_7 := blk_frozen BK119.out 7
    have hfz31_8 := blk_frozen BK119.out 8
    go_upto_region 5 with (first | ((with_reducible refine gate_callee (f := 34) rfl ?_); refine goesL_ (some 36) rfl rfl Tryd.func34 (by kernel_rfl) rfl #[.slice A0_7 l0_7.length c0_7] rfl gl ?_; (with_reducible refine (chain_Pieces.calls kj2 _ _ l0_7 t136 t137 _ ?side1 ?side2 A29.out).mono ?_); (case side1 => exact kC (Kd.C_below HR0_7.out HB.out)); (case side2 => exact HC0_7.out); rintro e w32 ⟨rfl, hb⟩; refine ⟨_, rfl, ?_⟩; replace BK119 := bb BK119.out hb; replace HB := am (below_step (bws HB.out) hb); (try clear hb)))
    (try simp only [Act.put, List.setIfInBounds_toArray, List.set_cons_zero, List.set_cons_succ])
    go_cut [6] (fun v6 wc => ∃ (kq : Nat) (x6_29 : Bool), v6 = .bool x6_29 ∧ Aside0 (cmd_Check.j1 kq t120 x6_29 a0_0 a0_1 a0_2 a0_3 a0_4 a0_5 a0_6 l0_7 l0_8 = some r) ∧ Aside0 (kq ≤ kj2) ∧ Aside0 (wc.heap[gb119]? = some (.cells #[.int .i64 a0_0, .string a0_1, .string a0_2, .string a0_3, .int .i64 a0_4, .int .i64 a0_5, .string a0_6, (.slice A0_7 l0_7.length c0_7), (.slice A0_8 l0_8.length c0_8)] 25 (0, 0))) ∧ Aside0 (Below w.heap.size w wc))
    case first => as_aux_lemma =>
     have H := HC30.out
     clear HC30
     by_cases c33 : (Go.bits .and .i64 t120 2) = 0
     · as_aux_lemma =>
      rw [if_pos c33] at H
      have c33b0 := beq_iff_eq.mpr c33
      have c33b1 := bne_eq_false_iff_eq.mpr c33
      clear c33
      (first | rw [c33b0] | (simp only [i64_w, i32_w]; rw [c33b0]) | skip)
      by_cases c34 : (Go.bits .and .i64 t120 4) = 0
      · as_aux_lemma =>
       rw [if_pos c34] at H
       have c34b0 := beq_iff_eq.mpr c34
       have c34b1 := bne_eq_false_iff_eq.mpr c34
       clear c34
       by_cases c35 : (Go.bits .and .i64 t120 32) = 0
       ·
        rw [if_pos c35] at H
        have c35b0 := beq_iff_eq.mpr c35
        have c35b1 := bne_eq_false_iff_eq.mpr c35
        clear c35
        by_cases c36 : t137 = 0
        ·
         rw [if_pos c36] at H
         have c36b0 := beq_iff_eq.mpr c36
         have c36b1 := bne_eq_false_iff_eq.mpr c36
         clear c36
         have H' := am H
         clear H
         go_wp2
         go_meet
         case rel => exact ⟨_, (decide (t136 > 1048576)), rs, H', ⟨by have := HJ2.out; first | omega | exact Nat.le_refl _⟩, ⟨bk BK119.out⟩, ⟨bws HB.out⟩⟩
        ·
         rw [if_neg c36] at H
         have c36b0 := beq_eq_false_iff_ne.mpr c36
         have c36b1 := bne_iff_ne.mpr c36
         have H' := am H
         clear H
         go_wp2
         go_meet
         case rel => exact ⟨_, (true), rs, H', ⟨by have := HJ2.out; first | omega | exact Nat.le_refl _⟩, ⟨bk BK119.out⟩, ⟨bws HB.out⟩⟩
       · as_aux_lemma =>
        rw [if_neg c35] at H
        have c35b0 := beq_eq_false_iff_ne.mpr c35
        have c35b1 := bne_iff_ne.mpr c35
        replace H := obE H
        obtain ⟨t138, A37, H⟩ := H
        by_cases c38 : t138 = true
        · as_aux_lemma =>
         subst c38
         rw [if_pos rfl] at H
         by_cases c39 : t137 = 0
         ·
          rw [if_pos c39] at H
          have c39b0 := beq_iff_eq.mpr c39
          have c39b1 := bne_eq_false_iff_eq.mpr c39
          clear c39
          have H' := am H
          clear H
          have hcz40_0 : w32.cell? ⟨gb119, 0, none⟩ = some (.int .i64 a0_0) := (blk_cell BK119.out 0).trans rfl
          have hcz40_1 : w32.cell? ⟨gb119, 1, none⟩ = some (.string a0_1) := (blk_cell BK119.out 1).trans rfl
          have hcz40_2 : w32.cell? ⟨gb119, 2, none⟩ = some (.string a0_2) := (blk_cell BK119.out 2).trans rfl
          have hcz40_3 : w32.cell? ⟨gb119, 3, none⟩ = some (.string a0_3) := (blk_cell BK119.out 3).trans rfl
          have hcz40_4 : w32.cell? ⟨gb119, 4, none⟩ = some (.int .i64 a0_4) := (blk_cell BK119.out 4).trans rfl
          have hcz40_5 : w32.cell? ⟨gb119, 5, none⟩ = some (.int .i64 a0_5) := (blk_cell BK119.out 5).trans rfl
          have hcz40_6 : w32.cell? ⟨gb119, 6, none⟩ = some (.string a0_6) := (blk_cell BK119.out 6).trans rfl
          have hcz40_7 : w32.cell? ⟨gb119, 7, none⟩ = some (.slice A0_7 l0_7.length c0_7) := (blk_cell BK119.out 7).trans rfl
          have hcz40_8 : w32.cell? ⟨gb119, 8, none⟩ = some (.slice A0_8 l0_8.length c0_8) := (blk_cell BK119.out 8).trans rfl
          have hfz40_0 := blk_frozen BK119.out 0
          have hfz40_1 := blk_frozen BK119.out 1
          have hfz40_2 := blk_frozen BK119.out 2
          have hfz40_3 := blk_frozen BK119.out 3
          have hfz40_4 := blk_frozen BK119.out 4
          have hfz40_5 := blk_frozen BK119.out 5
          have hfz40_6 := blk_frozen BK119.out 6
          have hfz40_7 := blk_frozen BK119.out 7
          have hfz40_8 := blk_frozen BK119.out 8
          go_wp2_with (first | (go_at_call 37; (with_reducible refine (cmd_digits.calls a0_6 true _ A37.out).mono ?_); rintro e w41 ⟨rfl, hb⟩; replace BK119 := bb BK119.out hb; replace HB := am (below_step (bws HB.out) hb); (try clear hb)))
          go_meet
          case rel => exact ⟨_, (decide (t136 > 1048576)), rs, H', ⟨by have := HJ2.out; first | omega | exact Nat.le_refl _⟩, ⟨bk BK119.out⟩, ⟨bws HB.out⟩⟩
         ·
          rw [if_neg c39] at H
          have c39b0 := beq_eq_false_iff_ne.mpr c39
          have c39b1 := bne_iff_ne.mpr c39
          have H' := am H
          clear H
          have hcz42_0 : w32.cell? ⟨gb119, 0, none⟩ = some (.int .i64 a0_0) := (blk_cell BK119.out 0).trans rfl
          have hcz42_1 : w32.cell? ⟨gb119, 1, none⟩ = some (.string a0_1) := (blk_cell BK119.out 1).trans rfl
          have hcz42_2 : w32.cell? ⟨gb119, 2, none⟩ = some (.string a0_2) := (blk_cell BK119.out 2).trans rfl
          have hcz42_3 : w32.cell? ⟨gb119, 3, none⟩ = some (.string a0_3) := (blk_cell BK119.out 3).trans rfl
          have hcz42_4 : w32.cell? ⟨gb119, 4, none⟩ = some (.int .i64 a0_4) := (blk_cell BK119.out 4).trans rfl
          have hcz42_5 : w32.cell? ⟨gb119, 5, none⟩ = some (.int .i64 a0_5) := (blk_cell BK119.out 5).trans rfl
          have hcz42_6 : w32.cell? ⟨gb119, 6, none⟩ = some (.string a0_6) := (blk_cell BK119.out 6).trans rfl
          have hcz42_7 : w32.cell? ⟨gb119, 7, none⟩ = some (.slice A0_7 l0_7.length c0_7) := (blk_cell BK119.out 7).trans rfl
          have hcz42_8 : w32.cell? ⟨gb119, 8, none⟩ = some (.slice A0_8 l0_8.length c0_8) := (blk_cell BK119.out 8).trans rfl
          have hfz42_0 := blk_frozen BK119.out 0
          have hfz42_1 := blk_frozen BK119.out 1
          have hfz42_2 := blk_frozen BK119.out 2
          have hfz42_3 := blk_frozen BK119.out 3
          have hfz42_4 := blk_frozen BK119.out 4
          have hfz42_5 := blk_frozen BK119.out 5
          have hfz42_6 := blk_frozen BK119.out 6
          have hfz42_7 := blk_frozen BK119.out 7
          have hfz42_8 := blk_frozen BK119.out 8
          go_wp2_with (first | (go_at_call 37; (with_reducible refine (cmd_digits.calls a0_6 true _ A37.out).mono ?_); rintro e w43 ⟨rfl, hb⟩; replace BK119 := bb BK119.out hb; replace HB := am (below_step (bws HB.out) hb); (try clear hb)))
          go_meet
          case rel => exact ⟨_, (true), rs, H', ⟨by have := HJ2.out; first | omega | exact Nat.le_refl _⟩, ⟨bk BK119.out⟩, ⟨bws HB.out⟩⟩
        ·
         replace c38 := Bool.eq_false_iff.mpr c38
         subst c38
         rw [if_neg (show ¬ (false = true) by decide)] at H
         have H' := am H
         clear H
         have hcz44_0 : w32.cell? ⟨gb119, 0, none⟩ = some (.int .i64 a0_0) := (blk_cell BK119.out 0).trans rfl
         have hcz44_1 : w32.cell? ⟨gb119, 1, none⟩ = some (.string a0_1) := (blk_cell BK119.out 1).trans rfl
         have hcz44_2 : w32.cell? ⟨gb119, 2, none⟩ = some (.string a0_2) := (blk_cell BK119.out 2).trans rfl
         have hcz44_3 : w32.cell? ⟨gb119, 3, none⟩ = some (.string a0_3) := (blk_cell BK119.out 3).trans rfl
         have hcz44_4 : w32.cell? ⟨gb119, 4, none⟩ = some (.int .i64 a0_4) := (blk_cell BK119.out 4).trans rfl
         have hcz44_5 : w32.cell? ⟨gb119, 5, none⟩ = some (.int .i64 a0_5) := (blk_cell BK119.out 5).trans rfl
         have hcz44_6 : w32.cell? ⟨gb119, 6, none⟩ = some (.string a0_6) := (blk_cell BK119.out 6).trans rfl
         have hcz44_7 : w32.cell? ⟨gb119, 7, none⟩ = some (.slice A0_7 l0_7.length c0_7) := (blk_cell BK119.out 7).trans rfl
         have hcz44_8 : w32.cell? ⟨gb119, 8, none⟩ = some (.slice A0_8 l0_8.length c0_8) := (blk_cell BK119.out 8).trans rfl
         have hfz44_0 := blk_frozen BK119.out 0
         have hfz44_1 := blk_frozen BK119.out 1
         have hfz44_2 := blk_frozen BK119.out 2
         have hfz44_3 := blk_frozen BK119.out 3
         have hfz44_4 := blk_frozen BK119.out 4
         have hfz44_5 := blk_frozen BK119.out 5
         have hfz44_6 := blk_frozen BK119.out 6
         have hfz44_7 := blk_frozen BK119.out 7
         have hfz44_8 := blk_frozen BK119.out 8
         go_wp2_with (first | (go_at_call 37; (with_reducible refine (cmd_digits.calls a0_6 false _ A37.out).mono ?_); rintro e w45 ⟨rfl, hb⟩; replace BK119 := bb BK119.out hb; replace HB := am (below_step (bws HB.out) hb); (try clear hb)))
         go_meet
         case rel => exact ⟨_, (true), rs, H', ⟨by have := HJ2.out; first | omega | exact Nat.le_refl _⟩, ⟨bk BK119.out⟩, ⟨bws HB.out⟩⟩
      · as_aux_lemma =>
       rw [if_neg c34] at H
       have c34b0 := beq_eq_false_iff_ne.mpr c34
       have c34b1 := bne_iff_ne.mpr c34
       replace H := obE H
       obtain ⟨t139, A46, H⟩ := H
       by_cases c47 : t139 = true
       · as_aux_lemma =>
        subst c47
        rw [if_pos rfl] at H
        by_cases c48 : (Go.bits .and .i64 t120 32) = 0
        · as_aux_lemma =>
         rw [if_pos c48] at H
         have c48b0 := beq_iff_eq.mpr c48
         have c48b1 := bne_eq_false_iff_eq.mpr c48
         clear c48
         by_cases c49 : t137 = 0
         ·
          rw [if_pos c49] at H
          have c49b0 := beq_iff_eq.mpr c49
          have c49b1 := bne_eq_false_iff_eq.mpr c49
          clear c49
          have H' := am H
          clear H
          have hcz50_0 : w32.cell? ⟨gb119, 0, none⟩ = some (.int .i64 a0_0) := (blk_cell BK119.out 0).trans rfl
          have hcz50_1 : w32.cell? ⟨gb119, 1, none⟩ = some (.string a0_1) := (blk_cell BK119.out 1).trans rfl
          have hcz50_2 : w32.cell? ⟨gb119, 2, none⟩ = some (.string a0_2) := (blk_cell BK119.out 2).trans rfl
          have hcz50_3 : w32.cell? ⟨gb119, 3, none⟩ = some (.string a0_3) := (blk_cell BK119.out 3).trans rfl
          have hcz50_4 : w32.cell? ⟨gb119, 4, none⟩ = some (.int .i64 a0_4) := (blk_cell BK119.out 4).trans rfl
          have hcz50_5 : w32.cell? ⟨gb119, 5, none⟩ = some (.int .i64 a0_5) := (blk_cell BK119.out 5).trans rfl
          have hcz50_6 : w32.cell? ⟨gb119, 6, none⟩ = some (.string a0_6) := (blk_cell BK119.out 6).trans rfl
          have hcz50_7 : w32.cell? ⟨gb119, 7, none⟩ = some (.slice A0_7 l0_7.length c0_7) := (blk_cell BK119.out 7).trans rfl
          have hcz50_8 : w32.cell? ⟨gb119, 8, none⟩ = some (.slice A0_8 l0_8.length c0_8) := (blk_cell BK119.out 8).trans rfl
          have hfz50_0 := blk_frozen BK119.out 0
          have hfz50_1 := blk_frozen BK119.out 1
          have hfz50_2 := blk_frozen BK119.out 2
          have hfz50_3 := blk_frozen BK119.out 3
          have hfz50_4 := blk_frozen BK119.out 4
          have hfz50_5 := blk_frozen BK119.out 5
          have hfz50_6 := blk_frozen BK119.out 6
          have hfz50_7 := blk_frozen BK119.out 7
          have hfz50_8 := blk_frozen BK119.out 8
          go_wp2_with (first | (go_at_call 36; (with_reducible refine (names_Key.calls a0_3 true _ A46.out ?sideG).mono ?_); (case sideG => first | exact HG.out | exact gg_below HG.out (bws HB.out)); rintro e w' ⟨rfl, ⟨nd, rfl⟩⟩))
          go_meet
          case rel => exact ⟨_, (decide (t136 > 1048576)), rs, H', ⟨by have := HJ2.out; first | omega | exact Nat.le_refl _⟩, ⟨bk BK119.out⟩, ⟨bws HB.out⟩⟩
         ·
          rw [if_neg c49] at H
          have c49b0 := beq_eq_false_iff_ne.mpr c49
          have c49b1 := bne_iff_ne.mpr c49
          have H' := am H
          clear H
          have hcz51_0 : w32.cell? ⟨gb119, 0, none⟩ = some (.int .i64 a0_0) := (blk_cell BK119.out 0).trans rfl
          have hcz51_1 : w32.cell? ⟨gb119, 1, none⟩ = some (.string a0_1) := (blk_cell BK119.out 1).trans rfl
          have hcz51_2 : w32.cell? ⟨gb119, 2, none⟩ = some (.string a0_2) := (blk_cell BK119.out 2).trans rfl
          have hcz51_3 : w32.cell? ⟨gb119, 3, none⟩ = some (.string a0_3) := (blk_cell BK119.out 3).trans rfl
          have hcz51_4 : w32.cell? ⟨gb119, 4, none⟩ = some (.int .i64 a0_4) := (blk_cell BK119.out 4).trans rfl
          have hcz51_5 : w32.cell? ⟨gb119, 5, none⟩ = some (.int .i64 a0_5) := (blk_cell BK119.out 5).trans rfl
          have hcz51_6 : w32.cell? ⟨gb119, 6, none⟩ = some (.string a0_6) := (blk_cell BK119.out 6).trans rfl
          have hcz51_7 : w32.cell? ⟨gb119, 7, none⟩ = some (.slice A0_7 l0_7.length c0_7) := (blk_cell BK119.out 7).trans rfl
          have hcz51_8 : w32.cell? ⟨gb119, 8, none⟩ = some (.slice A0_8 l0_8.length c0_8) := (blk_cell BK119.out 8).trans rfl
          have hfz51_0 := blk_frozen BK119.out 0
          have hfz51_1 := blk_frozen BK119.out 1
          have hfz51_2 := blk_frozen BK119.out 2
          have hfz51_3 := blk_frozen BK119.out 3
          have hfz51_4 := blk_frozen BK119.out 4
          have hfz51_5 := blk_frozen BK119.out 5
          have hfz51_6 := blk_frozen BK119.out 6
          have hfz51_7 := blk_frozen BK119.out 7
          have hfz51_8 := blk_frozen BK119.out 8
          go_wp2_with (first | (go_at_call 36; (with_reducible refine (names_Key.calls a0_3 true _ A46.out ?sideG).mono ?_); (case sideG => first | exact HG.out | exact gg_below HG.out (bws HB.out)); rintro e w' ⟨rfl, ⟨nd, rfl⟩⟩))
          go_meet
          case rel => exact ⟨_, (true), rs, H', ⟨by have := HJ2.out; first | omega | exact Nat.le_refl _⟩, ⟨bk BK119.out⟩, ⟨bws HB.out⟩⟩
        · as_aux_lemma =>
         rw [if_neg c48] at H
         have c48b0 := beq_eq_false_iff_ne.mpr c48
         have c48b1 := bne_iff_ne.mpr c48
         replace H := obE H
         obtain ⟨t140, A52, H⟩ := H
         by_cases c53 : t140 = true
         · as_aux_lemma =>
          subst c53
          rw [if_pos rfl] at H
          by_cases c54 : t137 = 0
          ·
           rw [if_pos c54] at H
           have c54b0 := beq_iff_eq.mpr c54
           have c54b1 := bne_eq_false_iff_eq.mpr c54
           clear c54
           have H' := am H
           clear H
           have hcz55_0 : w32.cell? ⟨gb119, 0, none⟩ = some (.int .i64 a0_0) := (blk_cell BK119.out 0).trans rfl
           have hcz55_1 : w32.cell? ⟨gb119, 1, none⟩ = some (.string a0_1) := (blk_cell BK119.out 1).trans rfl
           have hcz55_2 : w32.cell? ⟨gb119, 2, none⟩ = some (.string a0_2) := (blk_cell BK119.out 2).trans rfl
           have hcz55_3 : w32.cell? ⟨gb119, 3, none⟩ = some (.string a0_3) := (blk_cell BK119.out 3).trans rfl
           have hcz55_4 : w32.cell? ⟨gb119, 4, none⟩ = some (.int .i64 a0_4) := (blk_cell BK119.out 4).trans rfl
           have hcz55_5 : w32.cell? ⟨gb119, 5, none⟩ = some (.int .i64 a0_5) := (blk_cell BK119.out 5).trans rfl
           have hcz55_6 : w32.cell? ⟨gb119, 6, none⟩ = some (.string a0_6) := (blk_cell BK119.out 6).trans rfl
           have hcz55_7 : w32.cell? ⟨gb119, 7, none⟩ = some (.slice A0_7 l0_7.length c0_7) := (blk_cell BK119.out 7).trans rfl
           have hcz55_8 : w32.cell? ⟨gb119, 8, none⟩ = some (.slice A0_8 l0_8.length c0_8) := (blk_cell BK119.out 8).trans rfl
           have hfz55_0 := blk_frozen BK119.out 0
           have hfz55_1 := blk_frozen BK119.out 1
           have hfz55_2 := blk_frozen BK119.out 2
           have hfz55_3 := blk_frozen BK119.out 3
           have hfz55_4 := blk_frozen BK119.out 4
           have hfz55_5 := blk_frozen BK119.out 5
           have hfz55_6 := blk_frozen BK119.out 6
           have hfz55_7 := blk_frozen BK119.out 7
           have hfz55_8 := blk_frozen BK119.out 8
           go_wp2_with (first | (go_at_call 36; (with_reducible refine (names_Key.calls a0_3 true _ A46.out ?sideG).mono ?_); (case sideG => first | exact HG.out | exact gg_below HG.out (bws HB.out)); rintro e w' ⟨rfl, ⟨nd, rfl⟩⟩) | (go_at_call 37; (with_reducible refine (cmd_digits.calls a0_6 true _ A52.out).mono ?_); rintro e w56 ⟨rfl, hb⟩; replace BK119 := bb BK119.out hb; replace HB := am (below_step (bws HB.out) hb); (try clear hb)))
           go_meet
           case rel => exact ⟨_, (decide (t136 > 1048576)), rs, H', ⟨by have := HJ2.out; first | omega | exact Nat.le_refl _⟩, ⟨bk BK119.out⟩, ⟨bws HB.out⟩⟩
          ·
           rw [if_neg c54] at H
           have c54b0 := beq_eq_false_iff_ne.mpr c54
           have c54b1 := bne_iff_ne.mpr c54
           have H' := am H
           clear H
           have hcz57_0 : w32.cell? ⟨gb119, 0, none⟩ = some (.int .i64 a0_0) := (blk_cell BK119.out 0).trans rfl
           have hcz57_1 : w32.cell? ⟨gb119, 1, none⟩ = some (.string a0_1) := (blk_cell BK119.out 1).trans rfl
           have hcz57_2 : w32.cell? ⟨gb119, 2, none⟩ = some (.string a0_2) := (blk_cell BK119.out 2).trans rfl
           have hcz57_3 : w32.cell? ⟨gb119, 3, none⟩ = some (.string a0_3) := (blk_cell BK119.out 3).trans rfl
           have hcz57_4 : w32.cell? ⟨gb119, 4, none⟩ = some (.int .i64 a0_4) := (blk_cell BK119.out 4).trans rfl
           have hcz57_5 : w32.cell? ⟨gb119, 5, none⟩ = some (.int .i64 a0_5) := (blk_cell BK119.out 5).trans rfl
           have hcz57_6 : w32.cell? ⟨gb119, 6, none⟩ = some (.string a0_6) := (blk_cell BK119.out 6).trans rfl
           have hcz57_7 : w32.cell? ⟨gb119, 7, none⟩ = some (.slice A0_7 l0_7.length c0_7) := (blk_cell BK119.out 7).trans rfl
           have hcz57_8 : w32.cell? ⟨gb119, 8, none⟩ = some (.slice A0_8 l0_8.length c0_8) := (blk_cell BK119.out 8).trans rfl
           have hfz57_0 := blk_frozen BK119.out 0
           have hfz57_1 := blk_frozen BK119.out 1
           have hfz57_2 := blk_frozen BK119.out 2
           have hfz57_3 := blk_frozen BK119.out 3
           have hfz57_4 := blk_frozen BK119.out 4
           have hfz57_5 := blk_frozen BK119.out 5
           have hfz57_6 := blk_frozen BK119.out 6
           have hfz57_7 := blk_frozen BK119.out 7
           have hfz57_8 := blk_frozen BK119.out 8
           go_wp2_with (first | (go_at_call 36; (with_reducible refine (names_Key.calls a0_3 true _ A46.out ?sideG).mono ?_); (case sideG => first | exact HG.out | exact gg_below HG.out (bws HB.out)); rintro e w' ⟨rfl, ⟨nd, rfl⟩⟩) | (go_at_call 37; (with_reducible refine (cmd_digits.calls a0_6 true _ A52.out).mono ?_); rintro e w58 ⟨rfl, hb⟩; replace BK119 := bb BK119.out hb; replace HB := am (below_step (bws HB.out) hb); (try clear hb)))
           go_meet
           case rel => exact ⟨_, (true), rs, H', ⟨by have := HJ2.out; first | omega | exact Nat.le_refl _⟩, ⟨bk BK119.out⟩, ⟨bws HB.out⟩⟩
         ·
          replace c53 := Bool.eq_false_iff.mpr c53
          subst c53
          rw [if_neg (show ¬ (false = true) by decide)] at H
          have H' := am H
          clear H
          have hcz59_0 : w32.cell? ⟨gb119, 0, none⟩ = some (.int .i64 a0_0) := (blk_cell BK119.out 0).trans rfl
          have hcz59_1 : w32.cell? ⟨gb119, 1, none⟩ = some (.string a0_1) := (blk_cell BK119.out 1).trans rfl
          have hcz59_2 : w32.cell? ⟨gb119, 2, none⟩ = some (.string a0_2) := (blk_cell BK119.out 2).trans rfl
          have hcz59_3 : w32.cell? ⟨gb119, 3, none⟩ = some (.string a0_3) := (blk_cell BK119.out 3).trans rfl
          have hcz59_4 : w32.cell? ⟨gb119, 4, none⟩ = some (.int .i64 a0_4) := (blk_cell BK119.out 4).trans rfl
          have hcz59_5 : w32.cell? ⟨gb119, 5, none⟩ = some (.int .i64 a0_5) := (blk_cell BK119.out 5).trans rfl
          have hcz59_6 : w32.cell? ⟨gb119, 6, none⟩ = some (.string a0_6) := (blk_cell BK119.out 6).trans rfl
          have hcz59_7 : w32.cell? ⟨gb119, 7, none⟩ = some (.slice A0_7 l0_7.length c0_7) := (blk_cell BK119.out 7).trans rfl
          have hcz59_8 : w32.cell? ⟨gb119, 8, none⟩ = some (.slice A0_8 l0_8.length c0_8) := (blk_cell BK119.out 8).trans rfl
          have hfz59_0 := blk_frozen BK119.out 0
          have hfz59_1 := blk_frozen BK119.out 1
          have hfz59_2 := blk_frozen BK119.out 2
          have hfz59_3 := blk_frozen BK119.out 3
          have hfz59_4 := blk_frozen BK119.out 4
          have hfz59_5 := blk_frozen BK119.out 5
          have hfz59_6 := blk_frozen BK119.out 6
          have hfz59_7 := blk_frozen BK119.out 7
          have hfz59_8 := blk_frozen BK119.out 8
          go_wp2_with (first | (go_at_call 36; (with_reducible refine (names_Key.calls a0_3 true _ A46.out ?sideG).mono ?_); (case sideG => first | exact HG.out | exact gg_below HG.out (bws HB.out)); rintro e w' ⟨rfl, ⟨nd, rfl⟩⟩) | (go_at_call 37; (with_reducible refine (cmd_digits.calls a0_6 false _ A52.out).mono ?_); rintro e w60 ⟨rfl, hb⟩; replace BK119 := bb BK119.out hb; replace HB := am (below_step (bws HB.out) hb); (try clear hb)))
          go_meet
          case rel => exact ⟨_, (true), rs, H', ⟨by have := HJ2.out; first | omega | exact Nat.le_refl _⟩, ⟨bk BK119.out⟩, ⟨bws HB.out⟩⟩
       ·
        replace c47 := Bool.eq_false_iff.mpr c47
        subst c47
        rw [if_neg (show ¬ (false = true) by decide)] at H
        have H' := am H
        clear H
        have hcz61_0 : w32.cell? ⟨gb119, 0, none⟩ = some (.int .i64 a0_0) := (blk_cell BK119.out 0).trans rfl
        have hcz61_1 : w32.cell? ⟨gb119, 1, none⟩ = some (.string a0_1) := (blk_cell BK119.out 1).trans rfl
        have hcz61_2 : w32.cell? ⟨gb119, 2, none⟩ = some (.string a0_2) := (blk_cell BK119.out 2).trans rfl
        have hcz61_3 : w32.cell? ⟨gb119, 3, none⟩ = some (.string a0_3) := (blk_cell BK119.out 3).trans rfl
        have hcz61_4 : w32.cell? ⟨gb119, 4, none⟩ = some (.int .i64 a0_4) := (blk_cell BK119.out 4).trans rfl
        have hcz61_5 : w32.cell? ⟨gb119, 5, none⟩ = some (.int .i64 a0_5) := (blk_cell BK119.out 5).trans rfl
        have hcz61_6 : w32.cell? ⟨gb119, 6, none⟩ = some (.string a0_6) := (blk_cell BK119.out 6).trans rfl
        have hcz61_7 : w32.cell? ⟨gb119, 7, none⟩ = some (.slice A0_7 l0_7.length c0_7) := (blk_cell BK119.out 7).trans rfl
        have hcz61_8 : w32.cell? ⟨gb119, 8, none⟩ = some (.slice A0_8 l0_8.length c0_8) := (blk_cell BK119.out 8).trans rfl
        have hfz61_0 := blk_frozen BK119.out 0
        have hfz61_1 := blk_frozen BK119.out 1
        have hfz61_2 := blk_frozen BK119.out 2
        have hfz61_3 := blk_frozen BK119.out 3
        have hfz61_4 := blk_frozen BK119.out 4
        have hfz61_5 := blk_frozen BK119.out 5
        have hfz61_6 := blk_frozen BK119.out 6
        have hfz61_7 := blk_frozen BK119.out 7
        have hfz61_8 := blk_frozen BK119.out 8
        go_wp2_with (first | (go_at_call 36; (with_reducible refine (names_Key.calls a0_3 false _ A46.out ?sideG).mono ?_); (case sideG => first | exact HG.out | exact gg_below HG.out (bws HB.out)); rintro e w' ⟨rfl, ⟨nd, rfl⟩⟩))
        go_meet
        case rel => exact ⟨_, (true), rs, H', ⟨by have := HJ2.out; first | omega | exact Nat.le_refl _⟩, ⟨bk BK119.out⟩, ⟨bws HB.out⟩⟩
     · as_aux_lemma =>
      rw [if_neg c33] at H
      have c33b0 := beq_eq_false_iff_ne.mpr c33
      have c33b1 := bne_iff_ne.mpr c33
      (first | rw [c33b0] | (simp only [i64_w, i32_w]; rw [c33b0]) | skip)
      replace H := obE H
      obtain ⟨t141, A62, H⟩ := H
      by_cases c63 : t141 = true
      · as_aux_lemma =>
       subst c63
       rw [if_pos rfl] at H
       by_cases c64 : (Go.bits .and .i64 t120 4) = 0
       · as_aux_lemma =>
        rw [if_pos c64] at H
        have c64b0 := beq_iff_eq.mpr c64
        have c64b1 := bne_eq_false_iff_eq.mpr c64
        clear c64
        by_cases c65 : (Go.bits .and .i64 t120 32) = 0
        · as_aux_lemma =>
         rw [if_pos c65] at H
         have c65b0 := beq_iff_eq.mpr c65
         have c65b1 := bne_eq_false_iff_eq.mpr c65
         clear c65
         by_cases c66 : t137 = 0
         ·
          rw [if_pos c66] at H
          have c66b0 := beq_iff_eq.mpr c66
          have c66b1 := bne_eq_false_iff_eq.mpr c66
          clear c66
          have H' := am H
          clear H
          have hcz67_0 : w32.cell? ⟨gb119, 0, none⟩ = some (.int .i64 a0_0) := (blk_cell BK119.out 0).trans rfl
          have hcz67_1 : w32.cell? ⟨gb119, 1, none⟩ = some (.string a0_1) := (blk_cell BK119.out 1).trans rfl
          have hcz67_2 : w32.cell? ⟨gb119, 2, none⟩ = some (.string a0_2) := (blk_cell BK119.out 2).trans rfl
          have hcz67_3 : w32.cell? ⟨gb119, 3, none⟩ = some (.string a0_3) := (blk_cell BK119.out 3).trans rfl
          have hcz67_4 : w32.cell? ⟨gb119, 4, none⟩ = some (.int .i64 a0_4) := (blk_cell BK119.out 4).trans rfl
          have hcz67_5 : w32.cell? ⟨gb119, 5, none⟩ = some (.int .i64 a0_5) := (blk_cell BK119.out 5).trans rfl
          have hcz67_6 : w32.cell? ⟨gb119, 6, none⟩ = some (.string a0_6) := (blk_cell BK119.out 6).trans rfl
          have hcz67_7 : w32.cell? ⟨gb119, 7, none⟩ = some (.slice A0_7 l0_7.length c0_7) := (blk_cell BK119.out 7).trans rfl
          have hcz67_8 : w32.cell? ⟨gb119, 8, none⟩ = some (.slice A0_8 l0_8.length c0_8) := (blk_cell BK119.out 8).trans rfl
          have hfz67_0 := blk_frozen BK119.out 0
          have hfz67_1 := blk_frozen BK119.out 1
          have hfz67_2 := blk_frozen BK119.out 2
          have hfz67_3 := blk_frozen BK119.out 3
          have hfz67_4 := blk_frozen BK119.out 4
          have hfz67_5 := blk_frozen BK119.out 5
          have hfz67_6 := blk_frozen BK119.out 6
          have hfz67_7 := blk_frozen BK119.out 7
          have hfz67_8 := blk_frozen BK119.out 8
          go_wp2_with (first | (go_at_call 35; (with_reducible refine (names_Bucket.calls kj2 a0_2 true _ A62.out ?sideG).mono ?_); (case sideG => first | exact HG.out | exact gg_below HG.out (bws HB.out)); rintro e w' ⟨rfl, ⟨nd, rfl⟩⟩))
          go_meet
          case rel => exact ⟨_, (decide (t136 > 1048576)), rs, H', ⟨by have := HJ2.out; first | omega | exact Nat.le_refl _⟩, ⟨bk BK119.out⟩, ⟨bws HB.out⟩⟩
         ·
          rw [if_neg c66] at H
          have c66b0 := beq_eq_false_iff_ne.mpr c66
          have c66b1 := bne_iff_ne.mpr c66
          have H' := am H
          clear H
          have hcz68_0 : w32.cell? ⟨gb119, 0, none⟩ = some (.int .i64 a0_0) := (blk_cell BK119.out 0).trans rfl
          have hcz68_1 : w32.cell? ⟨gb119, 1, none⟩ = some (.string a0_1) := (blk_cell BK119.out 1).trans rfl
          have hcz68_2 : w32.cell? ⟨gb119, 2, none⟩ = some (.string a0_2) := (blk_cell BK119.out 2).trans rfl
          have hcz68_3 : w32.cell? ⟨gb119, 3, none⟩ = some (.string a0_3) := (blk_cell BK119.out 3).trans rfl
          have hcz68_4 : w32.cell? ⟨gb119, 4, none⟩ = some (.int .i64 a0_4) := (blk_cell BK119.out 4).trans rfl
          have hcz68_5 : w32.cell? ⟨gb119, 5, none⟩ = some (.int .i64 a0_5) := (blk_cell BK119.out 5).trans rfl
          have hcz68_6 : w32.cell? ⟨gb119, 6, none⟩ = some (.string a0_6) := (blk_cell BK119.out 6).trans rfl
          have hcz68_7 : w32.cell? ⟨gb119, 7, none⟩ = some (.slice A0_7 l0_7.length c0_7) := (blk_cell BK119.out 7).trans rfl
          have hcz68_8 : w32.cell? ⟨gb119, 8, none⟩ = some (.slice A0_8 l0_8.length c0_8) := (blk_cell BK119.out 8).trans rfl
          have hfz68_0 := blk_frozen BK119.out 0
          have hfz68_1 := blk_frozen BK119.out 1
          have hfz68_2 := blk_frozen BK119.out 2
          have hfz68_3 := blk_frozen BK119.out 3
          have hfz68_4 := blk_frozen BK119.out 4
          have hfz68_5 := blk_frozen BK119.out 5
          have hfz68_6 := blk_frozen BK119.out 6
          have hfz68_7 := blk_frozen BK119.out 7
          have hfz68_8 := blk_frozen BK119.out 8
          go_wp2_with (first | (go_at_call 35; (with_reducible refine (names_Bucket.calls kj2 a0_2 true _ A62.out ?sideG).mono ?_); (case sideG => first | exact HG.out | exact gg_below HG.out (bws HB.out)); rintro e w' ⟨rfl, ⟨nd, rfl⟩⟩))
          go_meet
          case rel => exact ⟨_, (true), rs, H', ⟨by have := HJ2.out; first | omega | exact Nat.le_refl _⟩, ⟨bk BK119.out⟩, ⟨bws HB.out⟩⟩
        · as_aux_lemma =>
         rw [if_neg c65] at H
         have c65b0 := beq_eq_false_iff_ne.mpr c65
         have c65b1 := bne_iff_ne.mpr c65
         replace H := obE H
         obtain ⟨t142, A69, H⟩ := H
         by_cases c70 : t142 = true
         · as_aux_lemma =>
          subst c70
          rw [if_pos rfl] at H
          by_cases c71 : t137 = 0
          ·
           rw [if_pos c71] at H
           have c71b0 := beq_iff_eq.mpr c71
           have c71b1 := bne_eq_false_iff_eq.mpr c71
           clear c71
           have H' := am H
           clear H
           have hcz72_0 : w32.cell? ⟨gb119, 0, none⟩ = some (.int .i64 a0_0) := (blk_cell BK119.out 0).trans rfl
           have hcz72_1 : w32.cell? ⟨gb119, 1, none⟩ = some (.string a0_1) := (blk_cell BK119.out 1).trans rfl
           have hcz72_2 : w32.cell? ⟨gb119, 2, none⟩ = some (.string a0_2) := (blk_cell BK119.out 2).trans rfl
           have hcz72_3 : w32.cell? ⟨gb119, 3, none⟩ = some (.string a0_3) := (blk_cell BK119.out 3).trans rfl
           have hcz72_4 : w32.cell? ⟨gb119, 4, none⟩ = some (.int .i64 a0_4) := (blk_cell BK119.out 4).trans rfl
           have hcz72_5 : w32.cell? ⟨gb119, 5, none⟩ = some (.int .i64 a0_5) := (blk_cell BK119.out 5).trans rfl
           have hcz72_6 : w32.cell? ⟨gb119, 6, none⟩ = some (.string a0_6) := (blk_cell BK119.out 6).trans rfl
           have hcz72_7 : w32.cell? ⟨gb119, 7, none⟩ = some (.slice A0_7 l0_7.length c0_7) := (blk_cell BK119.out 7).trans rfl
           have hcz72_8 : w32.cell? ⟨gb119, 8, none⟩ = some (.slice A0_8 l0_8.length c0_8) := (blk_cell BK119.out 8).trans rfl
           have hfz72_0 := blk_frozen BK119.out 0
           have hfz72_1 := blk_frozen BK119.out 1
           have hfz72_2 := blk_frozen BK119.out 2
           have hfz72_3 := blk_frozen BK119.out 3
           have hfz72_4 := blk_frozen BK119.out 4
           have hfz72_5 := blk_frozen BK119.out 5
           have hfz72_6 := blk_frozen BK119.out 6
           have hfz72_7 := blk_frozen BK119.out 7
           have hfz72_8 := blk_frozen BK119.out 8
           go_wp2_with (first | (go_at_call 35; (with_reducible refine (names_Bucket.calls kj2 a0_2 true _ A62.out ?sideG).mono ?_); (case sideG => first | exact HG.out | exact gg_below HG.out (bws HB.out)); rintro e w' ⟨rfl, ⟨nd, rfl⟩⟩) | (go_at_call 37; (with_reducible refine (cmd_digits.calls a0_6 true _ A69.out).mono ?_); rintro e w73 ⟨rfl, hb⟩; replace BK119 := bb BK119.out hb; replace HB := am (below_step (bws HB.out) hb); (try clear hb)))
           go_meet
           case rel => exact ⟨_, (decide (t136 > 1048576)), rs, H', ⟨by have := HJ2.out; first | omega | exact Nat.le_refl _⟩, ⟨bk BK119.out⟩, ⟨bws HB.out⟩⟩
          ·
           rw [if_neg c71] at H
           have c71b0 := beq_eq_false_iff_ne.mpr c71
           have c71b1 := bne_iff_ne.mpr c71
           have H' := am H
           clear H
           have hcz74_0 : w32.cell? ⟨gb119, 0, none⟩ = some (.int .i64 a0_0) := (blk_cell BK119.out 0).trans rfl
           have hcz74_1 : w32.cell? ⟨gb119, 1, none⟩ = some (.string a0_1) := (blk_cell BK119.out 1).trans rfl
           have hcz74_2 : w32.cell? ⟨gb119, 2, none⟩ = some (.string a0_2) := (blk_cell BK119.out 2).trans rfl
           have hcz74_3 : w32.cell? ⟨gb119, 3, none⟩ = some (.string a0_3) := (blk_cell BK119.out 3).trans rfl
           have hcz74_4 : w32.cell? ⟨gb119, 4, none⟩ = some (.int .i64 a0_4) := (blk_cell BK119.out 4).trans rfl
           have hcz74_5 : w32.cell? ⟨gb119, 5, none⟩ = some (.int .i64 a0_5) := (blk_cell BK119.out 5).trans rfl
           have hcz74_6 : w32.cell? ⟨gb119, 6, none⟩ = some (.string a0_6) := (blk_cell BK119.out 6).trans rfl
           have hcz74_7 : w32.cell? ⟨gb119, 7, none⟩ = some (.slice A0_7 l0_7.length c0_7) := (blk_cell BK119.out 7).trans rfl
           have hcz74_8 : w32.cell? ⟨gb119, 8, none⟩ = some (.slice A0_8 l0_8.length c0_8) := (blk_cell BK119.out 8).trans rfl
           have hfz74_0 := blk_frozen BK119.out 0
           have hfz74_1 := blk_frozen BK119.out 1
           have hfz74_2 := blk_frozen BK119.out 2
           have hfz74_3 := blk_frozen BK119.out 3
           have hfz74_4 := blk_frozen BK119.out 4
           have hfz74_5 := blk_frozen BK119.out 5
           have hfz74_6 := blk_frozen BK119.out 6
           have hfz74_7 := blk_frozen BK119.out 7
           have hfz74_8 := blk_frozen BK119.out 8
           go_wp2_with (first | (go_at_call 35; (with_reducible refine (names_Bucket.calls kj2 a0_2 true _ A62.out ?sideG).mono ?_); (case sideG => first | exact HG.out | exact gg_below HG.out (bws HB.out)); rintro e w' ⟨rfl, ⟨nd, rfl⟩⟩) | (go_at_call 37; (with_reducible refine (cmd_digits.calls a0_6 true _ A69.out).mono ?_); rintro e w75 ⟨rfl, hb⟩; replace BK119 := bb BK119.out hb; replace HB := am (below_step (bws HB.out) hb); (try clear hb)))
           go_meet
           case rel => exact ⟨_, (true), rs, H', ⟨by have := HJ2.out; first | omega | exact Nat.le_refl _⟩, ⟨bk BK119.out⟩, ⟨bws HB.out⟩⟩
         ·
          replace c70 := Bool.eq_false_iff.mpr c70
          subst c70
          rw [if_neg (show ¬ (false = true) by decide)] at H
          have H' := am H
          clear H
          have hcz76_0 : w32.cell? ⟨gb119, 0, none⟩ = some (.int .i64 a0_0) := (blk_cell BK119.out 0).trans rfl
          have hcz76_1 : w32.cell? ⟨gb119, 1, none⟩ = some (.string a0_1) := (blk_cell BK119.out 1).trans rfl
          have hcz76_2 : w32.cell? ⟨gb119, 2, none⟩ = some (.string a0_2) := (blk_cell BK119.out 2).trans rfl
          have hcz76_3 : w32.cell? ⟨gb119, 3, none⟩ = some (.string a0_3) := (blk_cell BK119.out 3).trans rfl
          have hcz76_4 : w32.cell? ⟨gb119, 4, none⟩ = some (.int .i64 a0_4) := (blk_cell BK119.out 4).trans rfl
          have hcz76_5 : w32.cell? ⟨gb119, 5, none⟩ = some (.int .i64 a0_5) := (blk_cell BK119.out 5).trans rfl
          have hcz76_6 : w32.cell? ⟨gb119, 6, none⟩ = some (.string a0_6) := (blk_cell BK119.out 6).trans rfl
          have hcz76_7 : w32.cell? ⟨gb119, 7, none⟩ = some (.slice A0_7 l0_7.length c0_7) := (blk_cell BK119.out 7).trans rfl
          have hcz76_8 : w32.cell? ⟨gb119, 8, none⟩ = some (.slice A0_8 l0_8.length c0_8) := (blk_cell BK119.out 8).trans rfl
          have hfz76_0 := blk_frozen BK119.out 0
          have hfz76_1 := blk_frozen BK119.out 1
          have hfz76_2 := blk_frozen BK119.out 2
          have hfz76_3 := blk_frozen BK119.out 3
          have hfz76_4 := blk_frozen BK119.out 4
          have hfz76_5 := blk_frozen BK119.out 5
          have hfz76_6 := blk_frozen BK119.out 6
          have hfz76_7 := blk_frozen BK119.out 7
          have hfz76_8 := blk_frozen BK119.out 8
          go_wp2_with (first | (go_at_call 35; (with_reducible refine (names_Bucket.calls kj2 a0_2 true _ A62.out ?sideG).mono ?_); (case sideG => first | exact HG.out | exact gg_below HG.out (bws HB.out)); rintro e w' ⟨rfl, ⟨nd, rfl⟩⟩) | (go_at_call 37; (with_reducible refine (cmd_digits.calls a0_6 false _ A69.out).mono ?_); rintro e w77 ⟨rfl, hb⟩; replace BK119 := bb BK119.out hb; replace HB := am (below_step (bws HB.out) hb); (try clear hb)))
          go_meet
          case rel => exact ⟨_, (true), rs, H', ⟨by have := HJ2.out; first | omega | exact Nat.le_refl _⟩, ⟨bk BK119.out⟩, ⟨bws HB.out⟩⟩
       · as_aux_lemma =>
        rw [if_neg c64] at H
        have c64b0 := beq_eq_false_iff_ne.mpr c64
        have c64b1 := bne_iff_ne.mpr c64
        replace H := obE H
        obtain ⟨t143, A78, H⟩ := H
        by_cases c79 : t143 = true
        · as_aux_lemma =>
         subst c79
         rw [if_pos rfl] at H
         by_cases c80 : (Go.bits .and .i64 t120 32) = 0
         · as_aux_lemma =>
          rw [if_pos c80] at H
          have c80b0 := beq_iff_eq.mpr c80
          have c80b1 := bne_eq_false_iff_eq.mpr c80
          clear c80
          by_cases c81 : t137 = 0
          ·
           rw [if_pos c81] at H
           have c81b0 := beq_iff_eq.mpr c81
           have c81b1 := bne_eq_false_iff_eq.mpr c81
           clear c81
           have H' := am H
           clear H
           have hcz82_0 : w32.cell? ⟨gb119, 0, none⟩ = some (.int .i64 a0_0) := (blk_cell BK119.out 0).trans rfl
           have hcz82_1 : w32.cell? ⟨gb119, 1, none⟩ = some (.string a0_1) := (blk_cell BK119.out 1).trans rfl
           have hcz82_2 : w32.cell? ⟨gb119, 2, none⟩ = some (.string a0_2) := (blk_cell BK119.out 2).trans rfl
           have hcz82_3 : w32.cell? ⟨gb119, 3, none⟩ = some (.string a0_3) := (blk_cell BK119.out 3).trans rfl
           have hcz82_4 : w32.cell? ⟨gb119, 4, none⟩ = some (.int .i64 a0_4) := (blk_cell BK119.out 4).trans rfl
           have hcz82_5 : w32.cell? ⟨gb119, 5, none⟩ = some (.int .i64 a0_5) := (blk_cell BK119.out 5).trans rfl
           have hcz82_6 : w32.cell? ⟨gb119, 6, none⟩ = some (.string a0_6) := (blk_cell BK119.out 6).trans rfl
           have hcz82_7 : w32.cell? ⟨gb119, 7, none⟩ = some (.slice A0_7 l0_7.length c0_7) := (blk_cell BK119.out 7).trans rfl
           have hcz82_8 : w32.cell? ⟨gb119, 8, none⟩ = some (.slice A0_8 l0_8.length c0_8) := (blk_cell BK119.out 8).trans rfl
           have hfz82_0 := blk_frozen BK119.out 0
           have hfz82_1 := blk_frozen BK119.out 1
           have hfz82_2 := blk_frozen BK119.out 2
           have hfz82_3 := blk_frozen BK119.out 3
           have hfz82_4 := blk_frozen BK119.out 4
           have hfz82_5 := blk_frozen BK119.out 5
           have hfz82_6 := blk_frozen BK119.out 6
           have hfz82_7 := blk_frozen BK119.out 7
           have hfz82_8 := blk_frozen BK119.out 8
           go_wp2_with (first | (go_at_call 35; (with_reducible refine (names_Bucket.calls kj2 a0_2 true _ A62.out ?sideG).mono ?_); (case sideG => first | exact HG.out | exact gg_below HG.out (bws HB.out)); rintro e w' ⟨rfl, ⟨nd, rfl⟩⟩) | (go_at_call 36; (with_reducible refine (names_Key.calls a0_3 true _ A78.out ?sideG).mono ?_); (case sideG => first | exact HG.out | exact gg_below HG.out (bws HB.out)); rintro e w' ⟨rfl, ⟨nd, rfl⟩⟩))
           go_meet
           case rel => exact ⟨_, (decide (t136 > 1048576)), rs, H', ⟨by have := HJ2.out; first | omega | exact Nat.le_refl _⟩, ⟨bk BK119.out⟩, ⟨bws HB.out⟩⟩
          ·
           rw [if_neg c81] at H
           have c81b0 := beq_eq_false_iff_ne.mpr c81
           have c81b1 := bne_iff_ne.mpr c81
           have H' := am H
           clear H
           have hcz83_0 : w32.cell? ⟨gb119, 0, none⟩ = some (.int .i64 a0_0) := (blk_cell BK119.out 0).trans rfl
           have hcz83_1 : w32.cell? ⟨gb119, 1, none⟩ = some (.string a0_1) := (blk_cell BK119.out 1).trans rfl
           have hcz83_2 : w32.cell? ⟨gb119, 2, none⟩ = some (.string a0_2) := (blk_cell BK119.out 2).trans rfl
           have hcz83_3 : w32.cell? ⟨gb119, 3, none⟩ = some (.string a0_3) := (blk_cell BK119.out 3).trans rfl
           have hcz83_4 : w32.cell? ⟨gb119, 4, none⟩ = some (.int .i64 a0_4) := (blk_cell BK119.out 4).trans rfl
           have hcz83_5 : w32.cell? ⟨gb119, 5, none⟩ = some (.int .i64 a0_5) := (blk_cell BK119.out 5).trans rfl
           have hcz83_6 : w32.cell? ⟨gb119, 6, none⟩ = some (.string a0_6) := (blk_cell BK119.out 6).trans rfl
           have hcz83_7 : w32.cell? ⟨gb119, 7, none⟩ = some (.slice A0_7 l0_7.length c0_7) := (blk_cell BK119.out 7).trans rfl
           have hcz83_8 : w32.cell? ⟨gb119, 8, none⟩ = some (.slice A0_8 l0_8.length c0_8) := (blk_cell BK119.out 8).trans rfl
           have hfz83_0 := blk_frozen BK119.out 0
           have hfz83_1 := blk_frozen BK119.out 1
           have hfz83_2 := blk_frozen BK119.out 2
           have hfz83_3 := blk_frozen BK119.out 3
           have hfz83_4 := blk_frozen BK119.out 4
           have hfz83_5 := blk_frozen BK119.out 5
           have hfz83_6 := blk_frozen BK119.out 6
           have hfz83_7 := blk_frozen BK119.out 7
           have hfz83_8 := blk_frozen BK119.out 8
           go_wp2_with (first | (go_at_call 35; (with_reducible refine (names_Bucket.calls kj2 a0_2 true _ A62.out ?sideG).mono ?_); (case sideG => first | exact HG.out | exact gg_below HG.out (bws HB.out)); rintro e w' ⟨rfl, ⟨nd, rfl⟩⟩) | (go_at_call 36; (with_reducible refine (names_Key.calls a0_3 true _ A78.out ?sideG).mono ?_); (case sideG => first | exact HG.out | exact gg_below HG.out (bws HB.out)); rintro e w' ⟨rfl, ⟨nd, rfl⟩⟩))
           go_meet
           case rel => exact ⟨_, (true), rs, H', ⟨by have := HJ2.out; first | omega | exact Nat.le_refl _⟩, ⟨bk BK119.out⟩, ⟨bws HB.out⟩⟩
         · as_aux_lemma =>
          rw [if_neg c80] at H
          have c80b0 := beq_eq_false_iff_ne.mpr c80
          have c80b1 := bne_iff_ne.mpr c80
          replace H := obE H
          obtain ⟨t144, A84, H⟩ := H
          by_cases c85 : t144 = true
          · as_aux_lemma =>
           subst c85
           rw [if_pos rfl] at H
           by_cases c86 : t137 = 0
           ·
            rw [if_pos c86] at H
            have c86b0 := beq_iff_eq.mpr c86
            have c86b1 := bne_eq_false_iff_eq.mpr c86
            clear c86
            have H' := am H
            clear H
            have hcz87_0 : w32.cell? ⟨gb119, 0, none⟩ = some (.int .i64 a0_0) := (blk_cell BK119.out 0).trans rfl
            have hcz87_1 : w32.cell? ⟨gb119, 1, none⟩ = some (.string a0_1) := (blk_cell BK119.out 1).trans rfl
            have hcz87_2 : w32.cell? ⟨gb119, 2, none⟩ = some (.string a0_2) := (blk_cell BK119.out 2).trans rfl
            have hcz87_3 : w32.cell? ⟨gb119, 3, none⟩ = some (.string a0_3) := (blk_cell BK119.out 3).trans rfl
            have hcz87_4 : w32.cell? ⟨gb119, 4, none⟩ = some (.int .i64 a0_4) := (blk_cell BK119.out 4).trans rfl
            have hcz87_5 : w32.cell? ⟨gb119, 5, none⟩ = some (.int .i64 a0_5) := (blk_cell BK119.out 5).trans rfl
            have hcz87_6 : w32.cell? ⟨gb119, 6, none⟩ = some (.string a0_6) := (blk_cell BK119.out 6).trans rfl
            have hcz87_7 : w32.cell? ⟨gb119, 7, none⟩ = some (.slice A0_7 l0_7.length c0_7) := (blk_cell BK119.out 7).trans rfl
            have hcz87_8 : w32.cell? ⟨gb119, 8, none⟩ = some (.slice A0_8 l0_8.length c0_8) := (blk_cell BK119.out 8).trans rfl
            have hfz87_0 := blk_frozen BK119.out 0
            have hfz87_1 := blk_frozen BK119.out 1
            have hfz87_2 := blk_frozen BK119.out 2
            have hfz87_3 := blk_frozen BK119.out 3
            have hfz87_4 := blk_frozen BK119.out 4
            have hfz87_5 := blk_frozen BK119.out 5
            have hfz87_6 := blk_frozen BK119.out 6
            have hfz87_7 := blk_frozen BK119.out 7
            have hfz87_8 := blk_frozen BK119.out 8
            go_wp2_with (first | (go_at_call 35; (with_reducible refine (names_Bucket.calls kj2 a0_2 true _ A62.out ?sideG).mono ?_); (case sideG => first | exact HG.out | exact gg_below HG.out (bws HB.out)); rintro e w' ⟨rfl, ⟨nd, rfl⟩⟩) | (go_at_call 36; (with_reducible refine (names_Key.calls a0_3 true _ A78.out ?sideG).mono ?_); (case sideG => first | exact HG.out | exact gg_below HG.out (bws HB.out)); rintro e w' ⟨rfl, ⟨nd, rfl⟩⟩) | (go_at_call 37; (with_reducible refine (cmd_digits.calls a0_6 true _ A84.out).mono ?_); rintro e w88 ⟨rfl, hb⟩; replace BK119 := bb BK119.out hb; replace HB := am (below_step (bws HB.out) hb); (try clear hb)))
            go_meet
            case rel => exact ⟨_, (decide (t136 > 1048576)), rs, H', ⟨by have := HJ2.out; first | omega | exact Nat.le_refl _⟩, ⟨bk BK119.out⟩, ⟨bws HB.out⟩⟩
           ·
            rw [if_neg c86] at H
            have c86b0 := beq_eq_false_iff_ne.mpr c86
            have c86b1 := bne_iff_ne.mpr c86
            have H' := am H
            clear H
            have hcz89_0 : w32.cell? ⟨gb119, 0, none⟩ = some (.int .i64 a0_0) := (blk_cell BK119.out 0).trans rfl
            have hcz89_1 : w32.cell? ⟨gb119, 1, none⟩ = some (.string a0_1) := (blk_cell BK119.out 1).trans rfl
            have hcz89_2 : w32.cell? ⟨gb119, 2, none⟩ = some (.string a0_2) := (blk_cell BK119.out 2).trans rfl
            have hcz89_3 : w32.cell? ⟨gb119, 3, none⟩ = some (.string a0_3) := (blk_cell BK119.out 3).trans rfl
            have hcz89_4 : w32.cell? ⟨gb119, 4, none⟩ = some (.int .i64 a0_4) := (blk_cell BK119.out 4).trans rfl
            have hcz89_5 : w32.cell? ⟨gb119, 5, none⟩ = some (.int .i64 a0_5) := (blk_cell BK119.out 5).trans rfl
            have hcz89_6 : w32.cell? ⟨gb119, 6, none⟩ = some (.string a0_6) := (blk_cell BK119.out 6).trans rfl
            have hcz89_7 : w32.cell? ⟨gb119, 7, none⟩ = some (.slice A0_7 l0_7.length c0_7) := (blk_cell BK119.out 7).trans rfl
            have hcz89_8 : w32.cell? ⟨gb119, 8, none⟩ = some (.slice A0_8 l0_8.length c0_8) := (blk_cell BK119.out 8).trans rfl
            have hfz89_0 := blk_frozen BK119.out 0
            have hfz89_1 := blk_frozen BK119.out 1
            have hfz89_2 := blk_frozen BK119.out 2
            have hfz89_3 := blk_frozen BK119.out 3
            have hfz89_4 := blk_frozen BK119.out 4
            have hfz89_5 := blk_frozen BK119.out 5
            have hfz89_6 := blk_frozen BK119.out 6
            have hfz89_7 := blk_frozen BK119.out 7
            have hfz89_8 := blk_frozen BK119.out 8
            go_wp2_with (first | (go_at_call 35; (with_reducible refine (names_Bucket.calls kj2 a0_2 true _ A62.out ?sideG).mono ?_); (case sideG => first | exact HG.out | exact gg_below HG.out (bws HB.out)); rintro e w' ⟨rfl, ⟨nd, rfl⟩⟩) | (go_at_call 36; (with_reducible refine (names_Key.calls a0_3 true _ A78.out ?sideG).mono ?_); (case sideG => first | exact HG.out | exact gg_below HG.out (bws HB.out)); rintro e w' ⟨rfl, ⟨nd, rfl⟩⟩) | (go_at_call 37; (with_reducible refine (cmd_digits.calls a0_6 true _ A84.out).mono ?_); rintro e w90 ⟨rfl, hb⟩; replace BK119 := bb BK119.out hb; replace HB := am (below_step (bws HB.out) hb); (try clear hb)))
            go_meet
            case rel => exact ⟨_, (true), rs, H', ⟨by have := HJ2.out; first | omega | exact Nat.le_refl _⟩, ⟨bk BK119.out⟩, ⟨bws HB.out⟩⟩
          ·
           replace c85 := Bool.eq_false_iff.mpr c85
           subst c85
           rw [if_neg (show ¬ (false = true) by decide)] at H
           have H' := am H
           clear H
           have hcz91_0 : w32.cell? ⟨gb119, 0, none⟩ = some (.int .i64 a0_0) := (blk_cell BK119.out 0).trans rfl
           have hcz91_1 : w32.cell? ⟨gb119, 1, none⟩ = some (.string a0_1) := (blk_cell BK119.out 1).trans rfl
           have hcz91_2 : w32.cell? ⟨gb119, 2, none⟩ = some (.string a0_2) := (blk_cell BK119.out 2).trans rfl
           have hcz91_3 : w32.cell? ⟨gb119, 3, none⟩ = some (.string a0_3) := (blk_cell BK119.out 3).trans rfl
           have hcz91_4 : w32.cell? ⟨gb119, 4, none⟩ = some (.int .i64 a0_4) := (blk_cell BK119.out 4).trans rfl
           have hcz91_5 : w32.cell? ⟨gb119, 5, none⟩ = some (.int .i64 a0_5) := (blk_cell BK119.out 5).trans rfl
           have hcz91_6 : w32.cell? ⟨gb119, 6, none⟩ = some (.string a0_6) := (blk_cell BK119.out 6).trans rfl
           have hcz91_7 : w32.cell? ⟨gb119, 7, none⟩ = some (.slice A0_7 l0_7.length c0_7) := (blk_cell BK119.out 7).trans rfl
           have hcz91_8 : w32.cell? ⟨gb119, 8, none⟩ = some (.slice A0_8 l0_8.length c0_8) := (blk_cell BK119.out 8).trans rfl
           have hfz91_0 := blk_frozen BK119.out 0
           have hfz91_1 := blk_frozen BK119.out 1
           have hfz91_2 := blk_frozen BK119.out 2
           have hfz91_3 := blk_frozen BK119.out 3
           have hfz91_4 := blk_frozen BK119.out 4
           have hfz91_5 := blk_frozen BK119.out 5
           have hfz91_6 := blk_frozen BK119.out 6
           have hfz91_7 := blk_frozen BK119.out 7
           have hfz91_8 := blk_frozen BK119.out 8
           go_wp2_with (first | (go_at_call 35; (with_reducible refine (names_Bucket.calls kj2 a0_2 true _ A62.out ?sideG).mono ?_); (case sideG => first | exact HG.out | exact gg_below HG.out (bws HB.out)); rintro e w' ⟨rfl, ⟨nd, rfl⟩⟩) | (go_at_call 36; (with_reducible refine (names_Key.calls a0_3 true _ A78.out ?sideG).mono ?_); (case sideG => first | exact HG.out | exact gg_below HG.out (bws HB.out)); rintro e w' ⟨rfl, ⟨nd, rfl⟩⟩) | (go_at_call 37; (with_reducible refine (cmd_digits.calls a0_6 false _ A84.out).mono ?_); rintro e w92 ⟨rfl, hb⟩; replace BK119 := bb BK119.out hb; replace HB := am (below_step (bws HB.out) hb); (try clear hb)))
           go_meet
           case rel => exact ⟨_, (true), rs, H', ⟨by have := HJ2.out; first | omega | exact Nat.le_refl _⟩, ⟨bk BK119.out⟩, ⟨bws HB.out⟩⟩
        ·
         replace c79 := Bool.eq_false_iff.mpr c79
         subst c79
         rw [if_neg (show ¬ (false = true) by decide)] at H
         have H' := am H
         clear H
         have hcz93_0 : w32.cell? ⟨gb119, 0, none⟩ = some (.int .i64 a0_0) := (blk_cell BK119.out 0).trans rfl
         have hcz93_1 : w32.cell? ⟨gb119, 1, none⟩ = some (.string a0_1) := (blk_cell BK119.out 1).trans rfl
         have hcz93_2 : w32.cell? ⟨gb119, 2, none⟩ = some (.string a0_2) := (blk_cell BK119.out 2).trans rfl
         have hcz93_3 : w32.cell? ⟨gb119, 3, none⟩ = some (.string a0_3) := (blk_cell BK119.out 3).trans rfl
         have hcz93_4 : w32.cell? ⟨gb119, 4, none⟩ = some (.int .i64 a0_4) := (blk_cell BK119.out 4).trans rfl
         have hcz93_5 : w32.cell? ⟨gb119, 5, none⟩ = some (.int .i64 a0_5) := (blk_cell BK119.out 5).trans rfl
         have hcz93_6 : w32.cell? ⟨gb119, 6, none⟩ = some (.string a0_6) := (blk_cell BK119.out 6).trans rfl
         have hcz93_7 : w32.cell? ⟨gb119, 7, none⟩ = some (.slice A0_7 l0_7.length c0_7) := (blk_cell BK119.out 7).trans rfl
         have hcz93_8 : w32.cell? ⟨gb119, 8, none⟩ = some (.slice A0_8 l0_8.length c0_8) := (blk_cell BK119.out 8).trans rfl
         have hfz93_0 := blk_frozen BK119.out 0
         have hfz93_1 := blk_frozen BK119.out 1
         have hfz93_2 := blk_frozen BK119.out 2
         have hfz93_3 := blk_frozen BK119.out 3
         have hfz93_4 := blk_frozen BK119.out 4
         have hfz93_5 := blk_frozen BK119.out 5
         have hfz93_6 := blk_frozen BK119.out 6
         have hfz93_7 := blk_frozen BK119.out 7
         have hfz93_8 := blk_frozen BK119.out 8
         go_wp2_with (first | (go_at_call 35; (with_reducible refine (names_Bucket.calls kj2 a0_2 true _ A62.out ?sideG).mono ?_); (case sideG => first | exact HG.out | exact gg_below HG.out (bws HB.out)); rintro e w' ⟨rfl, ⟨nd, rfl⟩⟩) | (go_at_call 36; (with_reducible refine (names_Key.calls a0_3 false _ A78.out ?sideG).mono ?_); (case sideG => first | exact HG.out | exact gg_below HG.out (bws HB.out)); rintro e w' ⟨rfl, ⟨nd, rfl⟩⟩))
         go_meet
         case rel => exact ⟨_, (true), rs, H', ⟨by have := HJ2.out; first | omega | exact Nat.le_refl _⟩, ⟨bk BK119.out⟩, ⟨bws HB.out⟩⟩
      ·
       replace c63 := Bool.eq_false_iff.mpr c63
       subst c63
       rw [if_neg (show ¬ (false = true) by decide)] at H
       have H' := am H
       clear H
       have hcz94_0 : w32.cell? ⟨gb119, 0, none⟩ = some (.int .i64 a0_0) := (blk_cell BK119.out 0).trans rfl
       have hcz94_1 : w32.cell? ⟨gb119, 1, none⟩ = some (.string a0_1) := (blk_cell BK119.out 1).trans rfl
       have hcz94_2 : w32.cell? ⟨gb119, 2, none⟩ = some (.string a0_2) := (blk_cell BK119.out 2).trans rfl
       have hcz94_3 : w32.cell? ⟨gb119, 3, none⟩ = some (.string a0_3) := (blk_cell BK119.out 3).trans rfl
       have hcz94_4 : w32.cell? ⟨gb119, 4, none⟩ = some (.int .i64 a0_4) := (blk_cell BK119.out 4).trans rfl
       have hcz94_5 : w32.cell? ⟨gb119, 5, none⟩ = some (.int .i64 a0_5) := (blk_cell BK119.out 5).trans rfl
       have hcz94_6 : w32.cell? ⟨gb119, 6, none⟩ = some (.string a0_6) := (blk_cell BK119.out 6).trans rfl
       have hcz94_7 : w32.cell? ⟨gb119, 7, none⟩ = some (.slice A0_7 l0_7.length c0_7) := (blk_cell BK119.out 7).trans rfl
       have hcz94_8 : w32.cell? ⟨gb119, 8, none⟩ = some (.slice A0_8 l0_8.length c0_8) := (blk_cell BK119.out 8).trans rfl
       have hfz94_0 := blk_frozen BK119.out 0
       have hfz94_1 := blk_frozen BK119.out 1
       have hfz94_2 := blk_frozen BK119.out 2
       have hfz94_3 := blk_frozen BK119.out 3
       have hfz94_4 := blk_frozen BK119.out 4
       have hfz94_5 := blk_frozen BK119.out 5
       have hfz94_6 := blk_frozen BK119.out 6
       have hfz94_7 := blk_frozen BK119.out 7
       have hfz94_8 := blk_frozen BK119.out 8
       go_wp2_with (first | (go_at_call 35; (with_reducible refine (names_Bucket.calls kj2 a0_2 false _ A62.out ?sideG).mono ?_); (case sideG => first | exact HG.out | exact gg_below HG.out (bws HB.out)); rintro e w' ⟨rfl, ⟨nd, rfl⟩⟩))
       go_meet
       case rel => exact ⟨_, (true), rs, H', ⟨by have := HJ2.out; first | omega | exact Nat.le_refl _⟩, ⟨bk BK119.out⟩, ⟨bws HB.out⟩⟩
    case rest => as_aux_lemma =>
     clear HC30
     try clear p2
     try clear c3
     try clear c4
     try clear c5
     try clear c6
     try clear c7
     try clear c8
     try clear c33
     try clear c33b0
     try clear c33b1
     try clear c47
     try clear c48
     try clear c48b0
     try clear c48b1
     try clear c49
     try clear c49b0
     try clear c49b1
     try clear c53
     try clear c54
     try clear c54b0
     try clear c54b1
     try clear c63
     try clear c64
     try clear c64b0
     try clear c64b1
     try clear c65
     try clear c65b0
     try clear c65b1
     try clear c66
     try clear c66b0
     try clear c66b1
     try clear c70
     try clear c71
     try clear c71b0
     try clear c71b1
     try clear c79
     try clear c80
     try clear c80b0
     try clear c80b1
     try clear c81
     try clear c81b0
     try clear c81b1
     try clear c85
     try clear c86
     try clear c86b0
     try clear c86b1
     try clear hcz50_0
     try clear hcz50_1
     try clear hcz50_2
     try clear hcz50_3
     try clear hcz50_4
     try clear hcz50_5
     try clear hcz50_6
     try clear hcz50_7
     try clear hcz50_8
     try clear hcz51_0
     try clear hcz51_1
     try clear hcz51_2
     try clear hcz51_3
     try clear hcz51_4
     try clear hcz51_5
     try clear hcz51_6
     try clear hcz51_7
     try clear hcz51_8
     try clear hcz55_0
     try clear hcz55_1
     try clear hcz55_2
     try clear hcz55_3
     try clear hcz55_4
     try clear hcz55_5
     try clear hcz55_6
     try clear hcz55_7
     try clear hcz55_8
     try clear hcz57_0
     try clear hcz57_1
     try clear hcz57_2
     try clear hcz57_3
     try clear hcz57_4
     try clear hcz57_5
     try clear hcz57_6
     try clear hcz57_7
     try clear hcz57_8
     try clear hcz59_0
     try clear hcz59_1
     try clear hcz59_2
     try clear hcz59_3
     try clear hcz59_4
     try clear hcz59_5
     try clear hcz59_6
     try clear hcz59_7
     try clear hcz59_8
     try clear hcz61_0
     try clear hcz61_1
     try clear hcz61_2
     try clear hcz61_3
     try clear hcz61_4
     try clear hcz61_5
     try clear hcz61_6
     try clear hcz61_7
     try clear hcz61_8
     try clear hcz67_0
     try clear hcz67_1
     try clear hcz67_2
     try clear hcz67_3
     try clear hcz67_4
     try clear hcz67_5
     try clear hcz67_6
     try clear hcz67_7
     try clear hcz67_8
     try clear hcz68_0
     try clear hcz68_1
     try clear hcz68_2
     try clear hcz68_3
     try clear hcz68_4
     try clear hcz68_5
     try clear hcz68_6
     try clear hcz68_7
     try clear hcz68_8
     try clear hcz72_0
     try clear hcz72_1
     try clear hcz72_2
     try clear hcz72_3
     try clear hcz72_4
     try clear hcz72_5
     try clear hcz72_6
     try clear hcz72_7
     try clear hcz72_8
     try clear hcz74_0
     try clear hcz74_1
     try clear hcz74_2
     try clear hcz74_3
     try clear hcz74_4
     try clear hcz74_5
     try clear hcz74_6
     try clear hcz74_7
     try clear hcz74_8
     try clear hcz76_0
     try clear hcz76_1
     try clear hcz76_2
     try clear hcz76_3
     try clear hcz76_4
     try clear hcz76_5
     try clear hcz76_6
     try clear hcz76_7
     try clear hcz76_8
     try clear hcz82_0
     try clear hcz82_1
     try clear hcz82_2
     try clear hcz82_3
     try clear hcz82_4
     try clear hcz82_5
     try clear hcz82_6
     try clear hcz82_7
     try clear hcz82_8
     try clear hcz83_0
     try clear hcz83_1
     try clear hcz83_2
     try clear hcz83_3
     try clear hcz83_4
     try clear hcz83_5
     try clear hcz83_6
     try clear hcz83_7
     try clear hcz83_8
     try clear hcz87_0
     try clear hcz87_1
     try clear hcz87_2
     try clear hcz87_3
     try clear hcz87_4
     try clear hcz87_5
     try clear hcz87_6
     try clear hcz87_7
     try clear hcz87_8
     try clear hcz89_0
     try clear hcz89_1
     try clear hcz89_2
     try clear hcz89_3
     try clear hcz89_4
     try clear hcz89_5
     try clear hcz89_6
     try clear hcz89_7
     try clear hcz89_8
     try clear hcz91_0
     try clear hcz91_1
     try clear hcz91_2
     try clear hcz91_3
     try clear hcz91_4
     try clear hcz91_5
     try clear hcz91_6
     try clear hcz91_7
     try clear hcz91_8
     try clear hcz93_0
     try clear hcz93_1
     try clear hcz93_2
     try clear hcz93_3
     try clear hcz93_4
     try clear hcz93_5
     try clear hcz93_6
     try clear hcz93_7
     try clear hcz93_8
     try clear hcz94_0
     try clear hcz94_1
     try clear hcz94_2
     try clear hcz94_3
     try clear hcz94_4
     try clear hcz94_5
     try clear hcz94_6
     try clear hcz94_7
     try clear hcz94_8
     try clear hfz50_0
     try clear hfz50_1
     try clear hfz50_2
     try clear hfz50_3
     try clear hfz50_4
     try clear hfz50_5
     try clear hfz50_6
     try clear hfz50_7
     try clear hfz50_8
     try clear hfz51_0
     try clear hfz51_1
     try clear hfz51_2
     try clear hfz51_3
     try clear hfz51_4
     try clear hfz51_5
     try clear hfz51_6
     try clear hfz51_7
     try clear hfz51_8
     try clear hfz55_0
     try clear hfz55_1
     try clear hfz55_2
     try clear hfz55_3
     try clear hfz55_4
     try clear hfz55_5
     try clear hfz55_6
     try clear hfz55_7
     try clear hfz55_8
     try clear hfz57_0
     try clear hfz57_1
     try clear hfz57_2
     try clear hfz57_3
     try clear hfz57_4
     try clear hfz57_5
     try clear hfz57_6
     try clear hfz57_7
     try clear hfz57_8
     try clear hfz59_0
     try clear hfz59_1
     try clear hfz59_2
     try clear hfz59_3
     try clear hfz59_4
     try clear hfz59_5
     try clear hfz59_6
     try clear hfz59_7
     try clear hfz59_8
     try clear hfz61_0
     try clear hfz61_1
     try clear hfz61_2
     try clear hfz61_3
     try clear hfz61_4
     try clear hfz61_5
     try clear hfz61_6
     try clear hfz61_7
     try clear hfz61_8
     try clear hfz67_0
     try clear hfz67_1
     try clear hfz67_2
     try clear hfz67_3
     try clear hfz67_4
     try clear hfz67_5
     try clear hfz67_6
     try clear hfz67_7
     try clear hfz67_8
     try clear hfz68_0
     try clear hfz68_1
     try clear hfz68_2
     try clear hfz68_3
     try clear hfz68_4
     try clear hfz68_5
     try clear hfz68_6
     try clear hfz68_7
     try clear hfz68_8
     try clear hfz72_0
     try clear hfz72_1
     try clear hfz72_2
     try clear hfz72_3
     try clear hfz72_4
     try clear hfz72_5
     try clear hfz72_6
     try clear hfz72_7
     try clear hfz72_8
     try clear hfz74_0
     try clear hfz74_1
     try clear hfz74_2
     try clear hfz74_3
     try clear hfz74_4
     try clear hfz74_5
     try clear hfz74_6
     try clear hfz74_7
     try clear hfz74_8
     try clear hfz76_0
     try clear hfz76_1
     try clear hfz76_2
     try clear hfz76_3
     try clear hfz76_4
     try clear hfz76_5
     try clear hfz76_6
     try clear hfz76_7
     try clear hfz76_8
     try clear hfz82_0
     try clear hfz82_1
     try clear hfz82_2
     try clear hfz82_3
     try clear hfz82_4
     try clear hfz82_5
     try clear hfz82_6
     try clear hfz82_7
     try clear hfz82_8
     try clear hfz83_0
     try clear hfz83_1
     try clear hfz83_2
     try clear hfz83_3
     try clear hfz83_4
     try clear hfz83_5
     try clear hfz83_6
     try clear hfz83_7
     try clear hfz83_8
     try clear hfz87_0
     try clear hfz87_1
     try clear hfz87_2
     try clear hfz87_3
     try clear hfz87_4
     try clear hfz87_5
     try clear hfz87_6
     try clear hfz87_7
     try clear hfz87_8
     try clear hfz89_0
     try clear hfz89_1
     try clear hfz89_2
     try clear hfz89_3
     try clear hfz89_4
     try clear hfz89_5
     try clear hfz89_6
     try clear hfz89_7
     try clear hfz89_8
     try clear hfz91_0
     try clear hfz91_1
     try clear hfz91_2
     try clear hfz91_3
     try clear hfz91_4
     try clear hfz91_5
     try clear hfz91_6
     try clear hfz91_7
     try clear hfz91_8
     try clear hfz93_0
     try clear hfz93_1
     try clear hfz93_2
     try clear hfz93_3
     try clear hfz93_4
     try clear hfz93_5
     try clear hfz93_6
     try clear hfz93_7
     try clear hfz93_8
     try clear hfz94_0
     try clear hfz94_1
     try clear hfz94_2
     try clear hfz94_3
     try clear hfz94_4
     try clear hfz94_5
     try clear hfz94_6
     try clear hfz94_7
     try clear hfz94_8
     obtain ⟨kq, x6_29, rfl, HA, HJ29, BK119, HB⟩ := hcut
     cases kq with
     | zero => exact absurd HA.out (by simp [cmd_Check.j1])
     | succ kj29 =>
      have H := HA.out
      clear HA
      simp only [cmd_Check.j1] at H
      have HC95 := am H
      clear H
      go_upto_region 6 with (fail)
      go_cut [6] (fun v6 wc => ∃ (kq : Nat) (x6_94 : Bool), v6 = .bool x6_94 ∧ Aside0 (cmd_Check.j2 kq x6_94 a0_0 a0_1 a0_2 a0_3 a0_4 a0_5 a0_6 l0_7 l0_8 = some r) ∧ Aside0 (kq ≤ kj29) ∧ Aside0 (wc.heap[gb119]? = some (.cells #[.int .i64 a0_0, .string a0_1, .string a0_2, .string a0_3, .int .i64 a0_4, .int .i64 a0_5, .string a0_6, (.slice A0_7 l0_7.length c0_7), (.slice A0_8 l0_8.length c0_8)] 25 (0, 0))) ∧ Aside0 (Below w.heap.size w wc))
      case first => as_aux_lemma =>
       have H := HC95.out
       clear HC95
       by_cases c96 : x6_29 = true
       ·
        subst c96
        rw [if_pos rfl] at H
        have H' := am H
        clear H
        go_wp2
        go_meet
        case rel => exact ⟨_, (true), rs, H', ⟨by have := HJ2.out; have := HJ29.out; first | omega | exact Nat.le_refl _⟩, ⟨bk BK119.out⟩, ⟨bws HB.out⟩⟩
       · as_aux_lemma =>
        replace c96 := Bool.eq_false_iff.mpr c96
        subst c96
        rw [if_neg (show ¬ (false = true) by decide)] at H
        replace H := iteD H
        rcases H with ⟨c97b0, H⟩ | ⟨c97b0, H⟩
        ·
         (first | rw [c97b0] | (simp only [i64_w, i32_w]; rw [c97b0]) | skip)
         have H' := am H
         clear H
         have hcz98_0 : wc.cell? ⟨gb119, 0, none⟩ = some (.int .i64 a0_0) := (blk_cell BK119.out 0).trans rfl
         have hcz98_1 : wc.cell? ⟨gb119, 1, none⟩ = some (.string a0_1) := (blk_cell BK119.out 1).trans rfl
         have hcz98_2 : wc.cell? ⟨gb119, 2, none⟩ = some (.string a0_2) := (blk_cell BK119.out 2).trans rfl
         have hcz98_3 : wc.cell? ⟨gb119, 3, none⟩ = some (.string a0_3) := (blk_cell BK119.out 3).trans rfl
         have hcz98_4 : wc.cell? ⟨gb119, 4, none⟩ = some (.int .i64 a0_4) := (blk_cell BK119.out 4).trans rfl
         have hcz98_5 : wc.cell? ⟨gb119, 5, none⟩ = some (.int .i64 a0_5) := (blk_cell BK119.out 5).trans rfl
         have hcz98_6 : wc.cell? ⟨gb119, 6, none⟩ = some (.string a0_6) := (blk_cell BK119.out 6).trans rfl
         have hcz98_7 : wc.cell? ⟨gb119, 7, none⟩ = some (.slice A0_7 l0_7.length c0_7) := (blk_cell BK119.out 7).trans rfl
         have hcz98_8 : wc.cell? ⟨gb119, 8, none⟩ = some (.slice A0_8 l0_8.length c0_8) := (blk_cell BK119.out 8).trans rfl
         have hfz98_0 := blk_frozen BK119.out 0
         have hfz98_1 := blk_frozen BK119.out 1
         have hfz98_2 := blk_frozen BK119.out 2
         have hfz98_3 := blk_frozen BK119.out 3
         have hfz98_4 := blk_frozen BK119.out 4
         have hfz98_5 := blk_frozen BK119.out 5
         have hfz98_6 := blk_frozen BK119.out 6
         have hfz98_7 := blk_frozen BK119.out 7
         have hfz98_8 := blk_frozen BK119.out 8
         go_wp2
         go_meet
         case rel => exact ⟨_, (true), rs, H', ⟨by have := HJ2.out; have := HJ29.out; first | omega | exact Nat.le_refl _⟩, ⟨bk BK119.out⟩, ⟨bws HB.out⟩⟩
        · as_aux_lemma =>
         (first | rw [c97b0] | (simp only [i64_w, i32_w]; rw [c97b0]) | skip)
         replace H := iteD H
         rcases H with ⟨c99b0, H⟩ | ⟨c99b0, H⟩
         ·
          have H' := am H
          clear H
          have hcz100_0 : wc.cell? ⟨gb119, 0, none⟩ = some (.int .i64 a0_0) := (blk_cell BK119.out 0).trans rfl
          have hcz100_1 : wc.cell? ⟨gb119, 1, none⟩ = some (.string a0_1) := (blk_cell BK119.out 1).trans rfl
          have hcz100_2 : wc.cell? ⟨gb119, 2, none⟩ = some (.string a0_2) := (blk_cell BK119.out 2).trans rfl
          have hcz100_3 : wc.cell? ⟨gb119, 3, none⟩ = some (.string a0_3) := (blk_cell BK119.out 3).trans rfl
          have hcz100_4 : wc.cell? ⟨gb119, 4, none⟩ = some (.int .i64 a0_4) := (blk_cell BK119.out 4).trans rfl
          have hcz100_5 : wc.cell? ⟨gb119, 5, none⟩ = some (.int .i64 a0_5) := (blk_cell BK119.out 5).trans rfl
          have hcz100_6 : wc.cell? ⟨gb119, 6, none⟩ = some (.string a0_6) := (blk_cell BK119.out 6).trans rfl
          have hcz100_7 : wc.cell? ⟨gb119, 7, none⟩ = some (.slice A0_7 l0_7.length c0_7) := (blk_cell BK119.out 7).trans rfl
          have hcz100_8 : wc.cell? ⟨gb119, 8, none⟩ = some (.slice A0_8 l0_8.length c0_8) := (blk_cell BK119.out 8).trans rfl
          have hfz100_0 := blk_frozen BK119.out 0
          have hfz100_1 := blk_frozen BK119.out 1
          have hfz100_2 := blk_frozen BK119.out 2
          have hfz100_3 := blk_frozen BK119.out 3
          have hfz100_4 := blk_frozen BK119.out 4
          have hfz100_5 := blk_frozen BK119.out 5
          have hfz100_6 := blk_frozen BK119.out 6
          have hfz100_7 := blk_frozen BK119.out 7
          have hfz100_8 := blk_frozen BK119.out 8
          go_wp2
          go_meet
          case rel => exact ⟨_, (true), rs, H', ⟨by have := HJ2.out; have := HJ29.out; first | omega | exact Nat.le_refl _⟩, ⟨bk BK119.out⟩, ⟨bws HB.out⟩⟩
         · as_aux_lemma =>
          by_cases c101 : (Go.bits .and .i64 t120 8) = 0
          · as_aux_lemma =>
           rw [if_pos c101] at H
           have c101b0 := beq_iff_eq.mpr c101
           have c101b1 := bne_eq_false_iff_eq.mpr c101
           clear c101
           replace H := iteD H
           rcases H with ⟨c102b0, H⟩ | ⟨c102b0, H⟩
           ·
            have H' := am H
            clear H
            have hcz103_0 : wc.cell? ⟨gb119, 0, none⟩ = some (.int .i64 a0_0) := (blk_cell BK119.out 0).trans rfl
            have hcz103_1 : wc.cell? ⟨gb119, 1, none⟩ = some (.string a0_1) := (blk_cell BK119.out 1).trans rfl
            have hcz103_2 : wc.cell? ⟨gb119, 2, none⟩ = some (.string a0_2) := (blk_cell BK119.out 2).trans rfl
            have hcz103_3 : wc.cell? ⟨gb119, 3, none⟩ = some (.string a0_3) := (blk_cell BK119.out 3).trans rfl
            have hcz103_4 : wc.cell? ⟨gb119, 4, none⟩ = some (.int .i64 a0_4) := (blk_cell BK119.out 4).trans rfl
            have hcz103_5 : wc.cell? ⟨gb119, 5, none⟩ = some (.int .i64 a0_5) := (blk_cell BK119.out 5).trans rfl
            have hcz103_6 : wc.cell? ⟨gb119, 6, none⟩ = some (.string a0_6) := (blk_cell BK119.out 6).trans rfl
            have hcz103_7 : wc.cell? ⟨gb119, 7, none⟩ = some (.slice A0_7 l0_7.length c0_7) := (blk_cell BK119.out 7).trans rfl
            have hcz103_8 : wc.cell? ⟨gb119, 8, none⟩ = some (.slice A0_8 l0_8.length c0_8) := (blk_cell BK119.out 8).trans rfl
            have hfz103_0 := blk_frozen BK119.out 0
            have hfz103_1 := blk_frozen BK119.out 1
            have hfz103_2 := blk_frozen BK119.out 2
            have hfz103_3 := blk_frozen BK119.out 3
            have hfz103_4 := blk_frozen BK119.out 4
            have hfz103_5 := blk_frozen BK119.out 5
            have hfz103_6 := blk_frozen BK119.out 6
            have hfz103_7 := blk_frozen BK119.out 7
            have hfz103_8 := blk_frozen BK119.out 8
            go_wp2
            go_meet
            case rel => exact ⟨_, (true), rs, H', ⟨by have := HJ2.out; have := HJ29.out; first | omega | exact Nat.le_refl _⟩, ⟨bk BK119.out⟩, ⟨bws HB.out⟩⟩
           · as_aux_lemma =>
            replace H := iteD H
            rcases H with ⟨c104b0, H⟩ | ⟨c104b0, H⟩
            ·
             have H' := am H
             clear H
             have hcz105_0 : wc.cell? ⟨gb119, 0, none⟩ = some (.int .i64 a0_0) := (blk_cell BK119.out 0).trans rfl
             have hcz105_1 : wc.cell? ⟨gb119, 1, none⟩ = some (.string a0_1) := (blk_cell BK119.out 1).trans rfl
             have hcz105_2 : wc.cell? ⟨gb119, 2, none⟩ = some (.string a0_2) := (blk_cell BK119.out 2).trans rfl
             have hcz105_3 : wc.cell? ⟨gb119, 3, none⟩ = some (.string a0_3) := (blk_cell BK119.out 3).trans rfl
             have hcz105_4 : wc.cell? ⟨gb119, 4, none⟩ = some (.int .i64 a0_4) := (blk_cell BK119.out 4).trans rfl
             have hcz105_5 : wc.cell? ⟨gb119, 5, none⟩ = some (.int .i64 a0_5) := (blk_cell BK119.out 5).trans rfl
             have hcz105_6 : wc.cell? ⟨gb119, 6, none⟩ = some (.string a0_6) := (blk_cell BK119.out 6).trans rfl
             have hcz105_7 : wc.cell? ⟨gb119, 7, none⟩ = some (.slice A0_7 l0_7.length c0_7) := (blk_cell BK119.out 7).trans rfl
             have hcz105_8 : wc.cell? ⟨gb119, 8, none⟩ = some (.slice A0_8 l0_8.length c0_8) := (blk_cell BK119.out 8).trans rfl
             have hfz105_0 := blk_frozen BK119.out 0
             have hfz105_1 := blk_frozen BK119.out 1
             have hfz105_2 := blk_frozen BK119.out 2
             have hfz105_3 := blk_frozen BK119.out 3
             have hfz105_4 := blk_frozen BK119.out 4
             have hfz105_5 := blk_frozen BK119.out 5
             have hfz105_6 := blk_frozen BK119.out 6
             have hfz105_7 := blk_frozen BK119.out 7
             have hfz105_8 := blk_frozen BK119.out 8
             go_wp2
             go_meet
             case rel => exact ⟨_, (true), rs, H', ⟨by have := HJ2.out; have := HJ29.out; first | omega | exact Nat.le_refl _⟩, ⟨bk BK119.out⟩, ⟨bws HB.out⟩⟩
            · as_aux_lemma =>
             by_cases c106 : (Go.bits .and .i64 t120 16) = 0
             ·
              rw [if_pos c106] at H
              have c106b0 := beq_iff_eq.mpr c106
              have c106b1 := bne_eq_false_iff_eq.mpr c106
              clear c106
              have H' := am H
              clear H
              have hcz107_0 : wc.cell? ⟨gb119, 0, none⟩ = some (.int .i64 a0_0) := (blk_cell BK119.out 0).trans rfl
              have hcz107_1 : wc.cell? ⟨gb119, 1, none⟩ = some (.string a0_1) := (blk_cell BK119.out 1).trans rfl
              have hcz107_2 : wc.cell? ⟨gb119, 2, none⟩ = some (.string a0_2) := (blk_cell BK119.out 2).trans rfl
              have hcz107_3 : wc.cell? ⟨gb119, 3, none⟩ = some (.string a0_3) := (blk_cell BK119.out 3).trans rfl
              have hcz107_4 : wc.cell? ⟨gb119, 4, none⟩ = some (.int .i64 a0_4) := (blk_cell BK119.out 4).trans rfl
              have hcz107_5 : wc.cell? ⟨gb119, 5, none⟩ = some (.int .i64 a0_5) := (blk_cell BK119.out 5).trans rfl
              have hcz107_6 : wc.cell? ⟨gb119, 6, none⟩ = some (.string a0_6) := (blk_cell BK119.out 6).trans rfl
              have hcz107_7 : wc.cell? ⟨gb119, 7, none⟩ = some (.slice A0_7 l0_7.length c0_7) := (blk_cell BK119.out 7).trans rfl
              have hcz107_8 : wc.cell? ⟨gb119, 8, none⟩ = some (.slice A0_8 l0_8.length c0_8) := (blk_cell BK119.out 8).trans rfl
              have hfz107_0 := blk_frozen BK119.out 0
              have hfz107_1 := blk_frozen BK119.out 1
              have hfz107_2 := blk_frozen BK119.out 2
              have hfz107_3 := blk_frozen BK119.out 3
              have hfz107_4 := blk_frozen BK119.out 4
              have hfz107_5 := blk_frozen BK119.out 5
              have hfz107_6 := blk_frozen BK119.out 6
              have hfz107_7 := blk_frozen BK119.out 7
              have hfz107_8 := blk_frozen BK119.out 8
              go_wp2
              go_meet
              case rel => exact ⟨_, (decide ((l0_8.length : Int) > 100)), rs, H', ⟨by have := HJ2.out; have := HJ29.out; first | omega | exact Nat.le_refl _⟩, ⟨bk BK119.out⟩, ⟨bws HB.out⟩⟩
             · as_aux_lemma =>
              rw [if_neg c106] at H
              have c106b0 := beq_eq_false_iff_ne.mpr c106
              have c106b1 := bne_iff_ne.mpr c106
              by_cases c108 : a0_5 = 0
              ·
               rw [if_pos c108] at H
               have c108b0 := beq_iff_eq.mpr c108
               have c108b1 := bne_eq_false_iff_eq.mpr c108
               clear c108
               have H' := am H
               clear H
               have hcz109_0 : wc.cell? ⟨gb119, 0, none⟩ = some (.int .i64 a0_0) := (blk_cell BK119.out 0).trans rfl
               have hcz109_1 : wc.cell? ⟨gb119, 1, none⟩ = some (.string a0_1) := (blk_cell BK119.out 1).trans rfl
               have hcz109_2 : wc.cell? ⟨gb119, 2, none⟩ = some (.string a0_2) := (blk_cell BK119.out 2).trans rfl
               have hcz109_3 : wc.cell? ⟨gb119, 3, none⟩ = some (.string a0_3) := (blk_cell BK119.out 3).trans rfl
               have hcz109_4 : wc.cell? ⟨gb119, 4, none⟩ = some (.int .i64 a0_4) := (blk_cell BK119.out 4).trans rfl
               have hcz109_5 : wc.cell? ⟨gb119, 5, none⟩ = some (.int .i64 a0_5) := (blk_cell BK119.out 5).trans rfl
               have hcz109_6 : wc.cell? ⟨gb119, 6, none⟩ = some (.string a0_6) := (blk_cell BK119.out 6).trans rfl
               have hcz109_7 : wc.cell? ⟨gb119, 7, none⟩ = some (.slice A0_7 l0_7.length c0_7) := (blk_cell BK119.out 7).trans rfl
               have hcz109_8 : wc.cell? ⟨gb119, 8, none⟩ = some (.slice A0_8 l0_8.length c0_8) := (blk_cell BK119.out 8).trans rfl
               have hfz109_0 := blk_frozen BK119.out 0
               have hfz109_1 := blk_frozen BK119.out 1
               have hfz109_2 := blk_frozen BK119.out 2
               have hfz109_3 := blk_frozen BK119.out 3
               have hfz109_4 := blk_frozen BK119.out 4
               have hfz109_5 := blk_frozen BK119.out 5
               have hfz109_6 := blk_frozen BK119.out 6
               have hfz109_7 := blk_frozen BK119.out 7
               have hfz109_8 := blk_frozen BK119.out 8
               go_wp2
               go_meet
               case rel => exact ⟨_, (true), rs, H', ⟨by have := HJ2.out; have := HJ29.out; first | omega | exact Nat.le_refl _⟩, ⟨bk BK119.out⟩, ⟨bws HB.out⟩⟩
              ·
               rw [if_neg c108] at H
               have c108b0 := beq_eq_false_iff_ne.mpr c108
               have c108b1 := bne_iff_ne.mpr c108
               have H' := am H
               clear H
               have hcz110_0 : wc.cell? ⟨gb119, 0, none⟩ = some (.int .i64 a0_0) := (blk_cell BK119.out 0).trans rfl
               have hcz110_1 : wc.cell? ⟨gb119, 1, none⟩ = some (.string a0_1) := (blk_cell BK119.out 1).trans rfl
               have hcz110_2 : wc.cell? ⟨gb119, 2, none⟩ = some (.string a0_2) := (blk_cell BK119.out 2).trans rfl
               have hcz110_3 : wc.cell? ⟨gb119, 3, none⟩ = some (.string a0_3) := (blk_cell BK119.out 3).trans rfl
               have hcz110_4 : wc.cell? ⟨gb119, 4, none⟩ = some (.int .i64 a0_4) := (blk_cell BK119.out 4).trans rfl
               have hcz110_5 : wc.cell? ⟨gb119, 5, none⟩ = some (.int .i64 a0_5) := (blk_cell BK119.out 5).trans rfl
               have hcz110_6 : wc.cell? ⟨gb119, 6, none⟩ = some (.string a0_6) := (blk_cell BK119.out 6).trans rfl
               have hcz110_7 : wc.cell? ⟨gb119, 7, none⟩ = some (.slice A0_7 l0_7.length c0_7) := (blk_cell BK119.out 7).trans rfl
               have hcz110_8 : wc.cell? ⟨gb119, 8, none⟩ = some (.slice A0_8 l0_8.length c0_8) := (blk_cell BK119.out 8).trans rfl
               have hfz110_0 := blk_frozen BK119.out 0
               have hfz110_1 := blk_frozen BK119.out 1
               have hfz110_2 := blk_frozen BK119.out 2
               have hfz110_3 := blk_frozen BK119.out 3
               have hfz110_4 := blk_frozen BK119.out 4
               have hfz110_5 := blk_frozen BK119.out 5
               have hfz110_6 := blk_frozen BK119.out 6
               have hfz110_7 := blk_frozen BK119.out 7
               have hfz110_8 := blk_frozen BK119.out 8
               go_wp2
               go_meet
               case rel => exact ⟨_, (decide ((l0_8.length : Int) > 100)), rs, H', ⟨by have := HJ2.out; have := HJ29.out; first | omega | exact Nat.le_refl _⟩, ⟨bk BK119.out⟩, ⟨bws HB.out⟩⟩
          · as_aux_lemma =>
           rw [if_neg c101] at H
           have c101b0 := beq_eq_false_iff_ne.mpr c101
           have c101b1 := bne_iff_ne.mpr c101
           by_cases c111 : a0_4 = 0
           · as_aux_lemma =>
            rw [if_pos c111] at H
            have c111b0 := beq_iff_eq.mpr c111
            have c111b1 := bne_eq_false_iff_eq.mpr c111
            clear c111
            by_cases c112 : a0_0 = 10
            · as_aux_lemma =>
             rw [if_pos c112] at H
             have c112b0 := beq_iff_eq.mpr c112
             have c112b1 := bne_eq_false_iff_eq.mpr c112
             clear c112
             replace H := iteD H
             rcases H with ⟨c113b0, H⟩ | ⟨c113b0, H⟩
             ·
              have H' := am H
              clear H
              have hcz114_0 : wc.cell? ⟨gb119, 0, none⟩ = some (.int .i64 a0_0) := (blk_cell BK119.out 0).trans rfl
              have hcz114_1 : wc.cell? ⟨gb119, 1, none⟩ = some (.string a0_1) := (blk_cell BK119.out 1).trans rfl
              have hcz114_2 : wc.cell? ⟨gb119, 2, none⟩ = some (.string a0_2) := (blk_cell BK119.out 2).trans rfl
              have hcz114_3 : wc.cell? ⟨gb119, 3, none⟩ = some (.string a0_3) := (blk_cell BK119.out 3).trans rfl
              have hcz114_4 : wc.cell? ⟨gb119, 4, none⟩ = some (.int .i64 a0_4) := (blk_cell BK119.out 4).trans rfl
              have hcz114_5 : wc.cell? ⟨gb119, 5, none⟩ = some (.int .i64 a0_5) := (blk_cell BK119.out 5).trans rfl
              have hcz114_6 : wc.cell? ⟨gb119, 6, none⟩ = some (.string a0_6) := (blk_cell BK119.out 6).trans rfl
              have hcz114_7 : wc.cell? ⟨gb119, 7, none⟩ = some (.slice A0_7 l0_7.length c0_7) := (blk_cell BK119.out 7).trans rfl
              have hcz114_8 : wc.cell? ⟨gb119, 8, none⟩ = some (.slice A0_8 l0_8.length c0_8) := (blk_cell BK119.out 8).trans rfl
              have hfz114_0 := blk_frozen BK119.out 0
              have hfz114_1 := blk_frozen BK119.out 1
              have hfz114_2 := blk_frozen BK119.out 2
              have hfz114_3 := blk_frozen BK119.out 3
              have hfz114_4 := blk_frozen BK119.out 4
              have hfz114_5 := blk_frozen BK119.out 5
              have hfz114_6 := blk_frozen BK119.out 6
              have hfz114_7 := blk_frozen BK119.out 7
              have hfz114_8 := blk_frozen BK119.out 8
              go_wp2
              go_meet
              case rel => exact ⟨_, (true), rs, H', ⟨by have := HJ2.out; have := HJ29.out; first | omega | exact Nat.le_refl _⟩, ⟨bk BK119.out⟩, ⟨bws HB.out⟩⟩
             · as_aux_lemma =>
              replace H := iteD H
              rcases H with ⟨c115b0, H⟩ | ⟨c115b0, H⟩
              ·
               have H' := am H
               clear H
               have hcz116_0 : wc.cell? ⟨gb119, 0, none⟩ = some (.int .i64 a0_0) := (blk_cell BK119.out 0).trans rfl
               have hcz116_1 : wc.cell? ⟨gb119, 1, none⟩ = some (.string a0_1) := (blk_cell BK119.out 1).trans rfl
               have hcz116_2 : wc.cell? ⟨gb119, 2, none⟩ = some (.string a0_2) := (blk_cell BK119.out 2).trans rfl
               have hcz116_3 : wc.cell? ⟨gb119, 3, none⟩ = some (.string a0_3) := (blk_cell BK119.out 3).trans rfl
               have hcz116_4 : wc.cell? ⟨gb119, 4, none⟩ = some (.int .i64 a0_4) := (blk_cell BK119.out 4).trans rfl
               have hcz116_5 : wc.cell? ⟨gb119, 5, none⟩ = some (.int .i64 a0_5) := (blk_cell BK119.out 5).trans rfl
               have hcz116_6 : wc.cell? ⟨gb119, 6, none⟩ = some (.string a0_6) := (blk_cell BK119.out 6).trans rfl
               have hcz116_7 : wc.cell? ⟨gb119, 7, none⟩ = some (.slice A0_7 l0_7.length c0_7) := (blk_cell BK119.out 7).trans rfl
               have hcz116_8 : wc.cell? ⟨gb119, 8, none⟩ = some (.slice A0_8 l0_8.length c0_8) := (blk_cell BK119.out 8).trans rfl
               have hfz116_0 := blk_frozen BK119.out 0
               have hfz116_1 := blk_frozen BK119.out 1
               have hfz116_2 := blk_frozen BK119.out 2
               have hfz116_3 := blk_frozen BK119.out 3
               have hfz116_4 := blk_frozen BK119.out 4
               have hfz116_5 := blk_frozen BK119.out 5
               have hfz116_6 := blk_frozen BK119.out 6
               have hfz116_7 := blk_frozen BK119.out 7
               have hfz116_8 := blk_frozen BK119.out 8
               go_wp2
               go_meet
               case rel => exact ⟨_, (true), rs, H', ⟨by have := HJ2.out; have := HJ29.out; first | omega | exact Nat.le_refl _⟩, ⟨bk BK119.out⟩, ⟨bws HB.out⟩⟩
              · as_aux_lemma =>
               by_cases c117 : (Go.bits .and .i64 t120 16) = 0
               ·
                rw [if_pos c117] at H
                have c117b0 := beq_iff_eq.mpr c117
                have c117b1 := bne_eq_false_iff_eq.mpr c117
                clear c117
                have H' := am H
                clear H
                have hcz118_0 : wc.cell? ⟨gb119, 0, none⟩ = some (.int .i64 a0_0) := (blk_cell BK119.out 0).trans rfl
                have hcz118_1 : wc.cell? ⟨gb119, 1, none⟩ = some (.string a0_1) := (blk_cell BK119.out 1).trans rfl
                have hcz118_2 : wc.cell? ⟨gb119, 2, none⟩ = some (.string a0_2) := (blk_cell BK119.out 2).trans rfl
                have hcz118_3 : wc.cell? ⟨gb119, 3, none⟩ = some (.string a0_3) := (blk_cell BK119.out 3).trans rfl
                have hcz118_4 : wc.cell? ⟨gb119, 4, none⟩ = some (.int .i64 a0_4) := (blk_cell BK119.out 4).trans rfl
                have hcz118_5 : wc.cell? ⟨gb119, 5, none⟩ = some (.int .i64 a0_5) := (blk_cell BK119.out 5).trans rfl
                have hcz118_6 : wc.cell? ⟨gb119, 6, none⟩ = some (.string a0_6) := (blk_cell BK119.out 6).trans rfl
                have hcz118_7 : wc.cell? ⟨gb119, 7, none⟩ = some (.slice A0_7 l0_7.length c0_7) := (blk_cell BK119.out 7).trans rfl
                have hcz118_8 : wc.cell? ⟨gb119, 8, none⟩ = some (.slice A0_8 l0_8.length c0_8) := (blk_cell BK119.out 8).trans rfl
                have hfz118_0 := blk_frozen BK119.out 0
                have hfz118_1 := blk_frozen BK119.out 1
                have hfz118_2 := blk_frozen BK119.out 2
                have hfz118_3 := blk_frozen BK119.out 3
                have hfz118_4 := blk_frozen BK119.out 4
                have hfz118_5 := blk_frozen BK119.out 5
                have hfz118_6 := blk_frozen BK119.out 6
                have hfz118_7 := blk_frozen BK119.out 7
                have hfz118_8 := blk_frozen BK119.out 8
                go_wp2
                go_meet
                case rel => exact ⟨_, (decide ((l0_8.length : Int) > 100)), rs, H', ⟨by have := HJ2.out; have := HJ29.out; first | omega | exact Nat.le_refl _⟩, ⟨bk BK119.out⟩, ⟨bws HB.out⟩⟩
               · as_aux_lemma =>
                rw [if_neg c117] at H
                have c117b0 := beq_eq_false_iff_ne.mpr c117
                have c117b1 := bne_iff_ne.mpr c117
                by_cases c119 : a0_5 = 0
                ·
                 rw [if_pos c119] at H
                 have c119b0 := beq_iff_eq.mpr c119
                 have c119b1 := bne_eq_false_iff_eq.mpr c119
                 clear c119
                 have H' := am H
                 clear H
                 have hcz120_0 : wc.cell? ⟨gb119, 0, none⟩ = some (.int .i64 a0_0) := (blk_cell BK119.out 0).trans rfl
                 have hcz120_1 : wc.cell? ⟨gb119, 1, none⟩ = some (.string a0_1) := (blk_cell BK119.out 1).trans rfl
                 have hcz120_2 : wc.cell? ⟨gb119, 2, none⟩ = some (.string a0_2) := (blk_cell BK119.out 2).trans rfl
                 have hcz120_3 : wc.cell? ⟨gb119, 3, none⟩ = some (.string a0_3) := (blk_cell BK119.out 3).trans rfl
                 have hcz120_4 : wc.cell? ⟨gb119, 4, none⟩ = some (.int .i64 a0_4) := (blk_cell BK119.out 4).trans rfl
                 have hcz120_5 : wc.cell? ⟨gb119, 5, none⟩ = some (.int .i64 a0_5) := (blk_cell BK119.out 5).trans rfl
                 have hcz120_6 : wc.cell? ⟨gb119, 6, none⟩ = some (.string a0_6) := (blk_cell BK119.out 6).trans rfl
                 have hcz120_7 : wc.cell? ⟨gb119, 7, none⟩ = some (.slice A0_7 l0_7.length c0_7) := (blk_cell BK119.out 7).trans rfl
                 have hcz120_8 : wc.cell? ⟨gb119, 8, none⟩ = some (.slice A0_8 l0_8.length c0_8) := (blk_cell BK119.out 8).trans rfl
                 have hfz120_0 := blk_frozen BK119.out 0
                 have hfz120_1 := blk_frozen BK119.out 1
                 have hfz120_2 := blk_frozen BK119.out 2
                 have hfz120_3 := blk_frozen BK119.out 3
                 have hfz120_4 := blk_frozen BK119.out 4
                 have hfz120_5 := blk_frozen BK119.out 5
                 have hfz120_6 := blk_frozen BK119.out 6
                 have hfz120_7 := blk_frozen BK119.out 7
                 have hfz120_8 := blk_frozen BK119.out 8
                 go_wp2
                 go_meet
                 case rel => exact ⟨_, (true), rs, H', ⟨by have := HJ2.out; have := HJ29.out; first | omega | exact Nat.le_refl _⟩, ⟨bk BK119.out⟩, ⟨bws HB.out⟩⟩
                ·
                 rw [if_neg c119] at H
                 have c119b0 := beq_eq_false_iff_ne.mpr c119
                 have c119b1 := bne_iff_ne.mpr c119
                 have H' := am H
                 clear H
                 have hcz121_0 : wc.cell? ⟨gb119, 0, none⟩ = some (.int .i64 a0_0) := (blk_cell BK119.out 0).trans rfl
                 have hcz121_1 : wc.cell? ⟨gb119, 1, none⟩ = some (.string a0_1) := (blk_cell BK119.out 1).trans rfl
                 have hcz121_2 : wc.cell? ⟨gb119, 2, none⟩ = some (.string a0_2) := (blk_cell BK119.out 2).trans rfl
                 have hcz121_3 : wc.cell? ⟨gb119, 3, none⟩ = some (.string a0_3) := (blk_cell BK119.out 3).trans rfl
                 have hcz121_4 : wc.cell? ⟨gb119, 4, none⟩ = some (.int .i64 a0_4) := (blk_cell BK119.out 4).trans rfl
                 have hcz121_5 : wc.cell? ⟨gb119, 5, none⟩ = some (.int .i64 a0_5) := (blk_cell BK119.out 5).trans rfl
                 have hcz121_6 : wc.cell? ⟨gb119, 6, none⟩ = some (.string a0_6) := (blk_cell BK119.out 6).trans rfl
                 have hcz121_7 : wc.cell? ⟨gb119, 7, none⟩ = some (.slice A0_7 l0_7.length c0_7) := (blk_cell BK119.out 7).trans rfl
                 have hcz121_8 : wc.cell? ⟨gb119, 8, none⟩ = some (.slice A0_8 l0_8.length c0_8) := (blk_cell BK119.out 8).trans rfl
                 have hfz121_0 := blk_frozen BK119.out 0
                 have hfz121_1 := blk_frozen BK119.out 1
                 have hfz121_2 := blk_frozen BK119.out 2
                 have hfz121_3 := blk_frozen BK119.out 3
                 have hfz121_4 := blk_frozen BK119.out 4
                 have hfz121_5 := blk_frozen BK119.out 5
                 have hfz121_6 := blk_frozen BK119.out 6
                 have hfz121_7 := blk_frozen BK119.out 7
                 have hfz121_8 := blk_frozen BK119.out 8
                 go_wp2
                 go_meet
                 case rel => exact ⟨_, (decide ((l0_8.length : Int) > 100)), rs, H', ⟨by have := HJ2.out; have := HJ29.out; first | omega | exact Nat.le_refl _⟩, ⟨bk BK119.out⟩, ⟨bws HB.out⟩⟩
            ·
             rw [if_neg c112] at H
             have c112b0 := beq_eq_false_iff_ne.mpr c112
             have c112b1 := bne_iff_ne.mpr c112
             have H' := am H
             clear H
             have hcz122_0 : wc.cell? ⟨gb119, 0, none⟩ = some (.int .i64 a0_0) := (blk_cell BK119.out 0).trans rfl
             have hcz122_1 : wc.cell? ⟨gb119, 1, none⟩ = some (.string a0_1) := (blk_cell BK119.out 1).trans rfl
             have hcz122_2 : wc.cell? ⟨gb119, 2, none⟩ = some (.string a0_2) := (blk_cell BK119.out 2).trans rfl
             have hcz122_3 : wc.cell? ⟨gb119, 3, none⟩ = some (.string a0_3) := (blk_cell BK119.out 3).trans rfl
             have hcz122_4 : wc.cell? ⟨gb119, 4, none⟩ = some (.int .i64 a0_4) := (blk_cell BK119.out 4).trans rfl
             have hcz122_5 : wc.cell? ⟨gb119, 5, none⟩ = some (.int .i64 a0_5) := (blk_cell BK119.out 5).trans rfl
             have hcz122_6 : wc.cell? ⟨gb119, 6, none⟩ = some (.string a0_6) := (blk_cell BK119.out 6).trans rfl
             have hcz122_7 : wc.cell? ⟨gb119, 7, none⟩ = some (.slice A0_7 l0_7.length c0_7) := (blk_cell BK119.out 7).trans rfl
             have hcz122_8 : wc.cell? ⟨gb119, 8, none⟩ = some (.slice A0_8 l0_8.length c0_8) := (blk_cell BK119.out 8).trans rfl
             have hfz122_0 := blk_frozen BK119.out 0
             have hfz122_1 := blk_frozen BK119.out 1
             have hfz122_2 := blk_frozen BK119.out 2
             have hfz122_3 := blk_frozen BK119.out 3
             have hfz122_4 := blk_frozen BK119.out 4
             have hfz122_5 := blk_frozen BK119.out 5
             have hfz122_6 := blk_frozen BK119.out 6
             have hfz122_7 := blk_frozen BK119.out 7
             have hfz122_8 := blk_frozen BK119.out 8
             go_wp2
             go_meet
             case rel => exact ⟨_, (true), rs, H', ⟨by have := HJ2.out; have := HJ29.out; first | omega | exact Nat.le_refl _⟩, ⟨bk BK119.out⟩, ⟨bws HB.out⟩⟩
           · as_aux_lemma =>
            rw [if_neg c111] at H
            have c111b0 := beq_eq_false_iff_ne.mpr c111
            have c111b1 := bne_iff_ne.mpr c111
            replace H := iteD H
            rcases H with ⟨c123b0, H⟩ | ⟨c123b0, H⟩
            ·
             have H' := am H
             clear H
             have hcz124_0 : wc.cell? ⟨gb119, 0, none⟩ = some (.int .i64 a0_0) := (blk_cell BK119.out 0).trans rfl
             have hcz124_1 : wc.cell? ⟨gb119, 1, none⟩ = some (.string a0_1) := (blk_cell BK119.out 1).trans rfl
             have hcz124_2 : wc.cell? ⟨gb119, 2, none⟩ = some (.string a0_2) := (blk_cell BK119.out 2).trans rfl
             have hcz124_3 : wc.cell? ⟨gb119, 3, none⟩ = some (.string a0_3) := (blk_cell BK119.out 3).trans rfl
             have hcz124_4 : wc.cell? ⟨gb119, 4, none⟩ = some (.int .i64 a0_4) := (blk_cell BK119.out 4).trans rfl
             have hcz124_5 : wc.cell? ⟨gb119, 5, none⟩ = some (.int .i64 a0_5) := (blk_cell BK119.out 5).trans rfl
             have hcz124_6 : wc.cell? ⟨gb119, 6, none⟩ = some (.string a0_6) := (blk_cell BK119.out 6).trans rfl
             have hcz124_7 : wc.cell? ⟨gb119, 7, none⟩ = some (.slice A0_7 l0_7.length c0_7) := (blk_cell BK119.out 7).trans rfl
             have hcz124_8 : wc.cell? ⟨gb119, 8, none⟩ = some (.slice A0_8 l0_8.length c0_8) := (blk_cell BK119.out 8).trans rfl
             have hfz124_0 := blk_frozen BK119.out 0
             have hfz124_1 := blk_frozen BK119.out 1
             have hfz124_2 := blk_frozen BK119.out 2
             have hfz124_3 := blk_frozen BK119.out 3
             have hfz124_4 := blk_frozen BK119.out 4
             have hfz124_5 := blk_frozen BK119.out 5
             have hfz124_6 := blk_frozen BK119.out 6
             have hfz124_7 := blk_frozen BK119.out 7
             have hfz124_8 := blk_frozen BK119.out 8
             go_wp2
             go_meet
             case rel => exact ⟨_, (true), rs, H', ⟨by have := HJ2.out; have := HJ29.out; first | omega | exact Nat.le_refl _⟩, ⟨bk BK119.out⟩, ⟨bws HB.out⟩⟩
            · as_aux_lemma =>
             replace H := iteD H
             rcases H with ⟨c125b0, H⟩ | ⟨c125b0, H⟩
             ·
              have H' := am H
              clear H
              have hcz126_0 : wc.cell? ⟨gb119, 0, none⟩ = some (.int .i64 a0_0) := (blk_cell BK119.out 0).trans rfl
              have hcz126_1 : wc.cell? ⟨gb119, 1, none⟩ = some (.string a0_1) := (blk_cell BK119.out 1).trans rfl
              have hcz126_2 : wc.cell? ⟨gb119, 2, none⟩ = some (.string a0_2) := (blk_cell BK119.out 2).trans rfl
              have hcz126_3 : wc.cell? ⟨gb119, 3, none⟩ = some (.string a0_3) := (blk_cell BK119.out 3).trans rfl
              have hcz126_4 : wc.cell? ⟨gb119, 4, none⟩ = some (.int .i64 a0_4) := (blk_cell BK119.out 4).trans rfl
              have hcz126_5 : wc.cell? ⟨gb119, 5, none⟩ = some (.int .i64 a0_5) := (blk_cell BK119.out 5).trans rfl
              have hcz126_6 : wc.cell? ⟨gb119, 6, none⟩ = some (.string a0_6) := (blk_cell BK119.out 6).trans rfl
              have hcz126_7 : wc.cell? ⟨gb119, 7, none⟩ = some (.slice A0_7 l0_7.length c0_7) := (blk_cell BK119.out 7).trans rfl
              have hcz126_8 : wc.cell? ⟨gb119, 8, none⟩ = some (.slice A0_8 l0_8.length c0_8) := (blk_cell BK119.out 8).trans rfl
              have hfz126_0 := blk_frozen BK119.out 0
              have hfz126_1 := blk_frozen BK119.out 1
              have hfz126_2 := blk_frozen BK119.out 2
              have hfz126_3 := blk_frozen BK119.out 3
              have hfz126_4 := blk_frozen BK119.out 4
              have hfz126_5 := blk_frozen BK119.out 5
              have hfz126_6 := blk_frozen BK119.out 6
              have hfz126_7 := blk_frozen BK119.out 7
              have hfz126_8 := blk_frozen BK119.out 8
              go_wp2
              go_meet
              case rel => exact ⟨_, (true), rs, H', ⟨by have := HJ2.out; have := HJ29.out; first | omega | exact Nat.le_refl _⟩, ⟨bk BK119.out⟩, ⟨bws HB.out⟩⟩
             · as_aux_lemma =>
              by_cases c127 : (Go.bits .and .i64 t120 16) = 0
              ·
               rw [if_pos c127] at H
               have c127b0 := beq_iff_eq.mpr c127
               have c127b1 := bne_eq_false_iff_eq.mpr c127
               clear c127
               have H' := am H
               clear H
               have hcz128_0 : wc.cell? ⟨gb119, 0, none⟩ = some (.int .i64 a0_0) := (blk_cell BK119.out 0).trans rfl
               have hcz128_1 : wc.cell? ⟨gb119, 1, none⟩ = some (.string a0_1) := (blk_cell BK119.out 1).trans rfl
               have hcz128_2 : wc.cell? ⟨gb119, 2, none⟩ = some (.string a0_2) := (blk_cell BK119.out 2).trans rfl
               have hcz128_3 : wc.cell? ⟨gb119, 3, none⟩ = some (.string a0_3) := (blk_cell BK119.out 3).trans rfl
               have hcz128_4 : wc.cell? ⟨gb119, 4, none⟩ = some (.int .i64 a0_4) := (blk_cell BK119.out 4).trans rfl
               have hcz128_5 : wc.cell? ⟨gb119, 5, none⟩ = some (.int .i64 a0_5) := (blk_cell BK119.out 5).trans rfl
               have hcz128_6 : wc.cell? ⟨gb119, 6, none⟩ = some (.string a0_6) := (blk_cell BK119.out 6).trans rfl
               have hcz128_7 : wc.cell? ⟨gb119, 7, none⟩ = some (.slice A0_7 l0_7.length c0_7) := (blk_cell BK119.out 7).trans rfl
               have hcz128_8 : wc.cell? ⟨gb119, 8, none⟩ = some (.slice A0_8 l0_8.length c0_8) := (blk_cell BK119.out 8).trans rfl
               have hfz128_0 := blk_frozen BK119.out 0
               have hfz128_1 := blk_frozen BK119.out 1
               have hfz128_2 := blk_frozen BK119.out 2
               have hfz128_3 := blk_frozen BK119.out 3
               have hfz128_4 := blk_frozen BK119.out 4
               have hfz128_5 := blk_frozen BK119.out 5
               have hfz128_6 := blk_frozen BK119.out 6
               have hfz128_7 := blk_frozen BK119.out 7
               have hfz128_8 := blk_frozen BK119.out 8
               go_wp2
               go_meet
               case rel => exact ⟨_, (decide ((l0_8.length : Int) > 100)), rs, H', ⟨by have := HJ2.out; have := HJ29.out; first | omega | exact Nat.le_refl _⟩, ⟨bk BK119.out⟩, ⟨bws HB.out⟩⟩
              · as_aux_lemma =>
               rw [if_neg c127] at H
               have c127b0 := beq_eq_false_iff_ne.mpr c127
               have c127b1 := bne_iff_ne.mpr c127
               by_cases c129 : a0_5 = 0
               ·
                rw [if_pos c129] at H
                have c129b0 := beq_iff_eq.mpr c129
                have c129b1 := bne_eq_false_iff_eq.mpr c129
                clear c129
                have H' := am H
                clear H
                have hcz130_0 : wc.cell? ⟨gb119, 0, none⟩ = some (.int .i64 a0_0) := (blk_cell BK119.out 0).trans rfl
                have hcz130_1 : wc.cell? ⟨gb119, 1, none⟩ = some (.string a0_1) := (blk_cell BK119.out 1).trans rfl
                have hcz130_2 : wc.cell? ⟨gb119, 2, none⟩ = some (.string a0_2) := (blk_cell BK119.out 2).trans rfl
                have hcz130_3 : wc.cell? ⟨gb119, 3, none⟩ = some (.string a0_3) := (blk_cell BK119.out 3).trans rfl
                have hcz130_4 : wc.cell? ⟨gb119, 4, none⟩ = some (.int .i64 a0_4) := (blk_cell BK119.out 4).trans rfl
                have hcz130_5 : wc.cell? ⟨gb119, 5, none⟩ = some (.int .i64 a0_5) := (blk_cell BK119.out 5).trans rfl
                have hcz130_6 : wc.cell? ⟨gb119, 6, none⟩ = some (.string a0_6) := (blk_cell BK119.out 6).trans rfl
                have hcz130_7 : wc.cell? ⟨gb119, 7, none⟩ = some (.slice A0_7 l0_7.length c0_7) := (blk_cell BK119.out 7).trans rfl
                have hcz130_8 : wc.cell? ⟨gb119, 8, none⟩ = some (.slice A0_8 l0_8.length c0_8) := (blk_cell BK119.out 8).trans rfl
                have hfz130_0 := blk_frozen BK119.out 0
                have hfz130_1 := blk_frozen BK119.out 1
                have hfz130_2 := blk_frozen BK119.out 2
                have hfz130_3 := blk_frozen BK119.out 3
                have hfz130_4 := blk_frozen BK119.out 4
                have hfz130_5 := blk_frozen BK119.out 5
                have hfz130_6 := blk_frozen BK119.out 6
                have hfz130_7 := blk_frozen BK119.out 7
                have hfz130_8 := blk_frozen BK119.out 8
                go_wp2
                go_meet
                case rel => exact ⟨_, (true), rs, H', ⟨by have := HJ2.out; have := HJ29.out; first | omega | exact Nat.le_refl _⟩, ⟨bk BK119.out⟩, ⟨bws HB.out⟩⟩
               ·
                rw [if_neg c129] at H
                have c129b0 := beq_eq_false_iff_ne.mpr c129
                have c129b1 := bne_iff_ne.mpr c129
                have H' := am H
                clear H
                have hcz131_0 : wc.cell? ⟨gb119, 0, none⟩ = some (.int .i64 a0_0) := (blk_cell BK119.out 0).trans rfl
                have hcz131_1 : wc.cell? ⟨gb119, 1, none⟩ = some (.string a0_1) := (blk_cell BK119.out 1).trans rfl
                have hcz131_2 : wc.cell? ⟨gb119, 2, none⟩ = some (.string a0_2) := (blk_cell BK119.out 2).trans rfl
                have hcz131_3 : wc.cell? ⟨gb119, 3, none⟩ = some (.string a0_3) := (blk_cell BK119.out 3).trans rfl
                have hcz131_4 : wc.cell? ⟨gb119, 4, none⟩ = some (.int .i64 a0_4) := (blk_cell BK119.out 4).trans rfl
                have hcz131_5 : wc.cell? ⟨gb119, 5, none⟩ = some (.int .i64 a0_5) := (blk_cell BK119.out 5).trans rfl
                have hcz131_6 : wc.cell? ⟨gb119, 6, none⟩ = some (.string a0_6) := (blk_cell BK119.out 6).trans rfl
                have hcz131_7 : wc.cell? ⟨gb119, 7, none⟩ = some (.slice A0_7 l0_7.length c0_7) := (blk_cell BK119.out 7).trans rfl
                have hcz131_8 : wc.cell? ⟨gb119, 8, none⟩ = some (.slice A0_8 l0_8.length c0_8) := (blk_cell BK119.out 8).trans rfl
                have hfz131_0 := blk_frozen BK119.out 0
                have hfz131_1 := blk_frozen BK119.out 1
                have hfz131_2 := blk_frozen BK119.out 2
                have hfz131_3 := blk_frozen BK119.out 3
                have hfz131_4 := blk_frozen BK119.out 4
                have hfz131_5 := blk_frozen BK119.out 5
                have hfz131_6 := blk_frozen BK119.out 6
                have hfz131_7 := blk_frozen BK119.out 7
                have hfz131_8 := blk_frozen BK119.out 8
                go_wp2
                go_meet
                case rel => exact ⟨_, (decide ((l0_8.length : Int) > 100)), rs, H', ⟨by have := HJ2.out; have := HJ29.out; first | omega | exact Nat.le_refl _⟩, ⟨bk BK119.out⟩, ⟨bws HB.out⟩⟩
      case rest => as_aux_lemma =>
       clear HC95
       try clear c1
       try clear p2
       try clear c9
       try clear c10
       try clear c11
       try clear c12
       try clear c96
       try clear c97
       try clear c97b0
       try clear c99
       try clear c99b0
       try clear c101
       try clear c101b0
       try clear c101b1
       try clear c102
       try clear c102b0
       try clear c104
       try clear c104b0
       try clear c106
       try clear c106b0
       try clear c106b1
       try clear c108
       try clear c108b0
       try clear c108b1
       try clear c111
       try clear c111b0
       try clear c111b1
       try clear c112
       try clear c112b0
       try clear c112b1
       try clear c113
       try clear c113b0
       try clear c115
       try clear c115b0
       try clear c117
       try clear c117b0
       try clear c117b1
       try clear c119
       try clear c119b0
       try clear c119b1
       try clear c123
       try clear c123b0
       try clear c125
       try clear c125b0
       try clear c127
       try clear c127b0
       try clear c127b1
       try clear c129
       try clear c129b0
       try clear c129b1
       try clear hcz100_0
       try clear hcz100_1
       try clear hcz100_2
       try clear hcz100_3
       try clear hcz100_4
       try clear hcz100_5
       try clear hcz100_6
       try clear hcz100_7
       try clear hcz100_8
       try clear hcz103_0
       try clear hcz103_1
       try clear hcz103_2
       try clear hcz103_3
       try clear hcz103_4
       try clear hcz103_5
       try clear hcz103_6
       try clear hcz103_7
       try clear hcz103_8
       try clear hcz105_0
       try clear hcz105_1
       try clear hcz105_2
       try clear hcz105_3
       try clear hcz105_4
       try clear hcz105_5
       try clear hcz105_6
       try clear hcz105_7
       try clear hcz105_8
       try clear hcz107_0
       try clear hcz107_1
       try clear hcz107_2
       try clear hcz107_3
       try clear hcz107_4
       try clear hcz107_5
       try clear hcz107_6
       try clear hcz107_7
       try clear hcz107_8
       try clear hcz109_0
       try clear hcz109_1
       try clear hcz109_2
       try clear hcz109_3
       try clear hcz109_4
       try clear hcz109_5
       try clear hcz109_6
       try clear hcz109_7
       try clear hcz109_8
       try clear hcz110_0
       try clear hcz110_1
       try clear hcz110_2
       try clear hcz110_3
       try clear hcz110_4
       try clear hcz110_5
       try clear hcz110_6
       try clear hcz110_7
       try clear hcz110_8
       try clear hcz114_0
       try clear hcz114_1
       try clear hcz114_2
       try clear hcz114_3
       try clear hcz114_4
       try clear hcz114_5
       try clear hcz114_6
       try clear hcz114_7
       try clear hcz114_8
       try clear hcz116_0
       try clear hcz116_1
       try clear hcz116_2
       try clear hcz116_3
       try clear hcz116_4
       try clear hcz116_5
       try clear hcz116_6
       try clear hcz116_7
       try clear hcz116_8
       try clear hcz118_0
       try clear hcz118_1
       try clear hcz118_2
       try clear hcz118_3
       try clear hcz118_4
       try clear hcz118_5
       try clear hcz118_6
       try clear hcz118_7
       try clear hcz118_8
       try clear hcz120_0
       try clear hcz120_1
       try clear hcz120_2
       try clear hcz120_3
       try clear hcz120_4
       try clear hcz120_5
       try clear hcz120_6
       try clear hcz120_7
       try clear hcz120_8
       try clear hcz121_0
       try clear hcz121_1
       try clear hcz121_2
       try clear hcz121_3
       try clear hcz121_4
       try clear hcz121_5
       try clear hcz121_6
       try clear hcz121_7
       try clear hcz121_8
       try clear hcz122_0
       try clear hcz122_1
       try clear hcz122_2
       try clear hcz122_3
       try clear hcz122_4
       try clear hcz122_5
       try clear hcz122_6
       try clear hcz122_7
       try clear hcz122_8
       try clear hcz124_0
       try clear hcz124_1
       try clear hcz124_2
       try clear hcz124_3
       try clear hcz124_4
       try clear hcz124_5
       try clear hcz124_6
       try clear hcz124_7
       try clear hcz124_8
       try clear hcz126_0
       try clear hcz126_1
       try clear hcz126_2
       try clear hcz126_3
       try clear hcz126_4
       try clear hcz126_5
       try clear hcz126_6
       try clear hcz126_7
       try clear hcz126_8
       try clear hcz128_0
       try clear hcz128_1
       try clear hcz128_2
       try clear hcz128_3
       try clear hcz128_4
       try clear hcz128_5
       try clear hcz128_6
       try clear hcz128_7
       try clear hcz128_8
       try clear hcz130_0
       try clear hcz130_1
       try clear hcz130_2
       try clear hcz130_3
       try clear hcz130_4
       try clear hcz130_5
       try clear hcz130_6
       try clear hcz130_7
       try clear hcz130_8
       try clear hcz131_0
       try clear hcz131_1
       try clear hcz131_2
       try clear hcz131_3
       try clear hcz131_4
       try clear hcz131_5
       try clear hcz131_6
       try clear hcz131_7
       try clear hcz131_8
       try clear hcz98_0
       try clear hcz98_1
       try clear hcz98_2
       try clear hcz98_3
       try clear hcz98_4
       try clear hcz98_5
       try clear hcz98_6
       try clear hcz98_7
       try clear hcz98_8
       try clear hfz100_0
       try clear hfz100_1
       try clear hfz100_2
       try clear hfz100_3
       try clear hfz100_4
       try clear hfz100_5
       try clear hfz100_6
       try clear hfz100_7
       try clear hfz100_8
       try clear hfz103_0
       try clear hfz103_1
       try clear hfz103_2
       try clear hfz103_3
       try clear hfz103_4
       try clear hfz103_5
       try clear hfz103_6
       try clear hfz103_7
       try clear hfz103_8
       try clear hfz105_0
       try clear hfz105_1
       try clear hfz105_2
       try clear hfz105_3
       try clear hfz105_4
       try clear hfz105_5
       try clear hfz105_6
       try clear hfz105_7
       try clear hfz105_8
       try clear hfz107_0
       try clear hfz107_1
       try clear hfz107_2
       try clear hfz107_3
       try clear hfz107_4
       try clear hfz107_5
       try clear hfz107_6
       try clear hfz107_7
       try clear hfz107_8
       try clear hfz109_0
       try clear hfz109_1
       try clear hfz109_2
       try clear hfz109_3
       try clear hfz109_4
       try clear hfz109_5
       try clear hfz109_6
       try clear hfz109_7
       try clear hfz109_8
       try clear hfz110_0
       try clear hfz110_1
       try clear hfz110_2
       try clear hfz110_3
       try clear hfz110_4
       try clear hfz110_5
       try clear hfz110_6
       try clear hfz110_7
       try clear hfz110_8
       try clear hfz114_0
       try clear hfz114_1
       try clear hfz114_2
       try clear hfz114_3
       try clear hfz114_4
       try clear hfz114_5
       try clear hfz114_6
       try clear hfz114_7
       try clear hfz114_8
       try clear hfz116_0
       try clear hfz116_1
       try clear hfz116_2
       try clear hfz116_3
       try clear hfz116_4
       try clear hfz116_5
       try clear hfz116_6
       try clear hfz116_7
       try clear hfz116_8
       try clear hfz118_0
       try clear hfz118_1
       try clear hfz118_2
       try clear hfz118_3
       try clear hfz118_4
       try clear hfz118_5
       try clear hfz118_6
       try clear hfz118_7
       try clear hfz118_8
       try clear hfz120_0
       try clear hfz120_1
       try clear hfz120_2
       try clear hfz120_3
       try clear hfz120_4
       try clear hfz120_5
       try clear hfz120_6
       try clear hfz120_7
       try clear hfz120_8
       try clear hfz121_0
       try clear hfz121_1
       try clear hfz121_2
       try clear hfz121_3
       try clear hfz121_4
       try clear hfz121_5
       try clear hfz121_6
       try clear hfz121_7
       try clear hfz121_8
       try clear hfz122_0
       try clear hfz122_1
       try clear hfz122_2
       try clear hfz122_3
       try clear hfz122_4
       try clear hfz122_5
       try clear hfz122_6
       try clear hfz122_7
       try clear hfz122_8
       try clear hfz124_0
       try clear hfz124_1
       try clear hfz124_2
       try clear hfz124_3
       try clear hfz124_4
       try clear hfz124_5
       try clear hfz124_6
       try clear hfz124_7
       try clear hfz124_8
       try clear hfz126_0
       try clear hfz126_1
       try clear hfz126_2
       try clear hfz126_3
       try clear hfz126_4
       try clear hfz126_5
       try clear hfz126_6
       try clear hfz126_7
       try clear hfz126_8
       try clear hfz128_0
       try clear hfz128_1
       try clear hfz128_2
       try clear hfz128_3
       try clear hfz128_4
       try clear hfz128_5
       try clear hfz128_6
       try clear hfz128_7
       try clear hfz128_8
       try clear hfz130_0
       try clear hfz130_1
       try clear hfz130_2
       try clear hfz130_3
       try clear hfz130_4
       try clear hfz130_5
       try clear hfz130_6
       try clear hfz130_7
       try clear hfz130_8
       try clear hfz131_0
       try clear hfz131_1
       try clear hfz131_2
       try clear hfz131_3
       try clear hfz131_4
       try clear hfz131_5
       try clear hfz131_6
       try clear hfz131_7
       try clear hfz131_8
       try clear hfz91_4
       try clear hfz91_5
       try clear hfz91_6
       try clear hfz91_7
       try clear hfz91_8
       try clear hfz93_0
       try clear hfz93_1
       try clear hfz93_2
       try clear hfz93_3
       try clear hfz93_4
       try clear hfz93_5
       try clear hfz93_6
       try clear hfz93_7
       try clear hfz93_8
       try clear hfz94_0
       try clear hfz94_1
       try clear hfz94_2
       try clear hfz94_3
       try clear hfz94_4
       try clear hfz94_5
       try clear hfz94_6
       try clear hfz94_7
       try clear hfz94_8
       try clear hfz98_0
       try clear hfz98_1
       try clear hfz98_2
       try clear hfz98_3
       try clear hfz98_4
       try clear hfz98_5
       try clear hfz98_6
       try clear hfz98_7
       try clear hfz98_8
       obtain ⟨kq, x6_94, rfl, HA, HJ94, BK119, HB⟩ := hcut
       cases kq with
       | zero => exact absurd HA.out (by simp [cmd_Check.j2])
       | succ kj94 =>
        have H := HA.out
        clear HA
        simp only [cmd_Check.j2] at H
        have H' := am H
        clear H
        have hcz132_0 : wc.cell? ⟨gb119, 0, none⟩ = some (.int .i64 a0_0) := (blk_cell BK119.out 0).trans rfl
        have hcz132_1 : wc.cell? ⟨gb119, 1, none⟩ = some (.string a0_1) := (blk_cell BK119.out 1).trans rfl
        have hcz132_2 : wc.cell? ⟨gb119, 2, none⟩ = some (.string a0_2) := (blk_cell BK119.out 2).trans rfl
        have hcz132_3 : wc.cell? ⟨gb119, 3, none⟩ = some (.string a0_3) := (blk_cell BK119.out 3).trans rfl
        have hcz132_4 : wc.cell? ⟨gb119, 4, none⟩ = some (.int .i64 a0_4) := (blk_cell BK119.out 4).trans rfl
        have hcz132_5 : wc.cell? ⟨gb119, 5, none⟩ = some (.int .i64 a0_5) := (blk_cell BK119.out 5).trans rfl
        have hcz132_6 : wc.cell? ⟨gb119, 6, none⟩ = some (.string a0_6) := (blk_cell BK119.out 6).trans rfl
        have hcz132_7 : wc.cell? ⟨gb119, 7, none⟩ = some (.slice A0_7 l0_7.length c0_7) := (blk_cell BK119.out 7).trans rfl
        have hcz132_8 : wc.cell? ⟨gb119, 8, none⟩ = some (.slice A0_8 l0_8.length c0_8) := (blk_cell BK119.out 8).trans rfl
        have hfz132_0 := blk_frozen BK119.out 0
        have hfz132_1 := blk_frozen BK119.out 1
        have hfz132_2 := blk_frozen BK119.out 2
        have hfz132_3 := blk_frozen BK119.out 3
        have hfz132_4 := blk_frozen BK119.out 4
        have hfz132_5 := blk_frozen BK119.out 5
        have hfz132_6 := blk_frozen BK119.out 6
        have hfz132_7 := blk_frozen BK119.out 7
        have hfz132_8 := blk_frozen BK119.out 8
        go_wp2
        go_loopg [6, 133] kj94 (fun kq v6 v133 w' => ∃ (x6_4 : Bool) (x133_4 : Int), v6 = .bool x6_4 ∧ v133 = .int .i64 x133_4 ∧ Aside0 (cmd_Check.l0 kq x6_4 l0_8 (l0_8.length : Int) x133_4 = some r) ∧ Aside0 (kq ≤ kj94) ∧ Aside0 (w'.heap[gb119]? = some (.cells #[.int .i64 a0_0, .string a0_1, .string a0_2, .string a0_3, .int .i64 a0_4, .int .i64 a0_5, .string a0_6, (.slice A0_7 l0_7.length c0_7), (.slice A0_8 l0_8.length c0_8)] 25 (0, 0))) ∧ Aside0 (Below w.heap.size w w'))
        case atStart => exact ⟨(x6_94), (0), rs, rs, H', ⟨Nat.le_refl _⟩, ⟨bk BK119.out⟩, ⟨bws HB.out⟩⟩
        case round => as_aux_lemma =>
         clear H'
         try clear c1
         try clear p2
         try clear c9
         try clear c10
         try clear c11
         try clear c12
         try clear c96
         try clear c97
         try clear c97b0
         try clear c99
         try clear c99b0
         try clear c101
         try clear c101b0
         try clear c101b1
         try clear c102
         try clear c102b0
         try clear c104
         try clear c104b0
         try clear c106
         try clear c106b0
         try clear c106b1
         try clear c108
         try clear c108b0
         try clear c108b1
         try clear c111
         try clear c111b0
         try clear c111b1
         try clear c112
         try clear c112b0
         try clear c112b1
         try clear c113
         try clear c113b0
         try clear c115
         try clear c115b0
         try clear c117
         try clear c117b0
         try clear c117b1
         try clear c119
         try clear c119b0
         try clear c119b1
         try clear c123
         try clear c123b0
         try clear c125
         try clear c125b0
         try clear c127
         try clear c127b0
         try clear c127b1
         try clear c129
         try clear c129b0
         try clear c129b1
         try clear hcz100_0
         try clear hcz100_1
         try clear hcz100_2
         try clear hcz100_3
         try clear hcz100_4
         try clear hcz100_5
         try clear hcz100_6
         try clear hcz100_7
         try clear hcz100_8
         try clear hcz103_0
         try clear hcz103_1
         try clear hcz103_2
         try clear hcz103_3
         try clear hcz103_4
         try clear hcz103_5
         try clear hcz103_6
         try clear hcz103_7
         try clear hcz103_8
         try clear hcz105_0
         try clear hcz105_1
         try clear hcz105_2
         try clear hcz105_3
         try clear hcz105_4
         try clear hcz105_5
         try clear hcz105_6
         try clear hcz105_7
         try clear hcz105_8
         try clear hcz107_0
         try clear hcz107_1
         try clear hcz107_2
         try clear hcz107_3
         try clear hcz107_4
         try clear hcz107_5
         try clear hcz107_6
         try clear hcz107_7
         try clear hcz107_8
         try clear hcz109_0
         try clear hcz109_1
         try clear hcz109_2
         try clear hcz109_3
         try clear hcz109_4
         try clear hcz109_5
         try clear hcz109_6
         try clear hcz109_7
         try clear hcz109_8
         try clear hcz110_0
         try clear hcz110_1
         try clear hcz110_2
         try clear hcz110_3
         try clear hcz110_4
         try clear hcz110_5
         try clear hcz110_6
         try clear hcz110_7
         try clear hcz110_8
         try clear hcz114_0
         try clear hcz114_1
         try clear hcz114_2
         try clear hcz114_3
         try clear hcz114_4
         try clear hcz114_5
         try clear hcz114_6
         try clear hcz114_7
         try clear hcz114_8
         try clear hcz116_0
         try clear hcz116_1
         try clear hcz116_2
         try clear hcz116_3
         try clear hcz116_4
         try clear hcz116_5
         try clear hcz116_6
         try clear hcz116_7
         try clear hcz116_8
         try clear hcz118_0
         try clear hcz118_1
         try clear hcz118_2
         try clear hcz118_3
         try clear hcz118_4
         try clear hcz118_5
         try clear hcz118_6
         try clear hcz118_7
         try clear hcz118_8
         try clear hcz120_0
         try clear hcz120_1
         try clear hcz120_2
         try clear hcz120_3
         try clear hcz120_4
         try clear hcz120_5
         try clear hcz120_6
         try clear hcz120_7
         try clear hcz120_8
         try clear hcz121_0
         try clear hcz121_1
         try clear hcz121_2
         try clear hcz121_3
         try clear hcz121_4
         try clear hcz121_5
         try clear hcz121_6
         try clear hcz121_7
         try clear hcz121_8
         try clear hcz122_0
         try clear hcz122_1
         try clear hcz122_2
         try clear hcz122_3
         try clear hcz122_4
         try clear hcz122_5
         try clear hcz122_6
         try clear hcz122_7
         try clear hcz122_8
         try clear hcz124_0
         try clear hcz124_1
         try clear hcz124_2
         try clear hcz124_3
         try clear hcz124_4
         try clear hcz124_5
         try clear hcz124_6
         try clear hcz124_7
         try clear hcz124_8
         try clear hcz126_0
         try clear hcz126_1
         try clear hcz126_2
         try clear hcz126_3
         try clear hcz126_4
         try clear hcz126_5
         try clear hcz126_6
         try clear hcz126_7
         try clear hcz126_8
         try clear hcz128_0
         try clear hcz128_1
         try clear hcz128_2
         try clear hcz128_3
         try clear hcz128_4
         try clear hcz128_5
         try clear hcz128_6
         try clear hcz128_7
         try clear hcz128_8
         try clear hcz130_0
         try clear hcz130_1
         try clear hcz130_2
         try clear hcz130_3
         try clear hcz130_4
         try clear hcz130_5
         try clear hcz130_6
         try clear hcz130_7
         try clear hcz130_8
         try clear hcz131_0
         try clear hcz131_1
         try clear hcz131_2
         try clear hcz131_3
         try clear hcz131_4
         try clear hcz131_5
         try clear hcz131_6
         try clear hcz131_7
         try clear hcz131_8
         try clear hcz132_0
         try clear hcz132_1
         try clear hcz132_2
         try clear hcz132_3
         try clear hcz132_4
         try clear hcz132_5
         try clear hcz132_6
         try clear hcz132_7
         try clear hcz132_8
         try clear hcz98_0
         try clear hcz98_1
         try clear hcz98_2
         try clear hcz98_3
         try clear hcz98_4
         try clear hcz98_5
         try clear hcz98_6
         try clear hcz98_7
         try clear hcz98_8
         try clear hfz100_0
         try clear hfz100_1
         try clear hfz100_2
         try clear hfz100_3
         try clear hfz100_4
         try clear hfz100_5
         try clear hfz100_6
         try clear hfz100_7
         try clear hfz100_8
         try clear hfz103_0
         try clear hfz103_1
         try clear hfz103_2
         try clear hfz103_3
         try clear hfz103_4
         try clear hfz103_5
         try clear hfz103_6
         try clear hfz103_7
         try clear hfz103_8
         try clear hfz105_0
         try clear hfz105_1
         try clear hfz105_2
         try clear hfz105_3
         try clear hfz105_4
         try clear hfz105_5
         try clear hfz105_6
         try clear hfz105_7
         try clear hfz105_8
         try clear hfz107_0
         try clear hfz107_1
         try clear hfz107_2
         try clear hfz107_3
         try clear hfz107_4
         try clear hfz107_5
         try clear hfz107_6
         try clear hfz107_7
         try clear hfz107_8
         try clear hfz109_0
         try clear hfz109_1
         try clear hfz109_2
         try clear hfz109_3
         try clear hfz109_4
         try clear hfz109_5
         try clear hfz109_6
         try clear hfz109_7
         try clear hfz109_8
         try clear hfz110_0
         try clear hfz110_1
         try clear hfz110_2
         try clear hfz110_3
         try clear hfz110_4
         try clear hfz110_5
         try clear hfz110_6
         try clear hfz110_7
         try clear hfz110_8
         try clear hfz114_0
         try clear hfz114_1
         try clear hfz114_2
         try clear hfz114_3
         try clear hfz114_4
         try clear hfz114_5
         try clear hfz114_6
         try clear hfz114_7
         try clear hfz114_8
         try clear hfz116_0
         try clear hfz116_1
         try clear hfz116_2
         try clear hfz116_3
         try clear hfz116_4
         try clear hfz116_5
         try clear hfz116_6
         try clear hfz116_7
         try clear hfz116_8
         try clear hfz118_0
         try clear hfz118_1
         try clear hfz118_2
         try clear hfz118_3
         try clear hfz118_4
         try clear hfz118_5
         try clear hfz118_6
         try clear hfz118_7
         try clear hfz118_8
         try clear hfz120_0
         try clear hfz120_1
         try clear hfz120_2
         try clear hfz120_3
         try clear hfz120_4
         try clear hfz120_5
         try clear hfz120_6
         try clear hfz120_7
         try clear hfz120_8
         try clear hfz121_0
         try clear hfz121_1
         try clear hfz121_2
         try clear hfz121_3
         try clear hfz121_4
         try clear hfz121_5
         try clear hfz121_6
         try clear hfz121_7
         try clear hfz121_8
         try clear hfz122_0
         try clear hfz122_1
         try clear hfz122_2
         try clear hfz122_3
         try clear hfz122_4
         try clear hfz122_5
         try clear hfz122_6
         try clear hfz122_7
         try clear hfz122_8
         try clear hfz124_0
         try clear hfz124_1
         try clear hfz124_2
         try clear hfz124_3
         try clear hfz124_4
         try clear hfz124_5
         try clear hfz124_6
         try clear hfz124_7
         try clear hfz124_8
         try clear hfz126_0
         try clear hfz126_1
         try clear hfz126_2
         try clear hfz126_3
         try clear hfz126_4
         try clear hfz126_5
         try clear hfz126_6
         try clear hfz126_7
         try clear hfz126_8
         try clear hfz128_0
         try clear hfz128_1
         try clear hfz128_2
         try clear hfz128_3
         try clear hfz128_4
         try clear hfz128_5
         try clear hfz128_6
         try clear hfz128_7
         try clear hfz128_8
         try clear hfz130_0
         try clear hfz130_1
         try clear hfz130_2
         try clear hfz130_3
         try clear hfz130_4
         try clear hfz130_5
         try clear hfz130_6
         try clear hfz130_7
         try clear hfz130_8
         try clear hfz131_0
         try clear hfz131_1
         try clear hfz131_2
         try clear hfz131_3
         try clear hfz131_4
         try clear hfz131_5
         try clear hfz131_6
         try clear hfz131_7
         try clear hfz131_8
         try clear hfz132_0
         try clear hfz132_1
         try clear hfz132_2
         try clear hfz132_3
         try clear hfz132_4
         try clear hfz132_5
         try clear hfz132_6
         try clear hfz132_7
         try clear hfz132_8
         try clear hfz91_4
         try clear hfz91_5
         try clear hfz91_6
         try clear hfz91_7
         try clear hfz91_8
         try clear hfz93_0
         try clear hfz93_1
         try clear hfz93_2
         try clear hfz93_3
         try clear hfz93_4
         try clear hfz93_5
         try clear hfz93_6
         try clear hfz93_7
         try clear hfz93_8
         try clear hfz94_0
         try clear hfz94_1
         try clear hfz94_2
         try clear hfz94_3
         try clear hfz94_4
         try clear hfz94_5
         try clear hfz94_6
         try clear hfz94_7
         try clear hfz94_8
         try clear hfz98_0
         try clear hfz98_1
         try clear hfz98_2
         try clear hfz98_3
         try clear hfz98_4
         try clear hfz98_5
         try clear hfz98_6
         try clear hfz98_7
         try clear hfz98_8
         try clear p2
         obtain ⟨x6_4, x133_4, rfl, rfl, HA, HK4, BK119, HB⟩ := hrel
         cases gk with
         | zero => exact absurd HA.out (by simp [cmd_Check.l0])
         | succ k4 =>
          have H := HA.out
          clear HA
          simp only [cmd_Check.l0] at H
          replace H := iteD H
          rcases H with ⟨c133b0, H⟩ | ⟨c133b0, H⟩
          · as_aux_lemma =>
           replace H := iteD H
           rcases H with ⟨c134b0, H⟩ | ⟨_, H⟩
           · as_aux_lemma =>
            replace H := iteD H
            rcases H with ⟨c135b0, H⟩ | ⟨_, H⟩
            · as_aux_lemma =>
             by_cases c136 : x6_4 = true
             ·
              subst c136
              rw [if_pos rfl] at H
              have H' := am H
              clear H
              have p145 := pz x133_4
              have q145 := pl x133_4 (l0_8.length : Int)
              obtain ⟨ad145, e145, hx145_0, hx145_1⟩ := at_T62 HR0_8.out x133_4 (of_eq_true p145) (of_eq_true q145)
              cases e145
              replace hx145_0 := bc HB.out hx145_0
              replace hx145_1 := bc HB.out hx145_1
              go_wp2_with (first | ((with_reducible refine gate_dst (N := 8) rfl ?_); (try (refine gate_guard (by rfl) ?_; dsimp only)); refine bx 8 #[.int .i64 0, .string (⟨#[]⟩ : ByteArray)] 62 ?_; intro gb146 hg w137 hbox hb; have BK146 := am (hbox); have GW146 := gsz hg HB.out; have GE146 := gsz hg HB.out; have NB119_146 := nlt (g := gb119) hg BK119.out; have NB146_119 := ngt (g := gb119) hg BK119.out; replace BK119 := bb BK119.out hb; replace HB := am (below_step (bws HB.out) hb); clear hb hbox hg; have hnb138 := NB146_119.out; have hnc138 := NB119_146.out; obtain ⟨hcz139_0, hcz139_1, hfz139_0, hfz139_1⟩ := cz2 BK146.out))
              go_roundg k4
              case measure => have := HJ2.out; have := HJ29.out; have := HJ94.out; have := HK4.out; omega
              case rel => exact ⟨(true), (wrap64 (x133_4 + 1)), rs, rs, H', ⟨by have := HJ2.out; have := HJ29.out; have := HJ94.out; have := HK4.out; omega⟩, ⟨bkf BK119.out⟩, ⟨bws HB.out⟩⟩
             · as_aux_lemma =>
              replace c136 := Bool.eq_false_iff.mpr c136
              subst c136
              rw [if_neg (show ¬ (false = true) by decide)] at H
              replace H := iteD H
              rcases H with ⟨c140b0, H⟩ | ⟨c140b0, H⟩
              ·
               have H' := am H
               clear H
               have p145 := pz x133_4
               have q145 := pl x133_4 (l0_8.length : Int)
               obtain ⟨ad145, e145, hx145_0, hx145_1⟩ := at_T62 HR0_8.out x133_4 (of_eq_true p145) (of_eq_true q145)
               cases e145
               replace hx145_0 := bc HB.out hx145_0
               replace hx145_1 := bc HB.out hx145_1
               go_wp2_with (first | ((with_reducible refine gate_dst (N := 8) rfl ?_); (try (refine gate_guard (by rfl) ?_; dsimp only)); refine bx 8 #[.int .i64 0, .string (⟨#[]⟩ : ByteArray)] 62 ?_; intro gb146 hg w141 hbox hb; have BK146 := am (hbox); have GW146 := gsz hg HB.out; have GE146 := gsz hg HB.out; have NB119_146 := nlt (g := gb119) hg BK119.out; have NB146_119 := ngt (g := gb119) hg BK119.out; replace BK119 := bb BK119.out hb; replace HB := am (below_step (bws HB.out) hb); clear hb hbox hg; have hnb142 := NB146_119.out; have hnc142 := NB119_146.out; obtain ⟨hcz143_0, hcz143_1, hfz143_0, hfz143_1⟩ := cz2 BK146.out))
               go_roundg k4
               case measure => have := HJ2.out; have := HJ29.out; have := HJ94.out; have := HK4.out; omega
               case rel => exact ⟨(true), (wrap64 (x133_4 + 1)), rs, rs, H', ⟨by have := HJ2.out; have := HJ29.out; have := HJ94.out; have := HK4.out; omega⟩, ⟨bkf BK119.out⟩, ⟨bws HB.out⟩⟩
              ·
               replace H := iteD H
               rcases H with ⟨c144b0, H⟩ | ⟨c144b0, H⟩
               ·
                have H' := am H
                clear H
                have p145 := pz x133_4
                have q145 := pl x133_4 (l0_8.length : Int)
                obtain ⟨ad145, e145, hx145_0, hx145_1⟩ := at_T62 HR0_8.out x133_4 (of_eq_true p145) (of_eq_true q145)
                cases e145
                replace hx145_0 := bc HB.out hx145_0
                replace hx145_1 := bc HB.out hx145_1
                go_wp2_with (first | ((with_reducible refine gate_dst (N := 8) rfl ?_); (try (refine gate_guard (by rfl) ?_; dsimp only)); refine bx 8 #[.int .i64 0, .string (⟨#[]⟩ : ByteArray)] 62 ?_; intro gb146 hg w145 hbox hb; have BK146 := am (hbox); have GW146 := gsz hg HB.out; have GE146 := gsz hg HB.out; have NB119_146 := nlt (g := gb119) hg BK119.out; have NB146_119 := ngt (g := gb119) hg BK119.out; replace BK119 := bb BK119.out hb; replace HB := am (below_step (bws HB.out) hb); clear hb hbox hg; have hnb146 := NB146_119.out; have hnc146 := NB119_146.out; obtain ⟨hcz147_0, hcz147_1, hfz147_0, hfz147_1⟩ := cz2 BK146.out))
                go_roundg k4
                case measure => have := HJ2.out; have := HJ29.out; have := HJ94.out; have := HK4.out; omega
                case rel => exact ⟨(true), (wrap64 (x133_4 + 1)), rs, rs, H', ⟨by have := HJ2.out; have := HJ29.out; have := HJ94.out; have := HK4.out; omega⟩, ⟨bkf BK119.out⟩, ⟨bws HB.out⟩⟩
               ·
                replace H := obE H
                obtain ⟨t147, A148, H⟩ := H
                have H' := am H
                clear H
                have p145 := pz x133_4
                have q145 := pl x133_4 (l0_8.length : Int)
                obtain ⟨ad145, e145, hx145_0, hx145_1⟩ := at_T62 HR0_8.out x133_4 (of_eq_true p145) (of_eq_true q145)
                cases e145
                replace hx145_0 := bc HB.out hx145_0
                replace hx145_1 := bc HB.out hx145_1
                go_wp2_with (first | ((with_reducible refine gate_dst (N := 8) rfl ?_); (try (refine gate_guard (by rfl) ?_; dsimp only)); refine bx 8 #[.int .i64 0, .string (⟨#[]⟩ : ByteArray)] 62 ?_; intro gb146 hg w149 hbox hb; have BK146 := am (hbox); have GW146 := gsz hg HB.out; have GE146 := gsz hg HB.out; have NB119_146 := nlt (g := gb119) hg BK119.out; have NB146_119 := ngt (g := gb119) hg BK119.out; replace BK119 := bb BK119.out hb; replace HB := am (below_step (bws HB.out) hb); clear hb hbox hg; have hnb150 := NB146_119.out; have hnc150 := NB119_146.out; obtain ⟨hcz151_0, hcz151_1, hfz151_0, hfz151_1⟩ := cz2 BK146.out) | (go_at_call 37; (with_reducible refine (cmd_digits.calls ((rd_T62 l0_8 x133_4).f1) t147 _ A148.out).mono ?_); rintro e w152 ⟨rfl, hb⟩; replace BK119 := am (blk_below (g := gb119) (o := .cells #[.int .i64 a0_0, .string a0_1, .string a0_2, .string a0_3, .int .i64 a0_4, .int .i64 a0_5, .string a0_6, .slice A0_7 l0_7.length c0_7, .slice (some ad145) l0_8.length c0_8] 25 (0, 0)) (bkf BK119.out) hb); replace BK146 := am (blk_below (g := gb146) (o := .cells #[.int .i64 ((rd_T62 l0_8 x133_4).f0), .string ((rd_T62 l0_8 x133_4).f1)] 62 (0, 0)) (bkp BK146.out) hb); replace HB := am (below_step (bws HB.out) hb); (try clear hb)))
                go_roundg k4
                case measure => have := HJ2.out; have := HJ29.out; have := HJ94.out; have := HK4.out; omega
                case rel => exact ⟨(!t147), (wrap64 (x133_4 + 1)), rs, rs, H', ⟨by have := HJ2.out; have := HJ29.out; have := HJ94.out; have := HK4.out; omega⟩, ⟨bk BK119.out⟩, ⟨bws HB.out⟩⟩
            ·
             exact absurd H (by simp)
           ·
            exact absurd H (by simp)
          ·
           by_cases c153 : x6_4 = true
           ·
            subst c153
            rw [if_pos rfl] at H
            obtain rfl := Option.some.inj H
            go_wp2
            go_ret
            exact ⟨rf, bws HB.out⟩
           ·
            replace c153 := Bool.eq_false_iff.mpr c153
            subst c153
            rw [if_neg (show ¬ (false = true) by decide)] at H
            obtain rfl := Option.some.inj H
            go_wp2
            go_ret
            exact ⟨rf, bws HB.out⟩
end Go.Proofs.YtdidopoalmkhlaaDoor.Ob
