/- Merged of several texts of this session's by merge.py. -/
import Derived.Test.YtoiockmmlanimaaDoorMj3
import Derived.Lib.Hide
import Derived.IntWalk
import Derived.Deep.QuietTactic
import Derived.BigQuiet
import Derived.OwnWalk
import Derived.Lib.LazyBuf
import Derived.Lib.SliceRun
import Derived.Lib.Walk
import Derived.Shelf.Spec.SlicesInsertGrow
import Derived.Test.YtoiockmmlanimaaDoorMj2
import Derived.Test.YtoiockmmlanimaaDoorMj4
import Derived.KernelRfl
section
-- Written for this claim by hyb.py, a driver of this session's over the kit's printer.
namespace Go.Proofs.YtoiockmmlanimaaDoor.Oj
open Go.RowKit Go.Proofs.YtoiockmmlanimaaDoorW.PrintWords Go.Proofs.YtoiockmmlanimaaDoorW.PrintLast Go.Proofs.YtoiockmmlanimaaDoorW.PrintMore
attribute [local go_sem] max2_int min2_int max_two min_two max_three min_three max_four min_four   -- for this text's walks alone
set_option linter.unusedVariables false
set_option linter.unusedSimpArgs false

/-! ### stowagelaw13_Piece: function 37 -/
def stowagelaw13_Piece.l0 : Nat → List (S63) → List (S85) → Int → Option ((List (S85)))
 | 0, _, _, _ => none
 | k + 1, x0, x3, x4 => if x4 < (x0.length : Int) then (if 0 ≤ x4 then (if x3.length < 5864062014805 then (stowagelaw13_Piece.l0 k x0 (x3 ++ [(⟨(rd_T63 x0 x4).f0, (rd_T63 x0 x4).f1⟩ : S85)]) (wrap64 (x4 + 1))) else (none)) else (none)) else (some x3)
def stowagelaw13_Piece.f (k : Nat) (l0 : List (S63)) : Option ((List (S85))) := stowagelaw13_Piece.l0 k l0 ([] : List (S85)) 0
theorem stowagelaw13_Piece.mono_l : ∀ k, (∀ y0 y1 y2, LeO (stowagelaw13_Piece.l0 k y0 y1 y2) (stowagelaw13_Piece.l0 (k + 1) y0 y1 y2))
 | 0 => fun _ _ _ r h => by simp [stowagelaw13_Piece.l0] at h
 | k + 1 => by
  have ih0 := stowagelaw13_Piece.mono_l k
  ·
   intro y0 y1 y2
   unfold stowagelaw13_Piece.l0
   repeat' first
   | (with_reducible exact ih0 _ _ _)
   | (with_reducible exact LeO.refl _)
   | (with_reducible exact LeO.none _)
   | (with_reducible refine LeO.ite ?_ ?_)
   | (with_reducible refine LeO.bind ?_ (fun _ => ?_))
   | exact ih0 _ _ _
   | exact LeO.none _
   | refine LeO.ite ?_ ?_
   | refine LeO.bind ?_ (fun _ => ?_)
theorem stowagelaw13_Piece.mono : ∀ a0 k, LeO (stowagelaw13_Piece.f k a0) (stowagelaw13_Piece.f (k + 1) a0) := by
 intro a0 k
 have ih0 := stowagelaw13_Piece.mono_l k
 unfold stowagelaw13_Piece.f
 repeat' first
   | (with_reducible exact ih0 _ _ _)
   | (with_reducible exact LeO.refl _)
   | (with_reducible exact LeO.none _)
   | (with_reducible refine LeO.ite ?_ ?_)
   | (with_reducible refine LeO.bind ?_ (fun _ => ?_))
   | exact ih0 _ _ _
   | exact LeO.none _
   | refine LeO.ite ?_ ?_
   | refine LeO.bind ?_ (fun _ => ?_)
set_option maxHeartbeats 8000000 in
set_option maxRecDepth 100000 in
theorem stowagelaw13_Piece.calls (k : Nat) (A0 : Option Addr) (c0 : Nat) (l0 : List (S63)) (r : List (S85)) (w : World) (hr0 : Kd.C k63 w A0 l0.length l0) (hc0 : l0.length ≤ c0) (h : stowagelaw13_Piece.f k l0 = some r) :
  Calls Tryd.prog 37 #[.slice A0 l0.length c0] w fun e w' => ∃ v0_ : Value, e = .returned (v0_) ∧ Kd.R k85 85 w' w.heap.size (fun _ => True) v0_ r ∧ Below w.heap.size w w' := by
 have hu63 := Tryd.underlying63
 have HR0 := Aside0.mk hr0
 have HC0 := Aside0.mk hc0
 clear hr0 hc0
 have HB := Aside0.mk (Below.refl w.heap.size w)
 have H : (stowagelaw13_Piece.l0 k l0 ([] : List (S85)) 0) = some r := h
 clear h
 have H' := Aside0.mk H
 clear H
 go_enter Tryd.func37, Tryd.ntmps37
 go_wp2
 go_loopg [3, 4] k (fun kq v3 v4 w' => ∃ (x3_1 : List (S85)) (x4_1 : Int), v4 = .int .i64 x4_1 ∧ Aside0 (stowagelaw13_Piece.l0 kq l0 x3_1 x4_1 = some r) ∧ Aside0 (kq ≤ k) ∧ Aside0 (Kd.R k85 85 w' w.heap.size (fun _ => True) v3 x3_1) ∧ Aside0 (Below w.heap.size w w'))
 case atStart => exact ⟨(([] : List (S85))), (0), (by first | rfl | (simp; done) | (simp [*]; done)), H', ⟨Nat.le_refl _⟩, ⟨by first | exact Kd.R_nil _ _ _ _ _ | exact Kd.N_nil _ _ _ _ _ | exact Kd.V_nil _ _ _ _ _ | exact Kd.Q_nil _ _ _ _ _ | exact Kd.S_nil _ _ _ _ _⟩, ⟨bw HB.out⟩⟩
 case round =>
  clear H'
  obtain ⟨x3_1, x4_1, rfl, HA, HK1, HO_3, HB⟩ := hrel
  cases gk with
  | zero => exact absurd HA.out (by simp [stowagelaw13_Piece.l0])
  | succ k1 =>
   have H := HA.out
   clear HA
   simp only [stowagelaw13_Piece.l0] at H
   by_cases c2 : x4_1 < (l0.length : Int)
   ·
    rw [if_pos c2] at H
    have c2b0 : decide (x4_1 < (l0.length : Int)) = true := decide_eq_true c2
    clear c2
    by_cases c3 : 0 ≤ x4_1
    ·
     rw [if_pos c3] at H
     have c3b0 : decide (0 ≤ x4_1) = true := decide_eq_true c3
     clear c3
     by_cases c4 : x3_1.length < 5864062014805
     ·
      rw [if_pos c4] at H
      have LMc4 := Aside0.mk c4
      clear c4
      obtain ⟨y192, hy192⟩ : ∃ y_ : List (S85), y_ = (x3_1 ++ [(⟨(rd_T63 l0 x4_1).f0, (rd_T63 l0 x4_1).f1⟩ : S85)]) := ⟨_, rfl⟩
      replace H : (stowagelaw13_Piece.l0 k1 l0 y192 (wrap64 (x4_1 + 1))) = some r := by first | (rw [hy192]; with_reducible exact H) | (have H2_ := (Option.bind_some _ _).symm.trans H; rw [hy192]; with_reducible exact H2_) | (have H2_ := (Option.bind_some _ _).symm.trans H; with_reducible exact H2_) | with_reducible exact H | (rw [hy192]; exact H) | exact H
      have Ny192 := Aside0.mk hy192
      clear hy192
      have H' := Aside0.mk H
      clear H
      have p191 : 0 ≤ (x4_1 : Int) := of_decide_eq_true asm
      have q191 : x4_1 < (l0.length : Int) := of_decide_eq_true asm
      obtain ⟨ad191, e191, hx191_0, hx191_1⟩ := at_T63 HR0.out x4_1 p191 q191
      cases e191
      replace hx191_0 := bc HB.out hx191_0
      replace hx191_1 := bc HB.out hx191_1
      replace p191 := eq_true p191
      replace q191 := eq_true q191
      go_wp2_with (first | ((with_reducible refine gate_builtin (b := .append) (xs := #[.tmp 11, .tmp 16]) rfl ?_); at_builtin; refine Kd.R_append k85 (w0 := w) w.heap.size rfl (.tmp 11) (.tmp 16) 30 85 (.agg #[(.string ⟨#[]⟩), (.int .i64 0)]) 24 rfl Tryd.underlying30 info85 rfl (by decide) (by omega) u3 x3_1 (⟨(rd_T63 l0 x4_1).f0, (rd_T63 l0 x4_1).f1⟩ : S85) [.string ((rd_T63 l0 x4_1).f0), .int .i64 ((rd_T63 l0 x4_1).f1)] (fun _ => True) (fun _ => False) rfl rfl ?aP (fun _ hk => hk.elim) ?aF ?aO ?aB ?aS ?aL ?_; (case aP => exact k85_mkM _ _ _ (⟨(rd_T63 l0 x4_1).f0, (rd_T63 l0 x4_1).f1⟩ : S85)); (case aB => exact (bw HB.out)); (case aF => exact (fun _ _ => trivial)); (case aO => exact (kR HO_3.out)); (case aS => exact (below_size (bw HB.out))); (case aL => have := LMc4.out; omega); intro v193 w5 ho hb hg hat; rw [← Ny192.out] at ho; have n0_ := Aside0.mk (hb); have n1_ := Aside0.mk (ho); clear HB; clear HO_3; have HB := n0_; have HO194 := n1_; clear n0_ n1_; clear ho hb hg hat))
      go_roundg k1
      case measure => have := HK1.out; omega
      case rel => exact ⟨(y192), (wrap64 (x4_1 + 1)), (by first | rfl | (simp; done) | (simp [*]; done)), H', ⟨by have := HK1.out; omega⟩, ⟨kR HO194.out⟩, ⟨bw HB.out⟩⟩
     ·
      rw [if_neg c4] at H
      exact absurd H (by simp)
    ·
     rw [if_neg c3] at H
     exact absurd H (by simp)
   ·
    rw [if_neg c2] at H
    have c2b0 : decide (x4_1 < (l0.length : Int)) = false := decide_eq_false c2
    clear c2
    obtain rfl := Option.some.inj H
    go_wp2
    go_ret
    exact ⟨_, by first | rfl | (simp [errW_none, errW_some] <;> rfl) | (simp [*, errW_none, errW_some] <;> rfl), by (with_reducible repeat (first | apply Kd.R_alloc | apply Kd.R_drewN | apply Kd.R_drew)); exact HO_3.out, by repeat (first | (with_reducible first | exact HB.out | apply below_alloc | apply pw_below_drewN | apply below_drew1) | exact HB.out)⟩

/-! ### stowagelaw14_Refs: function 11 -/
def stowagelaw14_Refs.l0 : Nat → List (S46) → List (S52) → Int → Option ((List (S52)))
 | 0, _, _, _ => none
 | k + 1, x0, x3, x4 => if x4 < (x0.length : Int) then (if 0 ≤ x4 then ((stowagelaw13_Piece.f k ((rd_T46 x0 x4).f3)).bind fun t199 => (if x3.length < 2513169434916 then (stowagelaw14_Refs.l0 k x0 (x3 ++ [(⟨(rd_T46 x0 x4).f0, (rd_T46 x0 x4).f1, (rd_T46 x0 x4).f2, t199⟩ : S52)]) (wrap64 (x4 + 1))) else (none))) else (none)) else (some x3)
def stowagelaw14_Refs.f (k : Nat) (l0 : List (S46)) : Option ((List (S52))) := stowagelaw14_Refs.l0 k l0 ([] : List (S52)) 0
theorem stowagelaw14_Refs.mono_l : ∀ k, (∀ y0 y1 y2, LeO (stowagelaw14_Refs.l0 k y0 y1 y2) (stowagelaw14_Refs.l0 (k + 1) y0 y1 y2))
 | 0 => fun _ _ _ r h => by simp [stowagelaw14_Refs.l0] at h
 | k + 1 => by
  have ih0 := stowagelaw14_Refs.mono_l k
  ·
   intro y0 y1 y2
   unfold stowagelaw14_Refs.l0
   repeat' first
   | (with_reducible exact ih0 _ _ _)
   | (with_reducible exact stowagelaw13_Piece.mono _ _)
   | (with_reducible exact LeO.refl _)
   | (with_reducible exact LeO.none _)
   | (with_reducible refine LeO.ite ?_ ?_)
   | (with_reducible refine LeO.bind ?_ (fun _ => ?_))
   | exact ih0 _ _ _
   | exact stowagelaw13_Piece.mono _ _
   | exact LeO.none _
   | refine LeO.ite ?_ ?_
   | refine LeO.bind ?_ (fun _ => ?_)
theorem stowagelaw14_Refs.mono : ∀ a0 k, LeO (stowagelaw14_Refs.f k a0) (stowagelaw14_Refs.f (k + 1) a0) := by
 intro a0 k
 have ih0 := stowagelaw14_Refs.mono_l k
 unfold stowagelaw14_Refs.f
 repeat' first
   | (with_reducible exact ih0 _ _ _)
   | (with_reducible exact stowagelaw13_Piece.mono _ _)
   | (with_reducible exact LeO.refl _)
   | (with_reducible exact LeO.none _)
   | (with_reducible refine LeO.ite ?_ ?_)
   | (with_reducible refine LeO.bind ?_ (fun _ => ?_))
   | exact ih0 _ _ _
   | exact stowagelaw13_Piece.mono _ _
   | exact LeO.none _
   | refine LeO.ite ?_ ?_
   | refine LeO.bind ?_ (fun _ => ?_)
def stowagelaw14_Refs.T5 : Bool × List (List Nat × List Nat) := (true, [([], []), ([], []), ([], []), ([1, 2], [1, 2]), ([3], [3]), ([4], [4]), ([], []), ([], []), ([6, 7], [6, 7]), ([8], [8]), ([9], [9]), ([], []), ([], []), ([11, 12], [11, 12]), ([13], [13]), ([14], [14]), ([], []), ([], []), ([16, 17], [16, 17]), ([18], [18]), ([19], [19]), ([20], [20]), ([5, 10, 15, 21], [5, 10, 15, 21]), ([22], [22]), ([0, 23, 21], [0, 23]), ([24, 24, 0, 1, 2, 3, 4, 5, 6, 7, 8, 9, 10, 11, 12, 13, 14, 15, 16, 17, 18, 19, 20, 21, 22, 23, 24], [0, 24])])
def stowagelaw14_Refs.B5 : List Nat := [0, 0, 0, 6, 14, 30, 0, 0, 192, 448, 960, 0, 0, 6144, 14336, 30720, 0, 0, 196608, 458752, 983040, 2031616, 4194302, 8388606, 16777215, 33554431]
theorem stowagelaw14_Refs.tab5 : rtab .any (opsOf Tryd.f11 5) = stowagelaw14_Refs.T5 := by kernel_rfl
theorem stowagelaw14_Refs.bits5 : waitsOk stowagelaw14_Refs.T5.2 stowagelaw14_Refs.B5 = true := by kernel_rfl
set_option maxHeartbeats 8000000 in
set_option maxRecDepth 100000 in
theorem stowagelaw14_Refs.calls (k : Nat) (A0 : Option Addr) (c0 : Nat) (l0 : List (S46)) (r : List (S52)) (w : World) (hr0 : Kd.C k46 w A0 l0.length l0) (hc0 : l0.length ≤ c0) (h : stowagelaw14_Refs.f k l0 = some r) :
  Calls Tryd.prog 11 #[.slice A0 l0.length c0] w fun e w' => ∃ v0_ : Value, e = .returned (v0_) ∧ Kd.S k52 52 w' w.heap.size (fun _ => True) v0_ r ∧ Below w.heap.size w w' := by
 have hu52 := Tryd.underlying52
 have HR0 := Aside0.mk hr0
 have HC0 := Aside0.mk hc0
 clear hr0 hc0
 have HB := Aside0.mk (Below.refl w.heap.size w)
 have H : (stowagelaw14_Refs.l0 k l0 ([] : List (S52)) 0) = some r := h
 clear h
 have H' := Aside0.mk H
 clear H
 go_enter Tryd.func11, Tryd.ntmps11
 go_wp2
 go_loopg [3, 4] k (fun kq v3 v4 w' => ∃ (x3_1 : List (S52)) (x4_1 : Int), v4 = .int .i64 x4_1 ∧ Aside0 (stowagelaw14_Refs.l0 kq l0 x3_1 x4_1 = some r) ∧ Aside0 (kq ≤ k) ∧ Aside0 (Kd.S k52 52 w' w.heap.size (fun _ => True) v3 x3_1) ∧ Aside0 (Below w.heap.size w w'))
 case atStart => exact ⟨(([] : List (S52))), (0), (by first | rfl | (simp; done) | (simp [*]; done)), H', ⟨Nat.le_refl _⟩, ⟨by first | exact Kd.S_nil _ _ _ _ _ | exact Kd.N_nil _ _ _ _ _ | exact Kd.V_nil _ _ _ _ _ | exact Kd.Q_nil _ _ _ _ _ | exact Kd.R_nil _ _ _ _ _⟩, ⟨bw HB.out⟩⟩
 case round =>
  clear H'
  try clear c1
  obtain ⟨x3_1, x4_1, rfl, HA, HK1, HO_3, HB⟩ := hrel
  cases gk with
  | zero => exact absurd HA.out (by simp [stowagelaw14_Refs.l0])
  | succ k1 =>
   have H := HA.out
   clear HA
   simp only [stowagelaw14_Refs.l0] at H
   by_cases c2 : x4_1 < (l0.length : Int)
   ·
    rw [if_pos c2] at H
    have c2b0 : decide (x4_1 < (l0.length : Int)) = true := decide_eq_true c2
    clear c2
    by_cases c3 : 0 ≤ x4_1
    ·
     rw [if_pos c3] at H
     have c3b0 : decide (0 ≤ x4_1) = true := decide_eq_true c3
     clear c3
     replace H := Option.bind_eq_some_iff.mp H
     obtain ⟨t199, A40, H⟩ := H
     replace H : (if x3_1.length < 2513169434916 then (stowagelaw14_Refs.l0 k1 l0 (x3_1 ++ [(⟨(rd_T46 l0 x4_1).f0, (rd_T46 l0 x4_1).f1, (rd_T46 l0 x4_1).f2, t199⟩ : S52)]) (wrap64 (x4_1 + 1))) else (none)) = some r := H
     have A4 := Aside0.mk A40
     clear A40
     by_cases c5 : x3_1.length < 2513169434916
     ·
      rw [if_pos c5] at H
      have LMc5 := Aside0.mk c5
      clear c5
      obtain ⟨y202, hy202⟩ : ∃ y_ : List (S52), y_ = (x3_1 ++ [(⟨(rd_T46 l0 x4_1).f0, (rd_T46 l0 x4_1).f1, (rd_T46 l0 x4_1).f2, t199⟩ : S52)]) := ⟨_, rfl⟩
      replace H : (stowagelaw14_Refs.l0 k1 l0 y202 (wrap64 (x4_1 + 1))) = some r := by first | (rw [hy202]; with_reducible exact H) | (have H2_ := (Option.bind_some _ _).symm.trans H; rw [hy202]; with_reducible exact H2_) | (have H2_ := (Option.bind_some _ _).symm.trans H; with_reducible exact H2_) | with_reducible exact H | (rw [hy202]; exact H) | exact H
      have Ny202 := Aside0.mk hy202
      clear hy202
      have H' := Aside0.mk H
      clear H
      try go_wp2
      replace HO_3 := Aside0.mk (Kd.S_drew HO_3.out)
      replace HB := Aside0.mk (below_drew1 HB.out)
      have p195 : 0 ≤ (x4_1 : Int) := of_decide_eq_true asm
      have q195 : x4_1 < (l0.length : Int) := of_decide_eq_true asm
      obtain ⟨ad195, A195_3, c195_3, e195, hx195_0, hx195_1, hx195_2, hx195_3, hl195_3, hi195_3⟩ := at_T46 HR0.out x4_1 p195 q195
      have hw195_3 := hx195_3
      have hw195_2 := hx195_2
      have hw195_1 := hx195_1
      have hw195_0 := hx195_0
      cases e195
      replace hx195_0 := bc HB.out hx195_0
      replace hx195_1 := bc HB.out hx195_1
      replace hx195_2 := bc HB.out hx195_2
      replace hx195_3 := bc HB.out hx195_3
      have HR195_3 := Aside0.mk hi195_3
      have HC195_3 := Aside0.mk hl195_3
      clear hi195_3 hl195_3
      replace p195 := eq_true p195
      replace q195 := eq_true q195
      have p196 : 0 ≤ (x4_1 : Int) := of_decide_eq_true asm
      have q196 : x4_1 < (l0.length : Int) := of_decide_eq_true asm
      obtain ⟨ad196, A196_3, c196_3, e196, hx196_0, hx196_1, hx196_2, hx196_3, hl196_3, hi196_3⟩ := at_T46 HR0.out x4_1 p196 q196
      have hw196_3 := hx196_3
      have hw196_2 := hx196_2
      have hw196_1 := hx196_1
      have hw196_0 := hx196_0
      obtain rfl : ad195 = ad196 := (by injection e196)
      replace hx196_0 := bc HB.out hx196_0
      replace hx196_1 := bc HB.out hx196_1
      replace hx196_2 := bc HB.out hx196_2
      replace hx196_3 := bc HB.out hx196_3
      have HR196_3 := Aside0.mk hi196_3
      have HC196_3 := Aside0.mk hl196_3
      clear hi196_3 hl196_3
      replace p196 := eq_true p196
      replace q196 := eq_true q196
      have ea_ := Option.some.inj (hx195_3.symm.trans hx196_3)
      injection ea_ with ea_ en_ ec_
      subst ea_
      subst ec_
      clear en_
      have p197 : 0 ≤ (x4_1 : Int) := of_decide_eq_true asm
      have q197 : x4_1 < (l0.length : Int) := of_decide_eq_true asm
      obtain ⟨ad197, A197_3, c197_3, e197, hx197_0, hx197_1, hx197_2, hx197_3, hl197_3, hi197_3⟩ := at_T46 HR0.out x4_1 p197 q197
      have hw197_3 := hx197_3
      have hw197_2 := hx197_2
      have hw197_1 := hx197_1
      have hw197_0 := hx197_0
      obtain rfl : ad195 = ad197 := (by injection e197)
      replace hx197_0 := bc HB.out hx197_0
      replace hx197_1 := bc HB.out hx197_1
      replace hx197_2 := bc HB.out hx197_2
      replace hx197_3 := bc HB.out hx197_3
      have HR197_3 := Aside0.mk hi197_3
      have HC197_3 := Aside0.mk hl197_3
      clear hi197_3 hl197_3
      replace p197 := eq_true p197
      replace q197 := eq_true q197
      have ea_ := Option.some.inj (hx195_3.symm.trans hx197_3)
      injection ea_ with ea_ en_ ec_
      subst ea_
      subst ec_
      clear en_
      have p198 : 0 ≤ (x4_1 : Int) := of_decide_eq_true asm
      have q198 : x4_1 < (l0.length : Int) := of_decide_eq_true asm
      obtain ⟨ad198, A198_3, c198_3, e198, hx198_0, hx198_1, hx198_2, hx198_3, hl198_3, hi198_3⟩ := at_T46 HR0.out x4_1 p198 q198
      have hw198_3 := hx198_3
      have hw198_2 := hx198_2
      have hw198_1 := hx198_1
      have hw198_0 := hx198_0
      obtain rfl : ad195 = ad198 := (by injection e198)
      replace hx198_0 := bc HB.out hx198_0
      replace hx198_1 := bc HB.out hx198_1
      replace hx198_2 := bc HB.out hx198_2
      replace hx198_3 := bc HB.out hx198_3
      have HR198_3 := Aside0.mk hi198_3
      have HC198_3 := Aside0.mk hl198_3
      clear hi198_3 hl198_3
      replace p198 := eq_true p198
      replace q198 := eq_true q198
      have ea_ := Option.some.inj (hx195_3.symm.trans hx198_3)
      injection ea_ with ea_ en_ ec_
      subst ea_
      subst ec_
      clear en_
      refine start_ (n := 26) (S := fun w' => w'.cell? (ad195.add ((x4_1).toNat * 4)) = some (.int .i64 ((rd_T46 l0 x4_1).f0)) ∧ w'.cell? ⟨(ad195.add ((x4_1).toNat * 4)).block, (ad195.add ((x4_1).toNat * 4)).off + 1, none⟩ = some (.int .i64 ((rd_T46 l0 x4_1).f1)) ∧ w'.cell? ⟨(ad195.add ((x4_1).toNat * 4)).block, (ad195.add ((x4_1).toNat * 4)).off + 2, none⟩ = some (.string ((rd_T46 l0 x4_1).f2)) ∧ w'.cell? ⟨(ad195.add ((x4_1).toNat * 4)).block, (ad195.add ((x4_1).toNat * 4)).off + 3, none⟩ = some (.slice A195_3 ((rd_T46 l0 x4_1).f3).length c195_3) ∧ w'.cell? (ad195.add ((x4_1).toNat * 4)) = some (.int .i64 ((rd_T46 l0 x4_1).f0)) ∧ w'.cell? ⟨(ad195.add ((x4_1).toNat * 4)).block, (ad195.add ((x4_1).toNat * 4)).off + 1, none⟩ = some (.int .i64 ((rd_T46 l0 x4_1).f1)) ∧ w'.cell? ⟨(ad195.add ((x4_1).toNat * 4)).block, (ad195.add ((x4_1).toNat * 4)).off + 2, none⟩ = some (.string ((rd_T46 l0 x4_1).f2)) ∧ w'.cell? ⟨(ad195.add ((x4_1).toNat * 4)).block, (ad195.add ((x4_1).toNat * 4)).off + 3, none⟩ = some (.slice A195_3 ((rd_T46 l0 x4_1).f3).length c195_3) ∧ w'.cell? (ad195.add ((x4_1).toNat * 4)) = some (.int .i64 ((rd_T46 l0 x4_1).f0)) ∧ w'.cell? ⟨(ad195.add ((x4_1).toNat * 4)).block, (ad195.add ((x4_1).toNat * 4)).off + 1, none⟩ = some (.int .i64 ((rd_T46 l0 x4_1).f1)) ∧ w'.cell? ⟨(ad195.add ((x4_1).toNat * 4)).block, (ad195.add ((x4_1).toNat * 4)).off + 2, none⟩ = some (.string ((rd_T46 l0 x4_1).f2)) ∧ w'.cell? ⟨(ad195.add ((x4_1).toNat * 4)).block, (ad195.add ((x4_1).toNat * 4)).off + 3, none⟩ = some (.slice A195_3 ((rd_T46 l0 x4_1).f3).length c195_3) ∧ w'.cell? (ad195.add ((x4_1).toNat * 4)) = some (.int .i64 ((rd_T46 l0 x4_1).f0)) ∧ w'.cell? ⟨(ad195.add ((x4_1).toNat * 4)).block, (ad195.add ((x4_1).toNat * 4)).off + 1, none⟩ = some (.int .i64 ((rd_T46 l0 x4_1).f1)) ∧ w'.cell? ⟨(ad195.add ((x4_1).toNat * 4)).block, (ad195.add ((x4_1).toNat * 4)).off + 2, none⟩ = some (.string ((rd_T46 l0 x4_1).f2)) ∧ w'.cell? ⟨(ad195.add ((x4_1).toNat * 4)).block, (ad195.add ((x4_1).toNat * 4)).off + 3, none⟩ = some (.slice A195_3 ((rd_T46 l0 x4_1).f3).length c195_3)) (ds := []) #[false, false, false, false, false, false, false, false, false, false, false, false, false, false, false, false, false, false, false, false, false, false, false, false, false, false] (by kernel_rfl) rfl rfl ⟨(bc HB.out hw195_0), (bc HB.out hw195_1), (bc HB.out hw195_2), (bc HB.out hw195_3), (bc HB.out hw196_0), (bc HB.out hw196_1), (bc HB.out hw196_2), (bc HB.out hw196_3), (bc HB.out hw197_0), (bc HB.out hw197_1), (bc HB.out hw197_2), (bc HB.out hw197_3), (bc HB.out hw198_0), (bc HB.out hw198_1), (bc HB.out hw198_2), (bc HB.out hw198_3)⟩ (fun hHeld => ?_); refine with_tabW stowagelaw14_Refs.tab5 stowagelaw14_Refs.bits5 (fun HT_ HW_ => ?_)
      generalize wr.drew = w6 at HO_3 HB HR195_3 HR196_3 HR197_3 HR198_3 hx195_0 hx195_1 hx195_2 hx195_3 hx196_0 hx196_1 hx196_2 hx196_3 hx197_0 hx197_1 hx197_2 hx197_3 hx198_0 hx198_1 hx198_2 hx198_3 hHeld ⊢
      refine pu 0 (some 11) HT_.out ?_
      refine pu 1 (some 12) HT_.out ?_
      refine pu 2 (some 13) HT_.out ?_
      refine pu 3 (some 14) HT_.out ?_
      refine pu 4 (some 15) HT_.out ?_
      refine pu 6 (some 17) HT_.out ?_
      refine pu 7 (some 18) HT_.out ?_
      refine pu 8 (some 19) HT_.out ?_
      refine pu 9 (some 20) HT_.out ?_
      refine pu 11 (some 22) HT_.out ?_
      refine pu 12 (some 23) HT_.out ?_
      refine pu 13 (some 24) HT_.out ?_
      refine pu 14 (some 25) HT_.out ?_
      refine pu 16 (some 27) HT_.out ?_
      refine pu 17 (some 28) HT_.out ?_
      refine pu 18 (some 29) HT_.out ?_
      refine pu 19 (some 30) HT_.out ?_
      refine tk 5 (some 16) HT_.out HW_.out hHeld ?_
      refine tk 10 (some 21) HT_.out HW_.out hHeld ?_
      refine tk 15 (some 26) HT_.out HW_.out hHeld ?_
      refine tk 20 (some 31) HT_.out HW_.out hHeld ?_
      refine one_ (i := 21) (N := some 32) #[true, true, true, true, true, true, true, true, true, true, true, true, true, true, true, true, true, true, true, true, true, true, false, false, false, false] rfl rfl (one_of HT_.out (by kernel_rfl)) (by decide) (fun K hK => ?_)
      refine goes_ Tryd.func37 (by kernel_rfl) rfl #[.slice A195_3 ((rd_T46 l0 x4_1).f3).length c195_3] (by rfl) rfl rfl gl ?_
      with_reducible refine (stowagelaw13_Piece.calls k1 _ _ ((rd_T46 l0 x4_1).f3) t199 _ ?side1 ?side2 A4.out).mono ?_
      (case side1 => exact kC (Kd.C_below HR198_3.out HB.out))
      (case side2 => exact HC198_3.out)
      rintro e w7 ⟨v200, rfl, ho0, hb⟩
      refine ⟨_, rfl, ?_⟩
      replace HO_3 := Aside0.mk (Kd.S_elder' (kS HO_3.out) (Kd.R_base ho0) hb)
      have HO201 := Aside0.mk (Kd.R_lower ho0 (below_size (bw HB.out)))
      replace HB := Aside0.mk (below_step (bw HB.out) hb)
      (try clear hb)
      (try clear hb2)
      (try clear hk)
      (try clear hi)
      (try clear ho0)
      obtain ⟨Ao8, co8, eo8⟩ := Kd.R_slice HO201.out
      (first | subst eo8 | (injection eo8 with f1_ f2_ f3_; have f4_ := f1_.symm; have f5_ := f3_.symm; clear f1_ f2_ f3_; subst f4_; subst f5_))
      refine hK.out _ _ ⟨(bc HB.out hw195_0), (bc HB.out hw195_1), (bc HB.out hw195_2), (bc HB.out hw195_3), (bc HB.out hw196_0), (bc HB.out hw196_1), (bc HB.out hw196_2), (bc HB.out hw196_3), (bc HB.out hw197_0), (bc HB.out hw197_1), (bc HB.out hw197_2), (bc HB.out hw197_3), (bc HB.out hw198_0), (bc HB.out hw198_1), (bc HB.out hw198_2), (bc HB.out hw198_3)⟩ (fun hHeld => ?_)
      clear hK K
      refine norm_ (a' := ?_) ?_ ?_
      rotate_left
      ·
       show Act.put _ (some 32) _ = _
       simp only [Act.put, List.setIfInBounds_toArray, List.set_cons_zero, List.set_cons_succ, i64_w, i32_w]
       rfl
      refine pu 22 (some 33) HT_.out ?_
      refine one_ (i := 23) (N := some 34) #[true, true, true, true, true, true, true, true, true, true, true, true, true, true, true, true, true, true, true, true, true, true, true, true, false, false] rfl rfl (one_of HT_.out (by kernel_rfl)) (by decide) (fun K hK => ?_)
      refine value_ (w1 := ?_) (v := ?_) (by rfl) rfl ?_ ?_
      rotate_left 2
      ·
       go_simp
       constructor
       ·
        rfl
       ·
        rfl
      refine hK.out _ _ ⟨(World.cell?_alloc_lt _ _ _ (World.block_lt_of_cell? _ _ ((bc HB.out hw195_0)))).trans ((bc HB.out hw195_0)), (World.cell?_alloc_lt _ _ _ (World.block_lt_of_cell? _ _ ((bc HB.out hw195_1)))).trans ((bc HB.out hw195_1)), (World.cell?_alloc_lt _ _ _ (World.block_lt_of_cell? _ _ ((bc HB.out hw195_2)))).trans ((bc HB.out hw195_2)), (World.cell?_alloc_lt _ _ _ (World.block_lt_of_cell? _ _ ((bc HB.out hw195_3)))).trans ((bc HB.out hw195_3)), (World.cell?_alloc_lt _ _ _ (World.block_lt_of_cell? _ _ ((bc HB.out hw196_0)))).trans ((bc HB.out hw196_0)), (World.cell?_alloc_lt _ _ _ (World.block_lt_of_cell? _ _ ((bc HB.out hw196_1)))).trans ((bc HB.out hw196_1)), (World.cell?_alloc_lt _ _ _ (World.block_lt_of_cell? _ _ ((bc HB.out hw196_2)))).trans ((bc HB.out hw196_2)), (World.cell?_alloc_lt _ _ _ (World.block_lt_of_cell? _ _ ((bc HB.out hw196_3)))).trans ((bc HB.out hw196_3)), (World.cell?_alloc_lt _ _ _ (World.block_lt_of_cell? _ _ ((bc HB.out hw197_0)))).trans ((bc HB.out hw197_0)), (World.cell?_alloc_lt _ _ _ (World.block_lt_of_cell? _ _ ((bc HB.out hw197_1)))).trans ((bc HB.out hw197_1)), (World.cell?_alloc_lt _ _ _ (World.block_lt_of_cell? _ _ ((bc HB.out hw197_2)))).trans ((bc HB.out hw197_2)), (World.cell?_alloc_lt _ _ _ (World.block_lt_of_cell? _ _ ((bc HB.out hw197_3)))).trans ((bc HB.out hw197_3)), (World.cell?_alloc_lt _ _ _ (World.block_lt_of_cell? _ _ ((bc HB.out hw198_0)))).trans ((bc HB.out hw198_0)), (World.cell?_alloc_lt _ _ _ (World.block_lt_of_cell? _ _ ((bc HB.out hw198_1)))).trans ((bc HB.out hw198_1)), (World.cell?_alloc_lt _ _ _ (World.block_lt_of_cell? _ _ ((bc HB.out hw198_2)))).trans ((bc HB.out hw198_2)), (World.cell?_alloc_lt _ _ _ (World.block_lt_of_cell? _ _ ((bc HB.out hw198_3)))).trans ((bc HB.out hw198_3))⟩ (fun hHeld => ?_)
      clear hK K
      refine norm_ (a' := ?_) ?_ ?_
      rotate_left
      ·
       show Act.put _ (some 34) _ = _
       simp only [Act.put, List.setIfInBounds_toArray, List.set_cons_zero, List.set_cons_succ, i64_w, i32_w]
       rfl
      refine one_ (i := 24) (N := some 35) #[true, true, true, true, true, true, true, true, true, true, true, true, true, true, true, true, true, true, true, true, true, true, true, true, true, false] rfl rfl (one_of HT_.out (by kernel_rfl)) (by decide) (fun K hK => ?_)
      refine Kd.S_append_step k52 (w0 := w) w.heap.size (by rfl) (.tmp 11) (.tmp 34) 35 52 (.agg #[(.int .i64 0), (.int .i64 0), (.string ⟨#[]⟩), (.slice none 0 0)]) 56 rfl Tryd.underlying35 info52 rfl (by decide) (by omega) u3 x3_1 (⟨(rd_T46 l0 x4_1).f0, (rd_T46 l0 x4_1).f1, (rd_T46 l0 x4_1).f2, t199⟩ : S52) [.int .i64 ((rd_T46 l0 x4_1).f0), .int .i64 ((rd_T46 l0 x4_1).f1), .string ((rd_T46 l0 x4_1).f2), .slice Ao8 t199.length co8] (fun _ => True) (fun k_ => some k_ = (.slice Ao8 t199.length co8 : Value).ownBlock) rfl rfl ?aP (fun k_ hk_ => ((Kd.R_mono (ok' := fun k_ => ((fun _ => True)) k_ ∧ some k_ ≠ (u3 : Value).ownBlock) (Kd.R_apart' (HO201.out) (Kd.S_typed HO_3.out) (by decide)) (fun k_ hk => ⟨trivial, hk.2⟩))).1 k_ hk_.symm) ?aF ?aO ?aB ?aS ?aL ?_
      (case aP => exact k52_mkM _ _ _ (⟨(rd_T46 l0 x4_1).f0, (rd_T46 l0 x4_1).f1, (rd_T46 l0 x4_1).f2, t199⟩ : S52) (Kd.R_mono (Kd.R_tight rfl (Kd.R_mono (ok' := fun k_ => ((fun _ => True)) k_ ∧ some k_ ≠ (u3 : Value).ownBlock) (Kd.R_apart' (HO201.out) (Kd.S_typed HO_3.out) (by decide)) (fun k_ hk => ⟨trivial, hk.2⟩))) (fun _ h_ => h_)))
      (case aB => exact (bw HB.out))
      (case aF => exact (fun _ _ => trivial))
      (case aO => exact (by (with_reducible repeat (first | apply Kd.S_alloc | apply Kd.S_drewN | apply Kd.S_drew)); exact Kd.S_mono HO_3.out (fun k_ hk => ⟨trivial, fun e_ => hk.2 e_⟩)))
      (case aS => exact (below_size (bw HB.out)))
      (case aL => have := LMc5.out; omega)
      intro v203 w9 ho hb hg hat
      rw [← Ny202.out] at ho
      have n0_ := Aside0.mk (hb)
      have n1_ := Aside0.mk (ho)
      clear HB
      clear HO_3
      clear HO201
      have HB := n0_
      have HO204 := n1_
      clear n0_ n1_
      clear ho hb hg hat
      refine hK.out _ _ ⟨(bc HB.out hw195_0), (bc HB.out hw195_1), (bc HB.out hw195_2), (bc HB.out hw195_3), (bc HB.out hw196_0), (bc HB.out hw196_1), (bc HB.out hw196_2), (bc HB.out hw196_3), (bc HB.out hw197_0), (bc HB.out hw197_1), (bc HB.out hw197_2), (bc HB.out hw197_3), (bc HB.out hw198_0), (bc HB.out hw198_1), (bc HB.out hw198_2), (bc HB.out hw198_3)⟩ (fun hHeld => ?_)
      clear hK K
      refine norm_ (a' := ?_) ?_ ?_
      rotate_left
      ·
       show Act.put _ (some 35) _ = _
       simp only [Act.put, List.setIfInBounds_toArray, List.set_cons_zero, List.set_cons_succ, i64_w, i32_w]
       rfl
      refine pu 25 (some 3) HT_.out ?_
      refine done_ (done_of HT_.out (by kernel_rfl)) ?_
      try go_wp2
      go_roundg k1
      case measure => have := HK1.out; omega
      case rel => exact ⟨(y202), (wrap64 (x4_1 + 1)), (by first | rfl | (simp; done) | (simp [*]; done)), H', ⟨by have := HK1.out; omega⟩, ⟨kS HO204.out⟩, ⟨bw HB.out⟩⟩
     ·
      rw [if_neg c5] at H
      exact absurd H (by simp)
    ·
     rw [if_neg c3] at H
     exact absurd H (by simp)
   ·
    rw [if_neg c2] at H
    have c2b0 : decide (x4_1 < (l0.length : Int)) = false := decide_eq_false c2
    clear c2
    obtain rfl := Option.some.inj H
    go_wp2
    go_ret
    exact ⟨_, by first | rfl | (simp [errW_none, errW_some] <;> rfl) | (simp [*, errW_none, errW_some] <;> rfl), by (with_reducible repeat (first | apply Kd.S_alloc | apply Kd.S_drewN | apply Kd.S_drew)); exact HO_3.out, by repeat (first | (with_reducible first | exact HB.out | apply below_alloc | apply pw_below_drewN | apply below_drew1) | exact HB.out)⟩

/-! ### stowagelaw14_picked: function 12 -/
def stowagelaw14_picked.l0 : Nat → List (S61) → List (S79) → Int → Option ((List (S79)))
 | 0, _, _, _ => none
 | k + 1, x0, x3, x4 => if x4 < (x0.length : Int) then (if 0 ≤ x4 then (if x3.length < 5864062014805 then (stowagelaw14_picked.l0 k x0 (x3 ++ [(⟨(rd_T61 x0 x4).f0, (rd_T61 x0 x4).f1⟩ : S79)]) (wrap64 (x4 + 1))) else (none)) else (none)) else (some x3)
def stowagelaw14_picked.f (k : Nat) (l0 : List (S61)) : Option ((List (S79))) := stowagelaw14_picked.l0 k l0 ([] : List (S79)) 0
theorem stowagelaw14_picked.mono_l : ∀ k, (∀ y0 y1 y2, LeO (stowagelaw14_picked.l0 k y0 y1 y2) (stowagelaw14_picked.l0 (k + 1) y0 y1 y2))
 | 0 => fun _ _ _ r h => by simp [stowagelaw14_picked.l0] at h
 | k + 1 => by
  have ih0 := stowagelaw14_picked.mono_l k
  ·
   intro y0 y1 y2
   unfold stowagelaw14_picked.l0
   repeat' first
   | (with_reducible exact ih0 _ _ _)
   | (with_reducible exact LeO.refl _)
   | (with_reducible exact LeO.none _)
   | (with_reducible refine LeO.ite ?_ ?_)
   | (with_reducible refine LeO.bind ?_ (fun _ => ?_))
   | exact ih0 _ _ _
   | exact LeO.none _
   | refine LeO.ite ?_ ?_
   | refine LeO.bind ?_ (fun _ => ?_)
theorem stowagelaw14_picked.mono : ∀ a0 k, LeO (stowagelaw14_picked.f k a0) (stowagelaw14_picked.f (k + 1) a0) := by
 intro a0 k
 have ih0 := stowagelaw14_picked.mono_l k
 unfold stowagelaw14_picked.f
 repeat' first
   | (with_reducible exact ih0 _ _ _)
   | (with_reducible exact LeO.refl _)
   | (with_reducible exact LeO.none _)
   | (with_reducible refine LeO.ite ?_ ?_)
   | (with_reducible refine LeO.bind ?_ (fun _ => ?_))
   | exact ih0 _ _ _
   | exact LeO.none _
   | refine LeO.ite ?_ ?_
   | refine LeO.bind ?_ (fun _ => ?_)
set_option maxHeartbeats 8000000 in
set_option maxRecDepth 100000 in
theorem stowagelaw14_picked.calls (k : Nat) (A0 : Option Addr) (c0 : Nat) (l0 : List (S61)) (r : List (S79)) (w : World) (hr0 : Kd.C k61 w A0 l0.length l0) (hc0 : l0.length ≤ c0) (h : stowagelaw14_picked.f k l0 = some r) :
  Calls Tryd.prog 12 #[.slice A0 l0.length c0] w fun e w' => ∃ v0_ : Value, e = .returned (v0_) ∧ Kd.R k79 79 w' w.heap.size (fun _ => True) v0_ r ∧ Below w.heap.size w w' := by
 have hu61 := Tryd.underlying61
 have HR0 := Aside0.mk hr0
 have HC0 := Aside0.mk hc0
 clear hr0 hc0
 have HB := Aside0.mk (Below.refl w.heap.size w)
 have H : (stowagelaw14_picked.l0 k l0 ([] : List (S79)) 0) = some r := h
 clear h
 have H' := Aside0.mk H
 clear H
 go_enter Tryd.func12, Tryd.ntmps12
 go_wp2
 go_loopg [3, 4] k (fun kq v3 v4 w' => ∃ (x3_1 : List (S79)) (x4_1 : Int), v4 = .int .i64 x4_1 ∧ Aside0 (stowagelaw14_picked.l0 kq l0 x3_1 x4_1 = some r) ∧ Aside0 (kq ≤ k) ∧ Aside0 (Kd.R k79 79 w' w.heap.size (fun _ => True) v3 x3_1) ∧ Aside0 (Below w.heap.size w w'))
 case atStart => exact ⟨(([] : List (S79))), (0), (by first | rfl | (simp; done) | (simp [*]; done)), H', ⟨Nat.le_refl _⟩, ⟨by first | exact Kd.R_nil _ _ _ _ _ | exact Kd.N_nil _ _ _ _ _ | exact Kd.V_nil _ _ _ _ _ | exact Kd.Q_nil _ _ _ _ _ | exact Kd.S_nil _ _ _ _ _⟩, ⟨bw HB.out⟩⟩
 case round =>
  clear H'
  try clear c1
  obtain ⟨x3_1, x4_1, rfl, HA, HK1, HO_3, HB⟩ := hrel
  cases gk with
  | zero => exact absurd HA.out (by simp [stowagelaw14_picked.l0])
  | succ k1 =>
   have H := HA.out
   clear HA
   simp only [stowagelaw14_picked.l0] at H
   by_cases c2 : x4_1 < (l0.length : Int)
   ·
    rw [if_pos c2] at H
    have c2b0 : decide (x4_1 < (l0.length : Int)) = true := decide_eq_true c2
    clear c2
    by_cases c3 : 0 ≤ x4_1
    ·
     rw [if_pos c3] at H
     have c3b0 : decide (0 ≤ x4_1) = true := decide_eq_true c3
     clear c3
     by_cases c4 : x3_1.length < 5864062014805
     ·
      rw [if_pos c4] at H
      have LMc4 := Aside0.mk c4
      clear c4
      obtain ⟨y206, hy206⟩ : ∃ y_ : List (S79), y_ = (x3_1 ++ [(⟨(rd_T61 l0 x4_1).f0, (rd_T61 l0 x4_1).f1⟩ : S79)]) := ⟨_, rfl⟩
      replace H : (stowagelaw14_picked.l0 k1 l0 y206 (wrap64 (x4_1 + 1))) = some r := by first | (rw [hy206]; with_reducible exact H) | (have H2_ := (Option.bind_some _ _).symm.trans H; rw [hy206]; with_reducible exact H2_) | (have H2_ := (Option.bind_some _ _).symm.trans H; with_reducible exact H2_) | with_reducible exact H | (rw [hy206]; exact H) | exact H
      have Ny206 := Aside0.mk hy206
      clear hy206
      have H' := Aside0.mk H
      clear H
      have p205 : 0 ≤ (x4_1 : Int) := of_decide_eq_true asm
      have q205 : x4_1 < (l0.length : Int) := of_decide_eq_true asm
      obtain ⟨ad205, e205, hx205_0, hx205_1⟩ := at_T61 HR0.out x4_1 p205 q205
      cases e205
      replace hx205_0 := bc HB.out hx205_0
      replace hx205_1 := bc HB.out hx205_1
      replace p205 := eq_true p205
      replace q205 := eq_true q205
      go_wp2_with (first | ((with_reducible refine gate_builtin (b := .append) (xs := #[.tmp 11, .tmp 16]) rfl ?_); at_builtin; refine Kd.R_append k79 (w0 := w) w.heap.size rfl (.tmp 11) (.tmp 16) 37 79 (.agg #[(.int .i64 0), (.string ⟨#[]⟩)]) 24 rfl Tryd.underlying37 info79 rfl (by decide) (by omega) u3 x3_1 (⟨(rd_T61 l0 x4_1).f0, (rd_T61 l0 x4_1).f1⟩ : S79) [.int .i64 ((rd_T61 l0 x4_1).f0), .string ((rd_T61 l0 x4_1).f1)] (fun _ => True) (fun _ => False) rfl rfl ?aP (fun _ hk => hk.elim) ?aF ?aO ?aB ?aS ?aL ?_; (case aP => exact k79_mkM _ _ _ (⟨(rd_T61 l0 x4_1).f0, (rd_T61 l0 x4_1).f1⟩ : S79)); (case aB => exact (bw HB.out)); (case aF => exact (fun _ _ => trivial)); (case aO => exact (kR HO_3.out)); (case aS => exact (below_size (bw HB.out))); (case aL => have := LMc4.out; omega); intro v207 w5 ho hb hg hat; rw [← Ny206.out] at ho; have n0_ := Aside0.mk (hb); have n1_ := Aside0.mk (ho); clear HB; clear HO_3; have HB := n0_; have HO208 := n1_; clear n0_ n1_; clear ho hb hg hat))
      go_roundg k1
      case measure => have := HK1.out; omega
      case rel => exact ⟨(y206), (wrap64 (x4_1 + 1)), (by first | rfl | (simp; done) | (simp [*]; done)), H', ⟨by have := HK1.out; omega⟩, ⟨kR HO208.out⟩, ⟨bw HB.out⟩⟩
     ·
      rw [if_neg c4] at H
      exact absurd H (by simp)
    ·
     rw [if_neg c3] at H
     exact absurd H (by simp)
   ·
    rw [if_neg c2] at H
    have c2b0 : decide (x4_1 < (l0.length : Int)) = false := decide_eq_false c2
    clear c2
    obtain rfl := Option.some.inj H
    go_wp2
    go_ret
    exact ⟨_, by first | rfl | (simp [errW_none, errW_some] <;> rfl) | (simp [*, errW_none, errW_some] <;> rfl), by (with_reducible repeat (first | apply Kd.R_alloc | apply Kd.R_drewN | apply Kd.R_drew)); exact HO_3.out, by repeat (first | (with_reducible first | exact HB.out | apply below_alloc | apply pw_below_drewN | apply below_drew1) | exact HB.out)⟩

end Go.Proofs.YtoiockmmlanimaaDoor.Oj
end
section
-- Written for this claim by hyb.py, a driver of this session's over the kit's printer.
namespace Go.Proofs.YtoiockmmlanimaaDoor.Oj
open Go.RowKit Go.Proofs.YtoiockmmlanimaaDoorW.PrintWords Go.Proofs.YtoiockmmlanimaaDoorW.PrintLast Go.Proofs.YtoiockmmlanimaaDoorW.PrintMore
attribute [local go_sem] max2_int min2_int max_two min_two max_three min_three max_four min_four   -- for this text's walks alone
set_option linter.unusedVariables false
set_option linter.unusedSimpArgs false

/-! ### EXT api_Piece: function 66 -/
def api_Piece.f (l0 : List (S63)) : Option (List (S63)) := if l0.length ≤ 1000000000 then some l0 else none
def api_Piece_cells (ys : List S63) : List Value := ys.flatMap fun y => [.string y.f0, .int .i64 y.f1]
theorem api_Piece_cells_length (ys : List S63) : (api_Piece_cells ys).length = ys.length * 2 := by
  induction ys with
  | nil => rfl
  | cons y ys ih => simp only [api_Piece_cells, List.flatMap_cons, List.length_append, List.length_cons, List.length_nil] at ih ⊢; rw [ih]; omega
theorem api_Piece_cells_snoc (ys : List S63) (y : S63) : api_Piece_cells (ys ++ [y]) = api_Piece_cells ys ++ [.string y.f0, .int .i64 y.f1] := by simp [api_Piece_cells]
theorem api_Piece_one (ys : List S63) : ∀ u ∈ api_Piece_cells ys, u.oneCell' = true := by
  intro u hu
  obtain ⟨y, _, hy⟩ := List.mem_flatMap.1 hu
  simp only [List.mem_cons, List.not_mem_nil, or_false] at hy
  rcases hy with rfl | rfl <;> rfl
theorem api_Piece_reps (w : World) (base : Nat) (ok : Nat → Prop) : ∀ ys : List S63, Reps (k63.M w base ok) 2 ys (api_Piece_cells ys) := by
  intro ys
  have H : ∀ zs : List S63, ∀ ys : List S63, Reps (k63.M w base ok) 2 ys (api_Piece_cells ys) → Reps (k63.M w base ok) 2 (ys ++ zs) (api_Piece_cells (ys ++ zs)) := by
    intro zs
    induction zs with
    | nil => intro ys h; simpa using h
    | cons z zs ih =>
      intro ys h
      have h1 := ih (ys ++ [z]) (by rw [api_Piece_cells_snoc]; exact h.snoc (k63_mkM _ _ _ z) rfl)
      simpa using h1
  simpa using H ys [] (Reps.none _ _)
theorem api_Piece_row {w : World} {base : Nat} {v : Value} {ys : List S63} (h : w.ownsRow base 63 2 v ys.length (api_Piece_cells ys)) : Kd.R k63 63 w base (fun _ => True) v ys :=
  ⟨fun _ _ => trivial, _, h, api_Piece_reps _ _ _ ys⟩
theorem api_Piece_at (w : World) (ad : Addr) : ∀ (l : List S63) (o : Nat), (∀ (i : Nat) (y : S63), l[i]? = some y → w.cell? (ad.add (o + i * 2)) = some (.string y.f0) ∧ w.cell? (ad.add (o + i * 2 + 1)) = some (.int .i64 y.f1)) → ∀ j u, (api_Piece_cells l)[j]? = some u → w.cell? (ad.add (o + j)) = some u := by
  intro l
  induction l with
  | nil => intro o _ j u hj; simp [api_Piece_cells] at hj
  | cons y l ih =>
    intro o H j u hj
    obtain ⟨g0, g1⟩ := H 0 y rfl
    rw [Nat.zero_mul, Nat.add_zero] at g0 g1
    have hc : api_Piece_cells (y :: l) = .string y.f0 :: .int .i64 y.f1 :: api_Piece_cells l := rfl
    rw [hc] at hj
    match j, hj with
    | 0, hj => simp at hj; subst hj; exact g0
    | 1, hj => simp at hj; subst hj; exact g1
    | j + 2, hj =>
      have := ih (o + 2) (fun i z hz => by
        have := H (i + 1) z hz
        rw [show o + (i + 1) * 2 = o + 2 + i * 2 by omega] at this
        exact this) j u (by simpa using hj)
      rw [show o + (j + 2) = o + 2 + j by omega]
      exact this
set_option maxRecDepth 100000 in
set_option maxHeartbeats 1000000 in
theorem api_Piece_nil (c0 : Nat) (w : World) :
    Calls Tryd.prog 66 #[.slice none 0 c0] w fun e w' => e = .returned (.slice none 0 0) ∧ Below w.heap.size w w' := by
  have q22 : ∀ (w : World) (a : Option Addr) (n c n' c' : Nat), (binOp .eql 24 (.slice a n c) (.slice none n' c')).run Tryd.prog w = .ok (.bool a.isNone) w := fun w a n c n' c' => Lib.run_eql_slice_nil w _ _ a n c n' c' Tryd.underlying24
  go_enter Tryd.func66, Tryd.ntmps66
  go_wp2
  go_ret
  exact ⟨rfl, Below.refl _ _⟩
set_option maxRecDepth 100000 in
set_option maxHeartbeats 1000000 in
theorem api_Piece_some (ad : Addr) (c0 : Nat) (l0 : List (S63)) (w : World) (hr0 : Kd.C k63 w (some ad) l0.length l0) (hc0 : l0.length ≤ c0) (hl : l0.length ≤ 1000000000) :
    Calls Tryd.prog 66 #[.slice (some ad) l0.length c0] w fun e w' => ∃ v0_ : Value, e = .returned v0_ ∧ w'.ownsRow w.heap.size 63 2 v0_ l0.length (api_Piece_cells l0) ∧ Below w.heap.size w w' := by
  have q22 : ∀ (w : World) (a : Option Addr) (n c n' c' : Nat), (binOp .eql 24 (.slice a n c) (.slice none n' c')).run Tryd.prog w = .ok (.bool a.isNone) w := fun w a n c n' c' => Lib.run_eql_slice_nil w _ _ a n c n' c' Tryd.underlying24
  have hcells : Hid (∀ j u, (api_Piece_cells l0)[j]? = some u → w.cell? (ad.add j) = some u) := Lib.hid (by
    have := api_Piece_at w ad l0 0 (fun i y hy => by
      have hi : i < l0.length := by
        rcases Nat.lt_or_ge i l0.length with h | h
        · exact h
        · rw [List.getElem?_eq_none h] at hy; cases hy
      obtain ⟨ad', e, x0, x1⟩ := at_T63 hr0 (i : Int) (by omega) (by omega)
      cases e
      have hrd : rd_T63 l0 (i : Int) = y := by
        unfold rd_T63
        rw [Int.toNat_natCast, List.getD_eq_getElem?_getD, hy]
        rfl
      rw [hrd, Int.toNat_natCast] at x0 x1
      rw [Nat.zero_add]
      have ha : ∀ n j : Nat, 0 < j → ad.add (n + j) = ⟨(ad.add n).block, (ad.add n).off + j, none⟩ := fun n j hj => by
        unfold Addr.add
        rw [if_neg (by omega)]
        by_cases h0 : n = 0
        · subst h0; simp
        · rw [if_neg h0]; simp [Nat.add_assoc]
      exact ⟨x0, by rw [ha _ 1 (by omega)]; exact x1⟩)
    simpa using this)
  clear hr0
  obtain ⟨i0, hi, hz0, hz1, hz2⟩ : ∃ i0, Tryd.prog.info? 63 = some i0 ∧ i0.zero = some (.agg #[(.string ⟨#[]⟩), (.int .i64 0)]) ∧ i0.size = 2 ∧ i0.bytes = 24 := by
    have h : (Tryd.prog.info? 63).map (fun i => (i.zero, i.size, i.bytes)) = some (some (.agg #[(.string ⟨#[]⟩), (.int .i64 0)]), 2, 24) := by kernel_rfl
    cases hq : Tryd.prog.info? 63 with
    | none => rw [hq] at h; cases h
    | some i0 => rw [hq] at h; simp at h; exact ⟨i0, rfl, h.1, h.2.1, h.2.2⟩
  go_enter Tryd.func66, Tryd.ntmps66
  go_wp2_with (at_builtin; refine wpList_append_own _ rfl _ _ 24 rfl w.heap.size 63 i0 _ 2 24 Tryd.underlying24 hi hz0 hz1 hz2 rfl (by decide) _ _ _ rfl (World.ownsRow_made w #[] 0 (Nat.le_refl _) (Nat.zero_le _) (by simp)) ad l0.length c0 (api_Piece_cells l0) rfl ?qc1 ?qc2 ?qc3 ?qc4 ?qc5 ?qc6 ?_)
  case qc1 => exact api_Piece_cells_length l0
  case qc2 => intro j u hj; exact Lib.cell?_alloc_some _ (hcells.out j u hj)
  case qc3 => exact api_Piece_one l0
  case qc4 => unfold maxLen; omega
  case qc5 => omega
  case qc6 => simp
  intro v' w1 hown hgrow hnil
  go_wp2
  go_ret
  exact ⟨_, rfl, by simpa using hown, ((Below.refl _ w).alloc (Nat.le_refl _) _).grown hgrow (by simp) (fun k e => by simp [Value.ownBlock] at e; omega)⟩
theorem api_Piece_own (A0 : Option Addr) (c0 : Nat) (l0 : List (S63)) (w : World) (hr0 : Kd.C k63 w A0 l0.length l0) (hc0 : l0.length ≤ c0) (hl : l0.length ≤ 1000000000) :
    Calls Tryd.prog 66 #[.slice A0 l0.length c0] w fun e w' => ∃ v0_ : Value, e = .returned v0_ ∧ w'.ownsRow w.heap.size 63 2 v0_ l0.length (api_Piece_cells l0) ∧ Below w.heap.size w w' := by
  cases A0 with
  | none =>
    obtain rfl : l0 = [] := by
      rcases l0 with _ | ⟨y, l⟩
      · rfl
      · obtain ⟨ad', e, _⟩ := at_T63 hr0 0 (by omega) (by simp)
        cases e
    exact (api_Piece_nil c0 w).mono fun e w' ⟨h1, h2⟩ => ⟨_, h1, World.ownsRow_nil _ _ _ _, h2⟩
  | some ad => exact api_Piece_some ad c0 l0 w hr0 hc0 hl
theorem api_Piece.calls (A0 : Option Addr) (c0 : Nat) (l0 : List (S63)) (r : List (S63)) (w : World) (hr0 : Kd.C k63 w A0 l0.length l0) (hc0 : l0.length ≤ c0) (h : api_Piece.f l0 = some r) :
    Calls Tryd.prog 66 #[.slice A0 l0.length c0] w fun e w' => ∃ v0_ : Value, e = .returned v0_ ∧ Kd.R k63 63 w' w.heap.size (fun _ => True) v0_ r ∧ Below w.heap.size w w' := by
  unfold api_Piece.f at h
  split at h
  · rename_i hl
    cases h
    exact (api_Piece_own A0 c0 l0 w hr0 hc0 hl).mono fun e w' ⟨v, h1, h2, h3⟩ => ⟨v, h1, api_Piece_row h2, h3⟩
  · cases h

end Go.Proofs.YtoiockmmlanimaaDoor.Oj
end
section
-- Written for this claim by hyb.py, a driver of this session's over the kit's printer.
namespace Go.Proofs.YtoiockmmlanimaaDoor.Oj
open Go.RowKit Go.Proofs.YtoiockmmlanimaaDoorW.PrintWords Go.Proofs.YtoiockmmlanimaaDoorW.PrintLast Go.Proofs.YtoiockmmlanimaaDoorW.PrintMore
attribute [local go_sem] max2_int min2_int max_two min_two max_three min_three max_four min_four   -- for this text's walks alone
set_option linter.unusedVariables false
set_option linter.unusedSimpArgs false

/-! ### parts_own: function 40 -/
def parts_own.l0 : Nat → List (S46) → List (S46) → Int → Int → Option ((List (S46)))
  | 0, _, _, _, _ => none
  | k + 1, x3, x6, x7, x8 => if x8 < x7 then (if 0 ≤ x8 then (if x8 < (x6.length : Int) then ((api_Piece.f ((rd_T46 x6 x8).f3)).bind fun t211 => (if x3.length < 2513169434916 then (parts_own.l0 k (x3 ++ [(⟨(rd_T46 x6 x8).f0, (rd_T46 x6 x8).f1, (rd_T46 x6 x8).f2, t211⟩ : S46)]) x6 x7 (wrap64 (x8 + 1))) else (none))) else (none)) else (none)) else (some x3)
def parts_own.f (k : Nat) (l0 : List (S46)) : Option ((List (S46))) := parts_own.l0 k ([] : List (S46)) l0 (l0.length : Int) 0
theorem parts_own.mono_l : ∀ k, (∀ y0 y1 y2 y3, LeO (parts_own.l0 k y0 y1 y2 y3) (parts_own.l0 (k + 1) y0 y1 y2 y3))
  | 0 => fun _ _ _ _ r h => by simp [parts_own.l0] at h
  | k + 1 => by
    have ih0 := parts_own.mono_l k
    · intro y0 y1 y2 y3
      unfold parts_own.l0
      repeat' first
      | (with_reducible exact ih0 _ _ _ _)
      | (with_reducible exact LeO.refl _)
      | (with_reducible exact LeO.none _)
      | (with_reducible refine LeO.ite ?_ ?_)
      | (with_reducible refine LeO.bind ?_ (fun _ => ?_))
      | exact ih0 _ _ _ _
      | exact LeO.none _
      | refine LeO.ite ?_ ?_
      | refine LeO.bind ?_ (fun _ => ?_)
theorem parts_own.mono : ∀ a0 k, LeO (parts_own.f k a0) (parts_own.f (k + 1) a0) := by
  intro a0 k
  have ih0 := parts_own.mono_l k
  unfold parts_own.f
  repeat' first
      | (with_reducible exact ih0 _ _ _ _)
      | (with_reducible exact LeO.refl _)
      | (with_reducible exact LeO.none _)
      | (with_reducible refine LeO.ite ?_ ?_)
      | (with_reducible refine LeO.bind ?_ (fun _ => ?_))
      | exact ih0 _ _ _ _
      | exact LeO.none _
      | refine LeO.ite ?_ ?_
      | refine LeO.bind ?_ (fun _ => ?_)
set_option maxHeartbeats 8000000 in
set_option maxRecDepth 100000 in
theorem parts_own.calls (k : Nat) (A0 : Option Addr) (c0 : Nat) (l0 : List (S46)) (r : List (S46)) (w : World) (hr0 : Kd.C k46 w A0 l0.length l0) (hc0 : l0.length ≤ c0) (h : parts_own.f k l0 = some r) :
    Calls Tryd.prog 40 #[.slice A0 l0.length c0] w fun e w' => ∃ v0_ : Value, e = .returned (v0_) ∧ Kd.S k46 46 w' w.heap.size (fun _ => True) v0_ r ∧ Below w.heap.size w w' := by
  have hu46 := Tryd.underlying46
  have HR0 := Aside0.mk hr0
  have HC0 := Aside0.mk hc0
  clear hr0 hc0
  have HB := Aside0.mk (Below.refl w.heap.size w)
  have H : (parts_own.l0 k ([] : List (S46)) l0 (l0.length : Int) 0) = some r := h
  clear h
  have H' := Aside0.mk H
  clear H
  go_enter Tryd.func40, Tryd.ntmps40
  go_wp2
  go_loopg [3, 8] k (fun kq v3 v8 w' => ∃ (x3_1 : List (S46)) (x8_1 : Int), v8 = .int .i64 x8_1 ∧ Aside0 (parts_own.l0 kq x3_1 l0 (l0.length : Int) x8_1 = some r) ∧ Aside0 (kq ≤ k) ∧ Aside0 (Kd.S k46 46 w' w.heap.size (fun _ => True) v3 x3_1) ∧ Aside0 (Below w.heap.size w w'))
  case atStart => exact ⟨(([] : List (S46))), (0), (by first | rfl | (simp; done) | (simp [*]; done)), H', ⟨Nat.le_refl _⟩, ⟨by first | exact Kd.S_nil _ _ _ _ _ | exact Kd.N_nil _ _ _ _ _ | exact Kd.V_nil _ _ _ _ _ | exact Kd.Q_nil _ _ _ _ _ | exact Kd.R_nil _ _ _ _ _⟩, ⟨bw HB.out⟩⟩
  case round =>
    clear H'
    obtain ⟨x3_1, x8_1, rfl, HA, HK1, HO_3, HB⟩ := hrel
    cases gk with
    | zero => exact absurd HA.out (by simp [parts_own.l0])
    | succ k1 =>
      have H := HA.out
      clear HA
      simp only [parts_own.l0] at H
      by_cases c2 : x8_1 < (l0.length : Int)
      · rw [if_pos c2] at H
        have c2b0 : decide (x8_1 < (l0.length : Int)) = true := decide_eq_true c2
        clear c2
        by_cases c3 : 0 ≤ x8_1
        · rw [if_pos c3] at H
          have c3b0 : decide (0 ≤ x8_1) = true := decide_eq_true c3
          clear c3
          by_cases c4 : x8_1 < (l0.length : Int)
          · rw [if_pos c4] at H
            have c4b0 : decide (x8_1 < (l0.length : Int)) = true := decide_eq_true c4
            clear c4
            replace H := Option.bind_eq_some_iff.mp H
            obtain ⟨t211, A50, H⟩ := H
            replace H : (if x3_1.length < 2513169434916 then (parts_own.l0 k1 (x3_1 ++ [(⟨(rd_T46 l0 x8_1).f0, (rd_T46 l0 x8_1).f1, (rd_T46 l0 x8_1).f2, t211⟩ : S46)]) l0 (l0.length : Int) (wrap64 (x8_1 + 1))) else (none)) = some r := H
            have A5 := Aside0.mk A50
            clear A50
            by_cases c6 : x3_1.length < 2513169434916
            · rw [if_pos c6] at H
              have LMc6 := Aside0.mk c6
              clear c6
              obtain ⟨y214, hy214⟩ : ∃ y_ : List (S46), y_ = (x3_1 ++ [(⟨(rd_T46 l0 x8_1).f0, (rd_T46 l0 x8_1).f1, (rd_T46 l0 x8_1).f2, t211⟩ : S46)]) := ⟨_, rfl⟩
              replace H : (parts_own.l0 k1 y214 l0 (l0.length : Int) (wrap64 (x8_1 + 1))) = some r := by first | (rw [hy214]; with_reducible exact H) | (have H2_ := (Option.bind_some _ _).symm.trans H; rw [hy214]; with_reducible exact H2_) | (have H2_ := (Option.bind_some _ _).symm.trans H; with_reducible exact H2_) | with_reducible exact H | (rw [hy214]; exact H) | exact H
              have Ny214 := Aside0.mk hy214
              clear hy214
              have H' := Aside0.mk H
              clear H
              have p209 : 0 ≤ (x8_1 : Int) := of_decide_eq_true asm
              have q209 : x8_1 < (l0.length : Int) := of_decide_eq_true asm
              obtain ⟨ad209, A209_3, c209_3, e209, hx209_0, hx209_1, hx209_2, hx209_3, hl209_3, hi209_3⟩ := at_T46 HR0.out x8_1 p209 q209
              cases e209
              replace hx209_0 := bc HB.out hx209_0
              replace hx209_1 := bc HB.out hx209_1
              replace hx209_2 := bc HB.out hx209_2
              replace hx209_3 := bc HB.out hx209_3
              have HR209_3 := Aside0.mk hi209_3
              have HC209_3 := Aside0.mk hl209_3
              clear hi209_3 hl209_3
              replace p209 := eq_true p209
              replace q209 := eq_true q209
              go_wp2_with (first | ((with_reducible refine gate_dst (N := 5) rfl ?_); refine box_event ?hg (N := 5) ?hd (cs := #[.int .i64 0, .int .i64 0, .string (⟨#[]⟩ : ByteArray), .slice none 0 0]) (t := 46) ?hr ?_; (case hd => rfl); (case hg => rfl); (case hr => first | (go_simp; done) | (go_simp; rfl)); intro gb210 hg w7 hbox hb; have n0_ := Aside0.mk (Kd.S_below (Kd.S_elderB (kS HO_3.out) gb210 (Nat.le_of_eq hg.symm)) hb); have n1_ := Aside0.mk (below_step (bw HB.out) hb); have n2_ := Aside0.mk (hbox); have n3_ := Aside0.mk ((by rw [hg]; exact (below_size (bw HB.out)) : w.heap.size ≤ gb210)); have n4_ := Aside0.mk ((by rw [hg]; exact (below_size (bw HB.out)) : w.heap.size ≤ gb210)); clear HO_3; clear HB; have HO_3 := n0_; have HB := n1_; have BK210 := n2_; have GW210 := n3_; have GE210 := n4_; clear n0_ n1_ n2_ n3_ n4_; clear hb hbox hg; obtain ⟨hcz8_0, hcz8_1, hcz8_2, hcz8_3, hfz8_0, hfz8_1, hfz8_2, hfz8_3⟩ := cz4 BK210.out) | ((with_reducible refine gate_callee (f := 66) rfl ?_); refine goesL_ (some 14) rfl rfl Tryd.func66 (by kernel_rfl) rfl #[.slice A209_3 ((rd_T46 l0 x8_1).f3).length c209_3] rfl gl ?_; (with_reducible refine (api_Piece.calls _ _ ((rd_T46 l0 x8_1).f3) t211 _ ?side1 ?side2 A5.out).mono ?_); (case side1 => exact Kd.C_below HR209_3.out (bws HB.out)); (case side2 => exact HC209_3.out); rintro e w9 ⟨v212, rfl, ho0, hb⟩; refine ⟨_, rfl, ?_⟩; replace HO_3 := Aside0.mk (Kd.S_elder' (by (with_reducible repeat (first | apply Kd.S_alloc | apply Kd.S_drewN | apply Kd.S_drew)); exact (Kd.S_mono (Kd.S_far (p := ⟨gb210, 3, none⟩) (Kd.S_far (p := ⟨gb210, 2, none⟩) (Kd.S_far (p := ⟨gb210, 1, none⟩) (Kd.S_far (p := ⟨gb210, 0, none⟩) (Kd.S_mono HO_3.out (fun k_ hk => (⟨hk, hk.2⟩ : _ ∧ k_ ≠ gb210))) (fun _ hk => hk.2) (.int .i64 ((rd_T46 l0 x8_1).f0))) (fun _ hk => hk.2) (.int .i64 ((rd_T46 l0 x8_1).f1))) (fun _ hk => hk.2) (.string ((rd_T46 l0 x8_1).f2))) (fun _ hk => hk.2) (.slice A209_3 ((rd_T46 l0 x8_1).f3).length c209_3)) (fun _ h_ => h_.1))) (Kd.R_base ho0) hb); have HO213 := Aside0.mk (Kd.R_lower ho0 (below_size (bws HB.out))); replace BK210 := Aside0.mk (blk_below (g := gb210) (o := .cells #[.int .i64 ((rd_T46 l0 x8_1).f0), .int .i64 ((rd_T46 l0 x8_1).f1), .string ((rd_T46 l0 x8_1).f2), .slice A209_3 ((rd_T46 l0 x8_1).f3).length c209_3] 46 (0, 0)) (bkp BK210.out) hb); replace HB := Aside0.mk (below_step (bws HB.out) hb); (try clear hb); (try clear hb2); (try clear hk); (try clear hi); (try clear ho0); obtain ⟨Ao10, co10, eo10⟩ := Kd.R_slice HO213.out; subst eo10; obtain ⟨hcz11_0, hcz11_1, hcz11_2, hcz11_3, hfz11_0, hfz11_1, hfz11_2, hfz11_3⟩ := cz4 BK210.out) | ((with_reducible refine gate_store (t := 24) (p := 15) rfl ?_); refine store_event (t := 24) (p := 15) (v := ?vo_w12) (w1 := (w9.setCell ⟨gb210, 3, none⟩ (.slice Ao10 t211.length co10))) ?hg ?ho ?hn ?hr ?_; (case ho => rfl); (case hg => rfl); (case hn => rfl); (case hr => first | (go_simp; done) | (go_simp; rfl)); intro w12 hw; have n0_ : Aside0 (Kd.S k46 46 w12 w.heap.size (fun k_ => some k_ ≠ (.slice Ao10 t211.length co10 : Value).ownBlock ∧ k_ ≠ gb210) u3 x3_1) := ⟨(by rw [hw]; exact (by (with_reducible repeat (first | apply Kd.S_alloc | apply Kd.S_drewN | apply Kd.S_drew)); exact Kd.S_mono (Kd.S_far (p := ⟨gb210, 3, none⟩) (Kd.S_mono HO_3.out (fun k_ hk => (⟨hk, hk.1.2⟩ : _ ∧ k_ ≠ gb210))) (fun _ hk => hk.2) (.slice Ao10 t211.length co10)) (fun _ hk => ⟨hk.1.2, hk.1.1.2⟩)))⟩; have n1_ : Aside0 (Kd.R k63 63 w12 w.heap.size (fun _ => True) (.slice Ao10 t211.length co10) t211) := ⟨(by rw [hw]; exact (by (with_reducible repeat (first | apply Kd.R_alloc | apply Kd.R_drewN | apply Kd.R_drew)); exact Kd.R_mono (Kd.R_far (p := ⟨gb210, 3, none⟩) (Kd.R_types HO213.out BK210.out (by decide)) (fun _ hk => hk.2) (.slice Ao10 t211.length co10)) (fun _ hk => trivial)))⟩; have n2_ : Aside0 (w12.heap[gb210]? = some (.cells #[.int .i64 ((rd_T46 l0 x8_1).f0), .int .i64 ((rd_T46 l0 x8_1).f1), .string ((rd_T46 l0 x8_1).f2), .slice Ao10 t211.length co10] 46 (0, 0))) := ⟨(by rw [hw]; exact (bkp BK210.out))⟩; have n3_ : Aside0 (Below w.heap.size w w12) := ⟨(by rw [hw]; exact (bws HB.out))⟩; clear hw; clear HO_3; clear HO213; clear BK210; clear HB; have HO_3 := n0_; have HO213 := n1_; have BK210 := n2_; have HB := n3_; clear n0_ n1_ n2_ n3_; obtain ⟨hcz13_0, hcz13_1, hcz13_2, hcz13_3, hfz13_0, hfz13_1, hfz13_2, hfz13_3⟩ := cz4 BK210.out) | ((with_reducible refine gate_builtin (b := .append) (xs := #[.tmp 16, .tmp 18]) rfl ?_); at_builtin; refine Kd.S_append k46 (w0 := w) w.heap.size rfl (.tmp 16) (.tmp 18) 22 46 (.agg #[(.int .i64 0), (.int .i64 0), (.string ⟨#[]⟩), (.slice none 0 0)]) 56 rfl Tryd.underlying22 info46 rfl (by decide) (by omega) u3 x3_1 (⟨(rd_T46 l0 x8_1).f0, (rd_T46 l0 x8_1).f1, (rd_T46 l0 x8_1).f2, t211⟩ : S46) [.int .i64 ((rd_T46 l0 x8_1).f0), .int .i64 ((rd_T46 l0 x8_1).f1), .string ((rd_T46 l0 x8_1).f2), .slice Ao10 t211.length co10] (fun k_ => k_ ≠ gb210) (fun k_ => some k_ = (.slice Ao10 t211.length co10 : Value).ownBlock) rfl rfl ?aP (fun k_ hk_ => ((Kd.R_mono (ok' := fun k_ => ((fun k_ => k_ ≠ gb210)) k_ ∧ some k_ ≠ (u3 : Value).ownBlock) (Kd.R_types (Kd.R_apart' (HO213.out) (Kd.S_typed HO_3.out) (by decide)) BK210.out (by decide)) (fun k_ hk => ⟨hk.2, hk.1.2⟩))).1 k_ hk_.symm) ?aF ?aO ?aB ?aS ?aL ?_; (case aP => exact k46_mkM _ _ _ (⟨(rd_T46 l0 x8_1).f0, (rd_T46 l0 x8_1).f1, (rd_T46 l0 x8_1).f2, t211⟩ : S46) (Kd.R_mono (Kd.R_tight rfl (Kd.R_mono (ok' := fun k_ => ((fun k_ => k_ ≠ gb210)) k_ ∧ some k_ ≠ (u3 : Value).ownBlock) (Kd.R_types (Kd.R_apart' (HO213.out) (Kd.S_typed HO_3.out) (by decide)) BK210.out (by decide)) (fun k_ hk => ⟨hk.2, hk.1.2⟩))) (fun _ h_ => h_))); (case aB => exact (bws HB.out)); (case aF => exact (fun k_ hk => Kd.freshB (g := gb210) (o := .cells #[.int .i64 ((rd_T46 l0 x8_1).f0), .int .i64 ((rd_T46 l0 x8_1).f1), .string ((rd_T46 l0 x8_1).f2), .slice Ao10 t211.length co10] 46 (0, 0)) (bk BK210.out) k_ hk)); (case aO => exact (by (with_reducible repeat (first | apply Kd.S_alloc | apply Kd.S_drewN | apply Kd.S_drew)); exact Kd.S_mono HO_3.out (fun k_ hk => ⟨hk.2, fun e_ => hk.1 e_⟩))); (case aS => exact (below_size (bws HB.out))); (case aL => have := LMc6.out; omega); intro v215 w14 ho hb hg hat; rw [← Ny214.out] at ho; have n0_ := Aside0.mk (blk_grown (g := gb210) (o := .cells #[.int .i64 ((rd_T46 l0 x8_1).f0), .int .i64 ((rd_T46 l0 x8_1).f1), .string ((rd_T46 l0 x8_1).f2), .slice Ao10 t211.length co10] 46 (0, 0)) (bk BK210.out) hg (Kd.S_away HO_3.out (fun _ hk => hk.2))); have n1_ := Aside0.mk (hb); have n2_ := Aside0.mk (ho); clear BK210; clear HB; clear HO_3; clear HO213; have BK210 := n0_; have HB := n1_; have HO216 := n2_; clear n0_ n1_ n2_; clear ho hb hg hat))
              go_roundg k1
              case measure => have := HK1.out; omega
              case rel => exact ⟨(y214), (wrap64 (x8_1 + 1)), (by first | rfl | (simp; done) | (simp [*]; done)), H', ⟨by have := HK1.out; omega⟩, ⟨by (with_reducible repeat (first | apply Kd.S_alloc | apply Kd.S_drewN | apply Kd.S_drew)); exact Kd.S_mono HO216.out (fun _ hk => trivial)⟩, ⟨bws HB.out⟩⟩
            · rw [if_neg c6] at H
              exact absurd H (by simp)
          · rw [if_neg c4] at H
            exact absurd H (by simp)
        · rw [if_neg c3] at H
          exact absurd H (by simp)
      · rw [if_neg c2] at H
        have c2b0 : decide (x8_1 < (l0.length : Int)) = false := decide_eq_false c2
        clear c2
        obtain rfl := Option.some.inj H
        go_wp2
        go_ret
        exact ⟨_, by first | rfl | (simp [errW_none, errW_some] <;> rfl) | (simp [*, errW_none, errW_some] <;> rfl), by (with_reducible repeat (first | apply Kd.S_alloc | apply Kd.S_drewN | apply Kd.S_drew)); exact HO_3.out, by repeat (first | (with_reducible first | exact HB.out | apply below_alloc | apply pw_below_drewN | apply below_drew1) | exact HB.out)⟩

end Go.Proofs.YtoiockmmlanimaaDoor.Oj
end
section
-- Written for this claim by hyb.py, a driver of this session's over the kit's printer.
namespace Go.Proofs.YtoiockmmlanimaaDoor.Oj
open Go.RowKit Go.Proofs.YtoiockmmlanimaaDoorW.PrintWords Go.Proofs.YtoiockmmlanimaaDoorW.PrintLast Go.Proofs.YtoiockmmlanimaaDoorW.PrintMore
attribute [local go_sem] max2_int min2_int max_two min_two max_three min_three max_four min_four   -- for this text's walks alone
set_option linter.unusedVariables false
set_option linter.unusedSimpArgs false

/-! ### EXT api_Part: function 41 -/
/-- Insert has a contract over rows (below), no printed one. -/
def api_Part.f (l0 : List (S46)) (a1 : Int) (l2 : List (S46)) : Option (List (S46)) := none
theorem api_Part_info : ∃ i0, Tryd.prog.info? 46 = some i0 ∧ i0.zero = some (.agg #[(.int .i64 0), (.int .i64 0), (.string ⟨#[]⟩), (.slice none 0 0)]) ∧ i0.size = 4 ∧ i0.bytes = 56 := by
  have h : (Tryd.prog.info? 46).map (fun i => (i.zero, i.size, i.bytes)) = some (some (.agg #[(.int .i64 0), (.int .i64 0), (.string ⟨#[]⟩), (.slice none 0 0)]), 4, 56) := by kernel_rfl
  cases hq : Tryd.prog.info? 46 with
  | none => rw [hq] at h; cases h
  | some i0 => rw [hq] at h; simp at h; exact ⟨i0, rfl, h.1, h.2.1, h.2.2⟩
set_option maxRecDepth 100000 in
set_option maxHeartbeats 1000000 in
theorem api_Part_end (B : Nat) (s : Value) (xs vs : List Value) (n vb : Nat) (w : World) (hs : w.ownsRow B 46 4 s n xs) (hn : n ≤ 1000000) (h1v : ∀ u ∈ vs, u.oneCell' = true) (hvl : vs.length = 4) (hv : ∀ j u, vs[j]? = some u → w.cell? ⟨vb, j, none⟩ = some u) (hB : B ≤ w.heap.size) :
    Calls Tryd.prog 41 #[s, .int .i64 n, .slice (some ⟨vb, 0, none⟩) 1 1] w fun e w' => ∃ v', e = .returned v' ∧ w'.ownsRow B 46 4 v' (n + 1) (xs ++ vs) ∧ w.grownBy w' s.ownBlock := by
  obtain ⟨i0, hi, hz0, hz1, hz2⟩ := api_Part_info
  have HV := Lib.hid hv
  have HS := Lib.hid hs
  rcases hs.2 with ⟨rfl, rfl⟩ | ⟨g, cap, cur, rfl, hbg, hg, hnc, hcm, hcs, htk⟩
  · clear hs hv
    go_enter Tryd.func41, Tryd.ntmps41
    go_wp2_with (at_builtin; refine wpList_append_own _ rfl _ _ 22 rfl B 46 i0 _ 4 56 Tryd.underlying22 hi hz0 hz1 hz2 rfl (by decide) _ _ _ rfl HS.out ⟨vb, 0, none⟩ 1 1 vs rfl ?qc1 ?qc2 ?qc3 ?qc4 ?qc5 ?qc6 ?_)
    case qc1 => exact hvl
    case qc2 => intro j u hj; rw [Addr.add_lit, Nat.zero_add]; exact HV.out j u hj
    case qc3 => exact h1v
    case qc4 => unfold maxLen; omega
    case qc5 => omega
    case qc6 => exact hB
    intro v' w1 hown hgrow hnil
    go_wp2
    go_ret
    exact ⟨_, rfl, hown, hgrow⟩
  · clear hs hv
    unfold maxLen at hcm
    have hcn : ¬ ((n : Int) < 0) := by omega
    clear htk hg hcs
    go_enter Tryd.func41, Tryd.ntmps41
    go_wp2_with (at_builtin; refine wpList_append_own _ rfl _ _ 22 rfl B 46 i0 _ 4 56 Tryd.underlying22 hi hz0 hz1 hz2 rfl (by decide) _ _ _ rfl HS.out ⟨vb, 0, none⟩ 1 1 vs rfl ?qd1 ?qd2 ?qd3 ?qd4 ?qd5 ?qd6 ?_)
    case qd2 => intro j u hj; have := HV.out j u hj; first | exact this | (rw [Addr.add_lit, Nat.zero_add]; exact this)
    case qd3 => exact h1v
    case qd4 => unfold maxLen; omega
    case qd5 => omega
    all_goals
      intro v' w1 hown hgrow hnil
      go_wp2
      go_ret
      exact ⟨_, rfl, hown, hgrow⟩
set_option maxRecDepth 100000 in
set_option maxHeartbeats 4000000 in
theorem api_Part_grow (B g n cap i vb : Nat) (cur : Array Value) (tv : TypeId) (xs vs : List Value) (w : World) (hi : i < n) (hn : n ≤ 1000000) (hnc : n ≤ cap) (hroom : cap < n + 1) (hcm : cap ≤ maxLen) (hB : B ≤ w.heap.size)
    (hg : w.heap[g]? = some (.cells cur 46 (0, 0))) (hcs : cur.size = cap * 4) (htk : cur.toList.take (n * 4) = xs) (h1x : ∀ u ∈ xs, u.oneCell' = true) (h1v : ∀ u ∈ vs, u.oneCell' = true) (hvl : vs.length = 4)
    (hv : w.heap[vb]? = some (.cells vs.toArray tv (0, 0))) (hvb : vb ≠ g) :
    Calls Tryd.prog 41 #[.slice (some ⟨g, 0, none⟩) n cap, .int .i64 i, .slice (some ⟨vb, 0, none⟩) 1 1] w fun e w' => ∃ v', e = .returned v' ∧ w'.ownsRow B 46 4 v' (n + 1) (xs.take (i * 4) ++ vs ++ xs.drop (i * 4)) ∧ w.grownBy w' (some g) := by
  obtain ⟨i0, hi0, hz0, hz1, hz2⟩ := api_Part_info
  have hu : Tryd.prog.underlying 22 = some (.slice 46) := Tryd.underlying22
  have hu3 : Tryd.prog.underlying 3 = some (.int .i64) := Tryd.underlying3
  have hsz : (Tryd.prog.info? 46).map (·.size) = some 4 := by rw [hi0]; simp [hz1]
  have hgl : g < w.heap.size := (Array.getElem?_eq_some_iff.1 hg).1
  have hvll : vb < w.heap.size := (Array.getElem?_eq_some_iff.1 hv).1
  have hxl : xs.length = n * 4 := by rw [← htk, List.length_take, Array.length_toList, hcs]; omega
  have hxc : ∀ j v, xs[j]? = some v → w.cell? ⟨g, j, none⟩ = some v := fun j v hj => by
    rw [cell_of_row w g j cur _ _ hg]
    rw [← htk, List.getElem?_take] at hj
    split at hj
    · simpa using hj
    · cases hj
  have hvc : ∀ j v, vs[j]? = some v → w.cell? ⟨vb, j, none⟩ = some v := fun j v hj => by
    rw [cell_of_row w vb j vs.toArray _ _ hv]; simpa using hj
  have hold : (Builtin.firstCells i0.size i (.slice (some ⟨g, 0, none⟩) i cap)).run Tryd.prog w.drew = .ok (xs.take (i * 4)).toArray w.drew := by
    rw [hz1]
    exact run_firstCells_some w.drew 4 i ⟨g, 0, none⟩ i cap (xs.take (i * 4)) (by rw [List.length_take, hxl]; omega) (fun j v hj => by
      rw [Addr.add_lit, Nat.zero_add]
      rw [List.getElem?_take] at hj
      split at hj
      · exact hxc j v hj
      · cases hj)
  obtain ⟨G, hG⟩ : ∃ G, G = grownCap w (n + 1) cap 46 := ⟨_, rfl⟩
  have hGn : n + 1 ≤ G := by rw [hG]; exact grownCap_ge w _ _ _
  have hGm : G ≤ maxLen := by rw [hG]; exact grownCap_le_maxLen w (n + 1) cap _ (by unfold maxLen; omega)
  obtain ⟨Z, hZ⟩ : ∃ Z : Array Value, Z = Builtin.zeroCells (Value.agg #[(.int .i64 0), (.int .i64 0), (.string ⟨#[]⟩), (.slice none 0 0)]).cells (n + 1 - i) ++ Builtin.zeroCells (Value.agg #[(.int .i64 0), (.int .i64 0), (.string ⟨#[]⟩), (.slice none 0 0)]).cells (G - (n + 1)) := ⟨_, rfl⟩
  have hZl : Z.toList.length = (G - i) * 4 := by
    rw [hZ, Array.length_toList, Array.size_append, size_zeroCells, size_zeroCells]
    show (n + 1 - i) * 4 + (G - (n + 1)) * 4 = _
    omega
  obtain ⟨ROW, hROW⟩ : ∃ ROW : Array Value, ROW = (xs.take (i * 4)).toArray ++ Z := ⟨_, rfl⟩
  have hrz : ∀ ty, (Builtin.append_ #[22, 3] ty #[.slice (some ⟨g, 0, none⟩) i cap, .int .i64 ((n : Int) + 1 - (i : Int))]).run Tryd.prog w =
      .ok (.slice (some ⟨w.heap.size, 0, none⟩) (n + 1) G) (w.drew.alloc (.cells ROW 46)) := fun ty => by
    have hik : i + (n + 1 - i) = n + 1 := by omega
    have h := Lib.run_append_grow_zeros w 22 3 ty 46 i0 _ .i64 .i64 hu hu3 hi0 hz0 (some ⟨g, 0, none⟩) i cap (xs.take (i * 4)) hold (n + 1 - i) (by omega) (by rw [hz1]; omega) (by omega) (by omega) (by rw [hz2]; omega) (by rw [hz2, hik]; exact growslice_fits hroom (by omega))
    rw [hik, ← hG] at h
    rw [show (n : Int) + 1 - (i : Int) = ((n + 1 - i : Nat) : Int) by omega, h, hROW, hZ, Array.append_assoc]
  obtain ⟨W1, hW1⟩ : ∃ W1, W1 = w.drew.alloc (.cells ROW 46) := ⟨_, rfl⟩
  have hN1 : W1.heap[w.heap.size]? = some (.cells ROW 46 (0, 0)) := by rw [hW1]; exact heap_alloc_new w.drew _
  have hk1 : ∀ k, k < w.heap.size → W1.heap[k]? = w.heap[k]? := fun k hk => by rw [hW1]; exact Below.heap_alloc w.drew _ k hk
  obtain ⟨R1, hR1⟩ : ∃ R1 : Array Value, R1 = (ROW.toList.take (i * 4) ++ vs ++ ROW.toList.drop (i * 4 + vs.length)).toArray := ⟨_, rfl⟩
  obtain ⟨R2, hR2⟩ : ∃ R2 : Array Value, R2 = (R1.toList.take ((i + 1) * 4) ++ xs.drop (i * 4) ++ R1.toList.drop ((i + 1) * 4 + (xs.drop (i * 4)).length)).toArray := ⟨_, rfl⟩
  have hfin := RowK.grow_list xs vs Z.toList ROW.toList R1.toList R2.toList (i * 4) (n * 4) 4 hxl (by omega) hvl (by rw [hROW]; simp) (by rw [hZl]; omega) (by rw [hR1]) (by rw [hR2, show (i + 1) * 4 = i * 4 + 4 by omega])
  obtain ⟨hf1, hf2, hf3⟩ := hfin
  have hRl : ROW.toList.length = G * 4 := by rw [hROW]; simp only [Array.toList_append, List.length_append, hZl, List.length_take, hxl]; omega
  have hdl : (xs.drop (i * 4)).length = (n - i) * 4 := by rw [List.length_drop, hxl]; omega
  have hcpA : ∀ (W : World), W.heap = W1.heap → ∀ ty dc, (Builtin.copy_ #[22, 22] ty #[.slice (some ⟨w.heap.size, i * 4, none⟩) (n + 1 - i) dc, .slice (some ⟨vb, 0, none⟩) 1 1]).run Tryd.prog W = .ok (.int .i64 1) (W.setRow w.heap.size R1) := fun W hW ty dc => by
    rw [hR1]
    exact RowK.run_copy_rowK W _ _ ty 46 4 w.heap.size (i * 4) (n + 1 - i) dc ⟨vb, 0, none⟩ 1 1 1 ROW 46 vs hu hsz (by rw [hW]; exact hN1) (by simp only [Nat.min_def]; split <;> omega) (by rw [hvl])
      (fun j v hj => by rw [Addr.add_lit, Nat.zero_add, World.cell?_of_block (w := w) (by rw [hW]; exact hk1 _ hvll)]; exact hvc j v hj)
      (by rw [hvl, ← Array.length_toList, hRl]; omega) h1v
  have hcpB : ∀ (W : World), W.heap = (W1.setRow w.heap.size R1).heap → ∀ ty dc sc, (Builtin.copy_ #[22, 22] ty #[.slice (some ⟨w.heap.size, (i + 1) * 4, none⟩) (n + 1 - (i + 1)) dc, .slice (some ⟨g, i * 4, none⟩) (n - i) sc]).run Tryd.prog W = .ok (.int .i64 ((n - i : Nat) : Int)) (W.setRow w.heap.size R2) := fun W hW ty dc sc => by
    rw [hR2]
    exact RowK.run_copy_rowK W _ _ ty 46 4 w.heap.size ((i + 1) * 4) (n + 1 - (i + 1)) dc ⟨g, i * 4, none⟩ (n - i) sc (n - i) R1 46 (xs.drop (i * 4)) hu hsz (by rw [hW]; exact setRow_heap W1 _ _ _ _ _ hN1) (by simp only [Nat.min_def]; split <;> omega) hdl
      (fun j v hj => by
        rw [Addr.add_lit, World.cell?_of_block (w := w) (by rw [hW]; show (W1.setRow w.heap.size R1).heap[g]? = _; rw [RowK.setRow_other W1 _ _ g (by omega)]; exact hk1 _ hgl)]
        exact hxc (i * 4 + j) v (by rwa [List.getElem?_drop] at hj))
      (by rw [hdl, ← Array.length_toList, hf3, hRl]; omega) (fun v hv => h1x v (List.mem_of_mem_drop hv))
  have hres : ∀ (W : World), W.os = w.os → W.tape = w.tape → W.output = w.output → W.heap = ((W1.setRow w.heap.size R1).setRow w.heap.size R2).heap → W.ownsRow B 46 4 (.slice (some ⟨w.heap.size, 0, none⟩) (n + 1) G) (n + 1) (xs.take (i * 4) ++ vs ++ xs.drop (i * 4)) ∧ w.grownBy W (some g) := fun W ho ht hp hW => by
    have hlast : W.heap[w.heap.size]? = some (.cells R2 46 (0, 0)) := by rw [hW]; exact setRow_heap _ _ _ _ _ _ (setRow_heap W1 _ _ _ _ _ hN1)
    refine ⟨⟨by simp only [List.length_append, hdl, hvl, List.length_take, hxl]; omega, .inr ⟨w.heap.size, G, R2, rfl, hB, hlast, hGn, hGm, by rw [← Array.length_toList, hf2, hRl], by rw [show (n + 1) * 4 = n * 4 + 4 by omega]; exact hf1⟩⟩, ho, ht, hp, ?_, fun k hk _ => ?_⟩
    · have := (Array.getElem?_eq_some_iff.1 hlast).1; omega
    · rw [hW, RowK.setRow_other _ _ _ k (by omega), RowK.setRow_other _ _ _ k (by omega)]; exact hk1 k hk
  subst hW1
  have HRES := Lib.hid hres
  have HCA := Lib.hid hcpA
  have HCB := Lib.hid hcpB
  have hz1 : ¬ ((1 : Int) = 0) := by omega
  have hz2 : ¬ ((i : Int) = (n : Int)) := by omega
  have hz3 : (cap : Int) < (n : Int) + 1 := by omega
  unfold maxLen at hcm hGm
  have hGi : ¬ (G = i) := by omega
  have hGim : ¬ (G = i + 1) := by omega
  have hci : ¬ (cap = i) := by omega
  have hw1 : IntKind.i64.wrap ((i : Int) + 1) = (i : Int) + 1 := by rw [IntKind.wrap_i64]; omega
  have hw2 : IntKind.i64.wrap ((n : Int) + 1) = (n : Int) + 1 := by rw [IntKind.wrap_i64]; omega
  have hw3 : IntKind.i64.wrap ((n : Int) + 1 - (i : Int)) = (n : Int) + 1 - (i : Int) := by rw [IntKind.wrap_i64]; omega
  have hb1 : (0 : Int) ≤ (i : Int) + 1 := by omega
  have hin : i ≤ n := by omega
  have htn : ((i : Int) + 1).toNat = i + 1 := by omega
  have hb3 : (i : Int) ≤ (n : Int) := by omega
  clear hres hcpA hcpB hf1 hf2 hf3 hRl hdl hR1 hR2 hN1 hk1 hROW hZl hZ hG hold hvc hxc hxl htk hcs hg hv hsz hi0
  have mixed : Tryd.prog.follows Departure.mixedOrders = true := by kernel_rfl
  go_enter Tryd.func41, Tryd.ntmps41
  go_wp2_with (first
    | (at_builtin; refine Lib.wpList_append_run _ rfl _ _ _ _ rfl _ _ rfl rfl _ _ (hrz _) ?_)
    | (refine wpList_copy_runI _ rfl _ _ 22 22 rfl _ _ rfl rfl (HCA.out _ (by rfl) _ _) ?_)
    | (refine wpList_copy_runI _ rfl _ _ 22 22 rfl _ _ rfl rfl (HCB.out _ (by rfl) _ _ _) ?_))
  go_region_law_o (refine step_copy_runI rfl _ _ 22 22 rfl (.slice (some ⟨w.heap.size, (i + 1) * 4, none⟩) (n + 1 - (i + 1)) (G - (i + 1))) (.slice (some ⟨g, i * 4, none⟩) (n - i) (cap - i)) (by simp [Act.eval, Act.put]) (by simp [Act.eval, Act.put]) (HCB.out _ (by rfl) 3 (G - (i + 1)) (cap - i)) ?_)
  go_wp2
  go_ret
  exact ⟨_, rfl, HRES.out _ rfl rfl rfl rfl⟩
set_option maxRecDepth 100000 in
set_option maxHeartbeats 4000000 in
theorem api_Part_shift (B g n cap i vb : Nat) (cur : Array Value) (tv : TypeId) (xs vs : List Value) (w : World) (hi : i < n) (hn : n ≤ 1000000) (hroom : n + 1 ≤ cap) (hcm : cap ≤ maxLen) (hB : B ≤ g)
    (hg : w.heap[g]? = some (.cells cur 46 (0, 0))) (hcs : cur.size = cap * 4) (htk : cur.toList.take (n * 4) = xs) (h1x : ∀ u ∈ xs, u.oneCell' = true) (h1v : ∀ u ∈ vs, u.oneCell' = true) (hvl : vs.length = 4)
    (hv : w.heap[vb]? = some (.cells vs.toArray tv (0, 0))) (hvb : vb ≠ g) :
    Calls Tryd.prog 41 #[.slice (some ⟨g, 0, none⟩) n cap, .int .i64 i, .slice (some ⟨vb, 0, none⟩) 1 1] w fun e w' => ∃ v', e = .returned v' ∧ w'.ownsRow B 46 4 v' (n + 1) (xs.take (i * 4) ++ vs ++ xs.drop (i * 4)) ∧ w.grownBy w' (some g) := by
  obtain ⟨i0, hi0, hz0, hz1, hz2⟩ := api_Part_info
  have hu : Tryd.prog.underlying 22 = some (.slice 46) := Tryd.underlying22
  have hsz : (Tryd.prog.info? 46).map (·.size) = some 4 := by rw [hi0]; simp [hz1]
  have hgl : g < w.heap.size := (Array.getElem?_eq_some_iff.1 hg).1
  have hvll : vb < w.heap.size := (Array.getElem?_eq_some_iff.1 hv).1
  have hxl : xs.length = n * 4 := by rw [← htk, List.length_take, Array.length_toList, hcs]; omega
  have hxc : ∀ j v, xs[j]? = some v → w.cell? ⟨g, j, none⟩ = some v := fun j v hj => by
    rw [cell_of_row w g j cur _ _ hg]
    rw [← htk, List.getElem?_take] at hj
    split at hj
    · simpa using hj
    · cases hj
  have hvc : ∀ j v, vs[j]? = some v → w.cell? ⟨vb, j, none⟩ = some v := fun j v hj => by
    rw [cell_of_row w vb j vs.toArray _ _ hv]; simpa using hj
  have hsz4 : ∀ w, (Go.sizeOf 46).run Tryd.prog w = .ok 4 w := fun w => by simp [Go.sizeOf, typeInfo, hi0, hz1]
  have hov : ∀ (W : World), W.heap = w.heap → ∀ lb cb, (callFunc 67 #[.slice (some ⟨vb, 0, none⟩) 1 1, .slice (some ⟨g, (i + 1) * 4, none⟩) lb cb]).run Tryd.prog W = .ok (.value (.bool false)) W := fun W hW lb cb => by
    have hWv : W.heap[vb]? = some (.cells vs.toArray tv (0, 0)) := by rw [hW]; exact hv
    have hWg : W.heap[g]? = some (.cells cur 46 (0, 0)) := by rw [hW]; exact hg
    rw [run_callFunc_extern Tryd.func67 (by kernel_rfl) (by kernel_rfl) (by kernel_rfl) (e := Extern.SlicesOverlaps.overlaps #[22, 22] #[4]) (by kernel_rfl),
      Lib.run_overlaps_apart W 22 4 46 hu 4 hsz4 ⟨vb, 0, none⟩ ⟨g, (i + 1) * 4, none⟩ 1 1 lb cb hvb tv 46 4 cur.size (by simp [World.shape?, hWv, hvl]) (by simp [World.shape?, hWg]) (by omega) (by simp [World.frozen?, hWv]) (by simp [World.frozen?, hWv])]
    rfl
  obtain ⟨R1, hR1⟩ : ∃ R1 : Array Value, R1 = (cur.toList.take ((i + 1) * 4) ++ xs.drop (i * 4) ++ cur.toList.drop ((i + 1) * 4 + (xs.drop (i * 4)).length)).toArray := ⟨_, rfl⟩
  obtain ⟨R2, hR2⟩ : ∃ R2 : Array Value, R2 = (R1.toList.take (i * 4) ++ vs ++ R1.toList.drop (i * 4 + vs.length)).toArray := ⟨_, rfl⟩
  obtain ⟨hf1, hf2, hf3⟩ := RowK.shift_list cur.toList xs vs (i * 4) (n * 4) 4 htk (by omega) (by rw [Array.length_toList, hcs]; omega) hvl (by omega) R1.toList (by rw [hR1, show (i + 1) * 4 = i * 4 + 4 by omega]) R2.toList (by rw [hR2])
  have hcl : cur.toList.length = cap * 4 := by rw [Array.length_toList, hcs]
  have hdl : (xs.drop (i * 4)).length = (n - i) * 4 := by rw [List.length_drop, hxl]; omega
  have hcpA : ∀ (W : World), W.heap = w.heap → ∀ ty dc sc, (Builtin.copy_ #[22, 22] ty #[.slice (some ⟨g, (i + 1) * 4, none⟩) (n + 1 - (i + 1)) dc, .slice (some ⟨g, i * 4, none⟩) (n + 1 - i) sc]).run Tryd.prog W = .ok (.int .i64 ((n - i : Nat) : Int)) (W.setRow g R1) := fun W hW ty dc sc => by
    rw [hR1]
    exact RowK.run_copy_rowK W _ _ ty 46 4 g ((i + 1) * 4) (n + 1 - (i + 1)) dc ⟨g, i * 4, none⟩ (n + 1 - i) sc (n - i) cur 46 (xs.drop (i * 4)) hu hsz (by rw [hW]; exact hg) (by simp only [Nat.min_def]; split <;> omega) hdl
      (fun j v hj => by rw [Addr.add_lit, World.cell?_of_block (w := w) (by rw [hW])]; exact hxc (i * 4 + j) v (by rwa [List.getElem?_drop] at hj))
      (by rw [hdl, hcs]; omega) (fun v hv => h1x v (List.mem_of_mem_drop hv))
  have hcpB : ∀ (W : World), W.heap = (w.setRow g R1).heap → ∀ ty dc, (Builtin.copy_ #[22, 22] ty #[.slice (some ⟨g, i * 4, none⟩) (n + 1 - i) dc, .slice (some ⟨vb, 0, none⟩) 1 1]).run Tryd.prog W = .ok (.int .i64 1) (W.setRow g R2) := fun W hW ty dc => by
    rw [hR2]
    exact RowK.run_copy_rowK W _ _ ty 46 4 g (i * 4) (n + 1 - i) dc ⟨vb, 0, none⟩ 1 1 1 R1 46 vs hu hsz (by rw [hW]; exact setRow_heap w _ _ _ _ _ hg) (by simp only [Nat.min_def]; split <;> omega) (by rw [hvl])
      (fun j v hj => by rw [Addr.add_lit, Nat.zero_add, World.cell?_of_block (w := w) (by rw [hW]; exact RowK.setRow_other w _ _ vb hvb)]; exact hvc j v hj)
      (by rw [hvl, ← Array.length_toList, hf3, hcl]; omega) h1v
  have hres : ∀ (W : World), W.os = w.os → W.tape = w.tape → W.output = w.output → W.heap = ((w.setRow g R1).setRow g R2).heap → W.ownsRow B 46 4 (.slice (some ⟨g, 0, none⟩) (n + 1) cap) (n + 1) (xs.take (i * 4) ++ vs ++ xs.drop (i * 4)) ∧ w.grownBy W (some g) := fun W ho ht hp hW => by
    have hlast : W.heap[g]? = some (.cells R2 46 (0, 0)) := by rw [hW]; exact setRow_heap _ _ _ _ _ _ (setRow_heap w _ _ _ _ _ hg)
    refine ⟨⟨by simp only [List.length_append, hdl, hvl, List.length_take, hxl]; omega, .inr ⟨g, cap, R2, rfl, hB, hlast, hroom, hcm, by rw [← Array.length_toList, hf2, hcl], by rw [show (n + 1) * 4 = n * 4 + 4 by omega]; exact hf1⟩⟩, ho, ht, hp, ?_, fun k hk hne => ?_⟩
    · rw [hW]; simp [World.setRow]
    · have hkg : k ≠ g := fun e => hne (by rw [e])
      rw [hW, RowK.setRow_other _ _ _ k hkg, RowK.setRow_other _ _ _ k hkg]
  have HRES := Lib.hid hres
  have HCA := Lib.hid hcpA
  have HCB := Lib.hid hcpB
  have HOV := Lib.hid hov
  have hz1 : ¬ ((1 : Int) = 0) := by omega
  have hz2 : ¬ ((i : Int) = (n : Int)) := by omega
  have hz3 : ¬ ((cap : Int) < (n : Int) + 1) := by omega
  unfold maxLen at hcm
  have hci : ¬ (cap = i) := by omega
  have hci1 : ¬ (cap = i + 1) := by omega
  have hw1 : IntKind.i64.wrap ((i : Int) + 1) = (i : Int) + 1 := by rw [IntKind.wrap_i64]; omega
  have hw2 : IntKind.i64.wrap ((n : Int) + 1) = (n : Int) + 1 := by rw [IntKind.wrap_i64]; omega
  have hb1 : (0 : Int) ≤ (i : Int) + 1 := by omega
  have hb2 : (0 : Int) ≤ (n : Int) + 1 := by omega
  have hin : i ≤ n := by omega
  have htn : ((i : Int) + 1).toNat = i + 1 := by omega
  have htn2 : ((n : Int) + 1).toNat = n + 1 := by omega
  have hb3 : (i : Int) ≤ (n : Int) := by omega
  have hb4 : (n : Int) + 1 ≤ (cap : Int) := by omega
  have hb5 : (i : Int) ≤ (n : Int) + 1 := by omega
  clear hres hcpA hcpB hov hf1 hf2 hf3 hcl hdl hR1 hR2 hvc hxc hxl htk hcs hg hv hsz hi0 hsz4
  have mixed : Tryd.prog.follows Departure.mixedOrders = true := by kernel_rfl
  go_enter Tryd.func41, Tryd.ntmps41
  go_wp2_with (first
    | (rw [HOV.out _ (by rfl)])
    | (refine wpList_copy_runI _ rfl _ _ 22 22 rfl _ _ rfl rfl (HCB.out _ (by rfl) _ _) ?_))
  go_region_law_o (refine step_copy_runI rfl _ _ 22 22 rfl (.slice (some ⟨g, (i + 1) * 4, none⟩) (n + 1 - (i + 1)) (cap - (i + 1))) (.slice (some ⟨g, i * 4, none⟩) (n + 1 - i) (cap - i)) (by simp [Act.eval, Act.put]) (by simp [Act.eval, Act.put]) (HCA.out _ (by rfl) 3 (cap - (i + 1)) (cap - i)) ?_)
  go_wp2_with (refine wpList_copy_runI _ rfl _ _ 22 22 rfl _ _ rfl rfl (HCB.out _ (by rfl) _ _) ?_)
  go_ret
  exact ⟨_, rfl, HRES.out _ rfl rfl rfl rfl⟩
theorem api_Part_own (B : Nat) (s : Value) (n i vb : Nat) (tv : TypeId) (xs vs : List Value) (w : World) (hs : w.ownsRow B 46 4 s n xs) (hi : i ≤ n) (hn : n ≤ 1000000) (hB : B ≤ w.heap.size)
    (h1x : ∀ u ∈ xs, u.oneCell' = true) (h1v : ∀ u ∈ vs, u.oneCell' = true) (hvl : vs.length = 4)
    (hv : w.heap[vb]? = some (.cells vs.toArray tv (0, 0))) (hvb : s.ownBlock ≠ some vb) :
    Calls Tryd.prog 41 #[s, .int .i64 i, .slice (some ⟨vb, 0, none⟩) 1 1] w fun e w' => ∃ v', e = .returned v' ∧ w'.ownsRow B 46 4 v' (n + 1) (xs.take (i * 4) ++ vs ++ xs.drop (i * 4)) ∧ w.grownBy w' s.ownBlock := by
  by_cases hin : i = n
  · subst hin
    have hx := hs.1
    rw [List.take_of_length_le (by omega), List.drop_of_length_le (by omega), List.append_nil]
    exact api_Part_end B s xs vs i vb w hs hn h1v hvl (fun j u hj => by rw [cell_of_row w vb j vs.toArray _ _ hv]; simpa using hj) hB
  · rcases hs.2 with ⟨rfl, rfl⟩ | ⟨g, cap, cur, rfl, hbg, hg, hnc, hcm, hcs, htk⟩
    · omega
    · have hne : vb ≠ g := fun e => hvb (by simp [Value.ownBlock, e])
      by_cases hroom : n + 1 ≤ cap
      · exact api_Part_shift B g n cap i vb cur tv xs vs w (by omega) hn hroom hcm hbg hg hcs htk h1x h1v hvl hv hne
      · exact api_Part_grow B g n cap i vb cur tv xs vs w (by omega) hn hnc (by omega) hcm hB hg hcs htk h1x h1v hvl hv hne

end Go.Proofs.YtoiockmmlanimaaDoor.Oj
end
section
-- Written for this claim by hyb.py, a driver of this session's over the kit's printer.
namespace Go.Proofs.YtoiockmmlanimaaDoor.Oj
open Go.RowKit Go.Proofs.YtoiockmmlanimaaDoorW.PrintWords Go.Proofs.YtoiockmmlanimaaDoorW.PrintLast Go.Proofs.YtoiockmmlanimaaDoorW.PrintMore
attribute [local go_sem] max2_int min2_int max_two min_two max_three min_three max_four min_four   -- for this text's walks alone
set_option linter.unusedVariables false
set_option linter.unusedSimpArgs false

/-! ### EXT parts_Put: function 16 -/
theorem parts_Put_uses : api_Part.f = api_Part.f := rfl
def parts_Put_put (l0 : List (S46)) (h : S46) (i : Int) (is : Bool) : Option (List (S46) × Int) :=
  if is = true then (if 0 ≤ i ∧ i < (l0.length : Int) then some (l0.set i.toNat h, 0) else none) else if 0 ≤ i ∧ i ≤ (l0.length : Int) ∧ l0.length ≤ 100000 then some (l0.take i.toNat ++ h :: l0.drop i.toNat, 0) else none
def parts_Put.f (k : Nat) (l0 : List (S46)) (a1_0 : Int) (a1_1 : Int) (a1_2 : ByteArray) (l1_3 : List (S63)) : Option (List (S46) × Int) :=
  (parts_right.f k l0).bind fun t => if t = true then ((parts_Check.f k a1_0 a1_1 a1_2 l1_3).bind fun e => if e = 0 then ((parts_own.f k l0).bind fun out => (parts_own.f k [⟨a1_0, a1_1, a1_2, l1_3⟩]).bind fun fr => if 0 < fr.length then (parts_find.f out a1_0).bind fun b => parts_Put_put out (rd_T46 fr 0) b.1 b.2 else none) else some ([], 1)) else some ([], 1)
theorem parts_Put.mono : ∀ a0 a1 a2 a3 a4 k, LeO (parts_Put.f k a0 a1 a2 a3 a4) (parts_Put.f (k + 1) a0 a1 a2 a3 a4) := by
  intro a0 a1 a2 a3 a4 k
  unfold parts_Put.f
  repeat' first
      | (with_reducible exact parts_right.mono _ _)
      | (with_reducible exact parts_Check.mono _ _ _ _ _)
      | (with_reducible exact parts_own.mono _ _)
      | (with_reducible exact LeO.refl _)
      | (with_reducible refine LeO.ite ?_ ?_)
      | (with_reducible refine LeO.bind ?_ (fun _ => ?_))
theorem parts_Put_flat (n : Nat) : ∀ (ps : List (List Value)) (cs : List Value), cs.length = ps.length * n → (∀ j p, ps[j]? = some p → (cs.drop (j * n)).take n = p) → cs = ps.flatten
  | [], cs, h, _ => by
    simp at h
    simp [h]
  | p :: ps, cs, h, hp => by
    have h0 := hp 0 p rfl
    rw [Nat.zero_mul, List.drop_zero] at h0
    have h1 := parts_Put_flat n ps (cs.drop n) (by rw [List.length_drop, h, List.length_cons, Nat.add_mul, Nat.one_mul]; omega) (fun j q hq => by
      have := hp (j + 1) q (by simpa using hq)
      rw [List.drop_drop, show n + j * n = (j + 1) * n by rw [Nat.add_mul, Nat.one_mul, Nat.add_comm]]
      exact this)
    rw [List.flatten_cons, ← h1, ← h0, List.take_append_drop]
theorem parts_Put_flat_get (n : Nat) : ∀ (ps : List (List Value)), (∀ c ∈ ps, c.length = n) → ∀ (j : Nat) (c : List Value), ps[j]? = some c → ∀ i u, c[i]? = some u → ps.flatten[j * n + i]? = some u
  | [], _, j, c, h, _, _, _ => by simp at h
  | p :: ps, hl, 0, c, h, i, u, hu => by
    simp at h
    subst h
    rw [List.flatten_cons, Nat.zero_mul, Nat.zero_add, List.getElem?_append_left (List.getElem?_eq_some_iff.1 hu).1]
    exact hu
  | p :: ps, hl, j + 1, c, h, i, u, hu => by
    have hpl : p.length = n := hl p (by simp)
    have h2 := parts_Put_flat_get n ps (fun c hc => hl c (by simp [hc])) j c (by simpa using h) i u hu
    rw [List.flatten_cons, List.getElem?_append_right (by rw [hpl, Nat.add_mul]; omega), hpl, show (j + 1) * n + i - n = j * n + i by rw [Nat.add_mul, Nat.one_mul]; omega]
    exact h2
/-- A row of the call's own whose elements are only read: its cells. -/
theorem parts_Put_open {α : Type} {d : Kd α} {e base : Nat} {ok : Nat → Prop} {w : World} {v : Value} {xs : List α} (h : Kd.N d e w base ok v xs) : ∃ rows : List (List Value), rows.length = xs.length ∧ (∀ c ∈ rows, c.length = d.sz ∧ ∀ u ∈ c, u.oneCell' = true) ∧ w.ownsRow base e d.sz v xs.length rows.flatten ∧ ∀ (j : Nat) (x : α) (c : List Value), xs[j]? = some x → rows[j]? = some c → Kd.FK d w (fun k => ok k ∧ some k ≠ v.ownBlock) x c := by
  obtain ⟨_, rows, hl, ⟨_, inner, ho, hr⟩, hf⟩ := h
  have hr2 : ∀ j p, rows[j]? = some p → (inner.drop (j * d.sz)).take d.sz = p ∧ p.length = d.sz ∧ ∀ u ∈ p, u.oneCell' = true := fun j p hp => by
    obtain ⟨h1, h2, h3⟩ := hr.2 j p hp
    have h1' : (inner.drop (j * d.sz)).take d.sz = p := h1
    exact ⟨h1', by rw [← h1']; exact h2, fun u hu => h3 u (by rw [h1]; exact hu)⟩
  have hin := parts_Put_flat d.sz rows inner hr.1 (fun j p hp => (hr2 j p hp).1)
  refine ⟨rows, hl, fun c hc => ?_, ?_, hf⟩
  · obtain ⟨j, hj⟩ := List.mem_iff_getElem?.1 hc
    exact (hr2 j c hj).2
  · rw [← hin, ← hl]
    exact ho
/-- .. and back, as a shared one. -/
theorem parts_Put_shut {α : Type} {d : Kd α} {e base base' : Nat} {ok : Nat → Prop} {w : World} {v : Value} {xs : List α} (rows : List (List Value)) (hl : rows.length = xs.length) (hs : ∀ c ∈ rows, c.length = d.sz) (ho : w.ownsRow base e d.sz v xs.length rows.flatten)
    (hok : ∀ k, v.ownBlock = some k → ok k) (hf : ∀ (j : Nat) (x : α) (c : List Value), xs[j]? = some x → rows[j]? = some c → Kd.FK d w ok x c) (hm : xs.length ≤ 9223372036854775807) : Kd.V d e w base' ok v xs := by
  rcases ho.2 with ⟨rfl, h0⟩ | ⟨g, cap, cur, rfl, hbg, hg, hnc, hcm, hcs, htk⟩
  · obtain rfl := List.eq_nil_of_length_eq_zero h0
    exact Kd.V_nil d e w base' ok
  · refine Kd.V_mk hnc (fun W' hW => ⟨rfl, hm, fun hpos => ⟨⟨g, 0, none⟩, rfl, fun j p hp => ?_⟩⟩)
    have hj : j < rows.length := by rw [hl]; exact (List.getElem?_eq_some_iff.1 hp).1
    have hc : rows[j]? = some rows[j] := List.getElem?_eq_getElem hj
    refine ⟨rows[j], hs _ (List.getElem_mem hj), hf j p _ hp hc W' hW, fun i u hu => ?_⟩
    have h1 := parts_Put_flat_get d.sz rows hs j _ hc i u hu
    have h2 := ho.cells (g := g) rfl (j * d.sz + i) u h1
    have hgl : g < w.heap.size := (Array.getElem?_eq_some_iff.1 hg).1
    rw [Addr.add_lit] at h2 ⊢
    exact (World.cell?_of_block (hW g (hok g rfl) hgl)).trans h2
theorem parts_Put_flat_take (n : Nat) : ∀ (ps : List (List Value)), (∀ c ∈ ps, c.length = n) → ∀ i, i ≤ ps.length → (ps.take i).flatten = ps.flatten.take (i * n) ∧ (ps.drop i).flatten = ps.flatten.drop (i * n)
  | ps, _, 0, _ => by simp
  | [], _, i + 1, h => by simp at h
  | p :: ps, hl, i + 1, h => by
    have hpl : p.length = n := hl p (by simp)
    obtain ⟨h1, h2⟩ := parts_Put_flat_take n ps (fun c hc => hl c (by simp [hc])) i (by simpa using h)
    refine ⟨?_, ?_⟩
    · rw [List.take_succ_cons, List.flatten_cons, List.flatten_cons, h1, show (i + 1) * n = p.length + i * n by rw [hpl, Nat.add_mul]; omega, List.take_length_add_append]
    · rw [List.drop_succ_cons, List.flatten_cons, h2, show (i + 1) * n = p.length + i * n by rw [hpl, Nat.add_mul]; omega, List.drop_length_add_append]
theorem parts_Put_pw_append {α β : Type} {R : α → β → Prop} {A B : List α} {A' B' : List β} (hl : A.length = A'.length) (h1 : ∀ (j : Nat) x c, A[j]? = some x → A'[j]? = some c → R x c) (h2 : ∀ (j : Nat) x c, B[j]? = some x → B'[j]? = some c → R x c) : ∀ (j : Nat) x c, (A ++ B)[j]? = some x → (A' ++ B')[j]? = some c → R x c := by
  intro j x c hx hc
  rcases Nat.lt_or_ge j A.length with h | h
  · rw [List.getElem?_append_left h] at hx
    rw [List.getElem?_append_left (by omega)] at hc
    exact h1 j x c hx hc
  · rw [List.getElem?_append_right h] at hx
    rw [List.getElem?_append_right (by omega), ← hl] at hc
    exact h2 _ x c hx hc
/-- An element put in the place of some (j - i) others. -/
theorem parts_Put_mid {α : Type} {R : α → List Value → Prop} {xs : List α} {rows : List (List Value)} (hl : rows.length = xs.length) (hp : ∀ (j : Nat) x c, xs[j]? = some x → rows[j]? = some c → R x c) {h : α} {cs : List Value} (hh : R h cs) (i j : Nat) : ∀ (q : Nat) x c, (xs.take i ++ ([h] ++ xs.drop j))[q]? = some x → (rows.take i ++ ([cs] ++ rows.drop j))[q]? = some c → R x c := by
  refine parts_Put_pw_append (by rw [List.length_take, List.length_take, hl]) (fun q x c hx hc => ?_) (parts_Put_pw_append rfl (fun q x c hx hc => ?_) (fun q x c hx hc => ?_))
  · rw [List.getElem?_take] at hx hc
    split at hx
    · rename_i hq
      rw [if_pos hq] at hc
      exact hp q x c hx hc
    · cases hx
  · match q, hx, hc with
    | 0, hx, hc => simp at hx hc; subst hx; subst hc; exact hh
    | q + 1, hx, hc => simp at hx
  · rw [List.getElem?_drop] at hx hc
    exact hp _ x c hx hc
theorem parts_Put_mid_flat (n : Nat) {rows : List (List Value)} (hs : ∀ c ∈ rows, c.length = n) (cs : List Value) (i j : Nat) (hi : i ≤ rows.length) (hj : j ≤ rows.length) : (rows.take i ++ ([cs] ++ rows.drop j)).flatten = rows.flatten.take (i * n) ++ cs ++ rows.flatten.drop (j * n) := by
  rw [List.flatten_append, List.flatten_append, (parts_Put_flat_take n rows hs i hi).1, (parts_Put_flat_take n rows hs j hj).2]
  simp
theorem parts_Put_one_C {W : World} (x : S46) {A3 : Option Addr} {c3 : Nat} (l3 : x.f3.length ≤ c3) (g3 : k63.C W A3 x.f3.length x.f3) : Kd.C k46 (W.alloc (.cells #[.int .i64 x.f0, .int .i64 x.f1, .string x.f2, .slice A3 x.f3.length c3] 46)) (some ⟨W.heap.size, 0, none⟩) 1 [x] := by
  refine ⟨rfl, by decide, fun _ => ⟨⟨W.heap.size, 0, none⟩, rfl, fun j p hp => ?_⟩⟩
  obtain ⟨rfl, rfl⟩ : j = 0 ∧ p = x := by
    match j, hp with
    | 0, hp => simp at hp; exact ⟨rfl, hp.symm⟩
    | j + 1, hp => simp at hp
  refine ⟨_, rfl, k46_mk _ p l3 (Kd.C_alloc g3 _), fun i u hu => ?_⟩
  rw [Nat.zero_mul, Nat.zero_add, Addr.add_lit, Nat.zero_add, cell_of_row _ _ _ _ _ _ (heap_alloc_new W _)]
  simpa using hu
theorem parts_Put_info4 : (Tryd.prog.info? 46).map (·.size) = some 4 := by kernel_rfl
theorem parts_Put_store {w : World} {a : Act} {op : Oper} {ty : TypeId} {p v : Operand} (ho : op.op = .store ty p v) (g o : Nat) (hp : a.eval p = .pointer (some ⟨g, o, none⟩)) (cs : Array Value) (hv : a.eval v = .agg cs) (t : TypeId) (cur : Array Value) (hg : w.heap[g]? = some (.cells cur t (0, 0))) (hfit : o + cs.size ≤ cur.size) (h1 : ∀ v ∈ cs.toList, v.oneCell' = true) (hi : (Tryd.prog.info? ty).map (·.size) = some cs.size) :
    (execOp a.eval op).run Tryd.prog w = .ok .skip (w.setRow g (cur.toList.take o ++ cs.toList ++ cur.toList.drop (o + cs.size)).toArray) := by
  have h : (storeVar ty ⟨g, o, none⟩ (.agg cs)).run Tryd.prog w = .ok () (w.setRow g (cur.toList.take o ++ cs.toList ++ cur.toList.drop (o + cs.size)).toArray) := by
    cases hq : Tryd.prog.info? ty with
    | none => simp [hq] at hi
    | some i =>
      have hz : i.size = cs.size := by simpa [hq] using hi
      have hst := run_storeCells_at (P := Tryd.prog) g o t cs.toList 0 cur w hg (by simpa using hfit) h1
      rw [Nat.add_zero, Array.length_toList] at hst
      have hc : (Value.agg cs).cells = cs := rfl
      simp [storeVar, hc, sizeOf, typeInfo, hq, hz, hst, Sem.run_bind]
  unfold execOp
  simp only [ho, hp, hv, Instr.storeAt, Instr.sureAddr, Sem.run_bind, Sem.run_pure, Result.andThen_ok, h]
theorem parts_Put_stop {p : Prop} (h : Aside0 p) : p := h.out
set_option maxRecDepth 100000 in
set_option maxHeartbeats 8000000 in
theorem parts_Put_n1 (k : Nat) (A0 : Option Addr) (c0 : Nat) (l0 : List (S46)) (a1_0 : Int) (a1_1 : Int) (a1_2 : ByteArray) (A1_3 : Option Addr) (c1_3 n1_3 : Nat) (w : World) (hr0 : Kd.C k46 w A0 l0.length l0) (hc0 : l0.length ≤ c0) (hri : parts_right.f k l0 = some false) :
    Calls Tryd.prog 16 #[.slice A0 l0.length c0, .agg #[.int .i64 a1_0, .int .i64 a1_1, .string a1_2, .slice A1_3 n1_3 c1_3]] w fun e w' => e = .returned (.tuple #[.slice none 0 0, .int .i64 1]) ∧ Below w.heap.size w w' := by
  have HR0 := Aside0.mk hr0
  have HC0 := Aside0.mk hc0
  have HRI := Aside0.mk hri
  clear hr0 hc0 hri
  go_enter Tryd.func16, Tryd.ntmps16
  go_wp2_with (go_at_call 29; refine parts_Put_stop ?_)
  refine Aside0.mk ?_
  refine (parts_right.calls k A0 c0 l0 false _ (Kd.C_alloc HR0.out _) HC0.out HRI.out).mono ?_
  rintro e w2 ⟨rfl, hb⟩
  have HB := Aside0.mk (below_step (below_alloc (Below.refl w.heap.size w) _) hb)
  clear hb
  go_wp2
  go_ret2
  exact ⟨rfl, HB.out⟩
set_option maxRecDepth 100000 in
set_option maxHeartbeats 8000000 in
theorem parts_Put_n2 (k : Nat) (A0 : Option Addr) (c0 : Nat) (l0 : List (S46)) (a1_0 : Int) (a1_1 : Int) (a1_2 : ByteArray) (A1_3 : Option Addr) (c1_3 : Nat) (l1_3 : List (S63)) (w : World) (hr0 : Kd.C k46 w A0 l0.length l0) (hc0 : l0.length ≤ c0) (hr1 : Kd.C k63 w A1_3 l1_3.length l1_3) (hc1 : l1_3.length ≤ c1_3) (hri : parts_right.f k l0 = some true) (ec : Int) (hec : ec ≠ 0) (hch : parts_Check.f k a1_0 a1_1 a1_2 l1_3 = some ec) :
    Calls Tryd.prog 16 #[.slice A0 l0.length c0, .agg #[.int .i64 a1_0, .int .i64 a1_1, .string a1_2, .slice A1_3 l1_3.length c1_3]] w fun e w' => e = .returned (.tuple #[.slice none 0 0, .int .i64 1]) ∧ Below w.heap.size w w' := by
  have HR0 := Aside0.mk hr0
  have HC0 := Aside0.mk hc0
  have HR1 := Aside0.mk hr1
  have HC1 := Aside0.mk hc1
  have HRI := Aside0.mk hri
  have HCH := Aside0.mk hch
  have hec' : (ec == 0) = false := by simpa using hec
  clear hr0 hc0 hri hr1 hc1 hch
  go_enter Tryd.func16, Tryd.ntmps16
  go_wp2_with (go_at_call 29; refine parts_Put_stop ?_)
  refine Aside0.mk ?_
  refine (parts_right.calls k A0 c0 l0 true _ (Kd.C_alloc HR0.out _) HC0.out HRI.out).mono ?_
  rintro e w2 ⟨rfl, hb⟩
  have HB := Aside0.mk (below_step (below_alloc (Below.refl w.heap.size w) _) hb)
  have hbx : w2.heap[w.heap.size]? = some (.cells #[.int .i64 a1_0, .int .i64 a1_1, .string a1_2, .slice A1_3 l1_3.length c1_3] 46 (0, 0)) := (hb.block _ (by simp)).trans (heap_alloc_new w _)
  have x0 : w2.cell? ⟨w.heap.size, 0, none⟩ = some (.int .i64 a1_0) := cell_of_row _ _ _ _ _ _ hbx
  have x1 : w2.cell? ⟨w.heap.size, 1, none⟩ = some (.int .i64 a1_1) := cell_of_row _ _ _ _ _ _ hbx
  have x2 : w2.cell? ⟨w.heap.size, 2, none⟩ = some (.string a1_2) := cell_of_row _ _ _ _ _ _ hbx
  have x3 : w2.cell? ⟨w.heap.size, 3, none⟩ = some (.slice A1_3 l1_3.length c1_3) := cell_of_row _ _ _ _ _ _ hbx
  clear hb hbx
  go_wp2_with (go_at_call 19; refine parts_Put_stop ?_)
  refine Aside0.mk ?_
  refine (parts_Check.calls k a1_0 a1_1 a1_2 A1_3 c1_3 l1_3 ec _ (Kd.C_below HR1.out HB.out) HC1.out HCH.out).mono ?_
  rintro e w3 ⟨rfl, hb3⟩
  have HB3 := Aside0.mk (below_step HB.out hb3)
  clear hb3 x0 x1 x2 x3
  go_wp2
  go_ret2
  exact ⟨rfl, HB3.out⟩
set_option maxRecDepth 100000 in
set_option maxHeartbeats 8000000 in
theorem parts_Put_ok (k : Nat) (A0 : Option Addr) (c0 : Nat) (l0 : List (S46)) (a1_0 : Int) (a1_1 : Int) (a1_2 : ByteArray) (A1_3 : Option Addr) (c1_3 : Nat) (l1_3 : List (S63)) (w : World) (hr0 : Kd.C k46 w A0 l0.length l0) (hc0 : l0.length ≤ c0) (hr1 : Kd.C k63 w A1_3 l1_3.length l1_3) (hc1 : l1_3.length ≤ c1_3) (hri : parts_right.f k l0 = some true) (hch : parts_Check.f k a1_0 a1_1 a1_2 l1_3 = some 0)
    (out fr : List (S46)) (hout : parts_own.f k l0 = some out) (hfr : parts_own.f k [⟨a1_0, a1_1, a1_2, l1_3⟩] = some fr) (hfl : 0 < fr.length) (b1 : Int) (b2 : Bool) (hfi : parts_find.f out a1_0 = some (b1, b2)) (r1 : List (S46)) (r2 : Int) (hput : parts_Put_put out (rd_T46 fr 0) b1 b2 = some (r1, r2)) :
    Calls Tryd.prog 16 #[.slice A0 l0.length c0, .agg #[.int .i64 a1_0, .int .i64 a1_1, .string a1_2, .slice A1_3 l1_3.length c1_3]] w fun e w' => ∃ v0_ : Value, e = .returned (.tuple #[v0_, .int .i64 r2]) ∧ Kd.V k46 46 w' w.heap.size (fun k_ => (w.heap.size ≤ k_)) v0_ r1 ∧ Below w.heap.size w w' := by
  have HR0 := Aside0.mk hr0
  have HC0 := Aside0.mk hc0
  have HR1 := Aside0.mk hr1
  have HC1 := Aside0.mk hc1
  have HRI := Aside0.mk hri
  have HCH := Aside0.mk hch
  have HOUT := Aside0.mk hout
  have HFR := Aside0.mk hfr
  have HFI := Aside0.mk hfi
  have HPUT := Aside0.mk hput
  have HFL := Aside0.mk hfl
  clear hr0 hc0 hri hr1 hc1 hch hout hfr hfi hput hfl
  go_enter Tryd.func16, Tryd.ntmps16
  go_wp2_with (go_at_call 29; refine parts_Put_stop ?_)
  refine Aside0.mk ?_
  refine (parts_right.calls k A0 c0 l0 true _ (Kd.C_alloc HR0.out _) HC0.out HRI.out).mono ?_
  rintro e w2 ⟨rfl, hb⟩
  have HB := Aside0.mk (below_step (below_alloc (Below.refl w.heap.size w) _) hb)
  have hbx : w2.heap[w.heap.size]? = some (.cells #[.int .i64 a1_0, .int .i64 a1_1, .string a1_2, .slice A1_3 l1_3.length c1_3] 46 (0, 0)) := (hb.block _ (by simp)).trans (heap_alloc_new w _)
  have HBX := Aside0.mk hbx
  have x0 : w2.cell? ⟨w.heap.size, 0, none⟩ = some (.int .i64 a1_0) := cell_of_row _ _ _ _ _ _ hbx
  have x1 : w2.cell? ⟨w.heap.size, 1, none⟩ = some (.int .i64 a1_1) := cell_of_row _ _ _ _ _ _ hbx
  have x2 : w2.cell? ⟨w.heap.size, 2, none⟩ = some (.string a1_2) := cell_of_row _ _ _ _ _ _ hbx
  have x3 : w2.cell? ⟨w.heap.size, 3, none⟩ = some (.slice A1_3 l1_3.length c1_3) := cell_of_row _ _ _ _ _ _ hbx
  clear hb hbx
  go_wp2_with (go_at_call 19; refine parts_Put_stop ?_)
  refine Aside0.mk ?_
  refine (parts_Check.calls k a1_0 a1_1 a1_2 A1_3 c1_3 l1_3 0 _ (Kd.C_below HR1.out HB.out) HC1.out HCH.out).mono ?_
  rintro e w3 ⟨rfl, hb3⟩
  have HB3 := Aside0.mk (below_step HB.out hb3)
  have HBX3 := Aside0.mk ((hb3.block _ (Array.getElem?_eq_some_iff.1 HBX.out).1).trans HBX.out)
  clear hb3 x0 x1 x2 x3
  go_wp2_with (go_at_call 40; refine parts_Put_stop ?_)
  refine Aside0.mk ?_
  refine (parts_own.calls k A0 c0 l0 out _ (Kd.C_below HR0.out HB3.out) HC0.out HOUT.out).mono ?_
  rintro e w4 ⟨v4, rfl, hs4, hb4⟩
  have HB4 := Aside0.mk (below_step HB3.out hb4)
  have HBX4 := Aside0.mk ((hb4.block _ (Array.getElem?_eq_some_iff.1 HBX3.out).1).trans HBX3.out)
  have HN4 := Aside0.mk (Kd.N_lower (Kd.N_mono (ok' := fun k => w.heap.size ≤ k) (Kd.S_N (Kd.S_bound hs4)) (fun k hk => Nat.le_trans HB3.out.size hk.2.1)) HB3.out.size)
  clear hb4 hs4
  have y0 : w4.cell? ⟨w.heap.size, 0, none⟩ = some (.int .i64 a1_0) := cell_of_row _ _ _ _ _ _ HBX4.out
  have y1 : w4.cell? ⟨w.heap.size, 1, none⟩ = some (.int .i64 a1_1) := cell_of_row _ _ _ _ _ _ HBX4.out
  have y2 : w4.cell? ⟨w.heap.size, 2, none⟩ = some (.string a1_2) := cell_of_row _ _ _ _ _ _ HBX4.out
  have y3 : w4.cell? ⟨w.heap.size, 3, none⟩ = some (.slice A1_3 l1_3.length c1_3) := cell_of_row _ _ _ _ _ _ HBX4.out
  go_wp2_with (go_at_call 40; refine parts_Put_stop ?_)
  refine Aside0.mk ?_
  refine (parts_own.calls k (some ⟨w4.heap.size, 0, none⟩) 1 [⟨a1_0, a1_1, a1_2, l1_3⟩] fr _ (parts_Put_one_C ⟨a1_0, a1_1, a1_2, l1_3⟩ HC1.out (Kd.C_below HR1.out HB4.out)) (by simp) HFR.out).mono ?_
  rintro e w5 ⟨v5, rfl, hs5, hb5⟩
  have hb5' := Below.trans ((Below.refl w4.heap.size w4).alloc (Nat.le_refl _) (.cells #[.int .i64 a1_0, .int .i64 a1_1, .string a1_2, .slice A1_3 l1_3.length c1_3] 46)) (hb5.mono (by simp))
  have HB5 := Aside0.mk (below_step HB4.out hb5')
  have HBX5 := Aside0.mk ((hb5'.block _ (Array.getElem?_eq_some_iff.1 HBX4.out).1).trans HBX4.out)
  have HN5 := Aside0.mk (Kd.N_below HN4.out hb5')
  have hlt4 : ∀ kk, v4.ownBlock = some kk → kk < w4.heap.size := Kd.N_lt HN4.out
  have hV5 := Kd.V_mono (Kd.S_V (base' := w.heap.size) (Kd.S_bound hs5)) (ok' := fun k => w.heap.size ≤ k ∧ some k ≠ v4.ownBlock) (fun k hk => ⟨Nat.le_trans HB4.out.size (by have := hk.2.1; simp at this; omega), fun e => by have := hlt4 k e.symm; have := hk.2.1; simp at this; omega⟩)
  obtain ⟨g5, cap5, hv5, hbg5, hlt5, _⟩ := Kd.S_form hs5 HFL.out
  subst hv5
  obtain ⟨ce, hcel, hF5, hcc5⟩ := Kd.V_get hV5 z46 0 (by decide) (by have := HFL.out; omega)
  obtain ⟨fA, fc, rfl, fl, fF⟩ := k46_openF hF5
  obtain ⟨h, hh⟩ : ∃ h, rd_T46 fr 0 = h := ⟨_, rfl⟩
  have hh' : fr.getD (0 : Int).toNat z46 = h := hh
  rw [hh'] at fl fF hcc5
  have HF5 := Aside0.mk fF
  have HFl := Aside0.mk fl
  have HPUT2 := HPUT.out
  rw [hh] at HPUT2
  have z0 : w5.cell? ⟨g5, 0, none⟩ = some (.int .i64 h.f0) := hcc5 0 _ rfl
  have z1 : w5.cell? ⟨g5, 1, none⟩ = some (.int .i64 h.f1) := hcc5 1 _ rfl
  have z2 : w5.cell? ⟨g5, 2, none⟩ = some (.string h.f2) := hcc5 2 _ rfl
  have z3 : w5.cell? ⟨g5, 3, none⟩ = some (.slice fA h.f3.length fc) := hcc5 3 _ rfl
  have hp5 : 0 < fr.length := HFL.out
  have HQ := Aside0.mk (heap_alloc_new w5 (.cells #[.int .i64 0, .int .i64 0, .string ⟨#[]⟩, .slice none 0 0] 46))
  have HPUT3 := Aside0.mk HPUT2
  clear hb5 hb5' hs5 hV5 hF5 hcc5 hh hh' y0 y1 y2 y3 fl fF HPUT2 HPUT hcel
  go_wp2_with ((with_reducible refine gate_store (t := 46) (p := 7) rfl ?_); refine parts_Put_stop ?_)
  refine Aside0.mk ?_
  refine store_event (t := 46) (p := 7) (v := ?vo1) (w1 := (w5.alloc (.cells #[.int .i64 0, .int .i64 0, .string ⟨#[]⟩, .slice none 0 0] 46)).setRow w5.heap.size #[.int .i64 h.f0, .int .i64 h.f1, .string h.f2, .slice fA h.f3.length fc]) ?hg1 ?ho1 ?hn1 ?hr1 ?_
  case ho1 => rfl
  case hg1 => rfl
  case hn1 => rfl
  case hr1 => exact Sha.store_row_run rfl w5.heap.size rfl #[.int .i64 h.f0, .int .i64 h.f1, .string h.f2, .slice fA h.f3.length fc] rfl 46 _ HQ.out rfl (by simp [Value.oneCell']) parts_Put_info4
  intro w6 hw6
  have hb6 : Below w5.heap.size w5 w6 := by rw [hw6]; exact Sha.setRow_below _ _ _ _ _ ((Below.refl _ _).alloc (Nat.le_refl _) _) (Nat.le_refl _)
  have hf6 : w6.heap[w5.heap.size]? = some (.cells #[.int .i64 h.f0, .int .i64 h.f1, .string h.f2, .slice fA h.f3.length fc] 46 (0, 0)) := by rw [hw6]; exact setRow_heap _ _ _ _ _ _ HQ.out
  have HB6 := Aside0.mk (below_step HB5.out hb6)
  have HBX6 := Aside0.mk ((hb6.block _ (Array.getElem?_eq_some_iff.1 HBX5.out).1).trans HBX5.out)
  have HN6 := Aside0.mk (Kd.N_below HN5.out hb6)
  have HF6 := Aside0.mk (Kd.F_below HF5.out hb6)
  have HFB6 := Aside0.mk hf6
  have hlt5 : ∀ kk, v4.ownBlock = some kk → kk < w5.heap.size := Kd.N_lt HN5.out
  have HLT5 := Aside0.mk hlt5
  have x0 : w6.cell? ⟨w.heap.size, 0, none⟩ = some (.int .i64 a1_0) := cell_of_row _ _ _ _ _ _ HBX6.out
  obtain ⟨A4, c4, hv4⟩ := Kd.V_slice (Kd.N_V (base' := 0) HN6.out)
  subst hv4
  have HC6 := Aside0.mk (Kd.V_reads' (Kd.N_V (base' := 0) HN6.out))
  clear hw6 hb6 hf6 z0 z1 z2 z3 hlt4 hlt5
  go_wp2_with (go_at_call 30; refine parts_Put_stop ?_)
  refine Aside0.mk ?_
  refine (parts_find.calls A4 c4 out a1_0 b1 b2 _ HC6.out.2.2 HC6.out.2.1 HFI.out).mono ?_
  rintro e w7 ⟨rfl, hb7⟩
  have HB7 := Aside0.mk (below_step HB6.out hb7)
  have HN7 := Aside0.mk (Kd.N_below HN6.out hb7)
  have HF7 := Aside0.mk (Kd.F_below HF6.out hb7)
  have hf7 := (hb7.block _ (Array.getElem?_eq_some_iff.1 HFB6.out).1).trans HFB6.out
  have f0 : w7.cell? ⟨w5.heap.size, 0, none⟩ = some (.int .i64 h.f0) := cell_of_row _ _ _ _ _ _ hf7
  have f1 : w7.cell? ⟨w5.heap.size, 1, none⟩ = some (.int .i64 h.f1) := cell_of_row _ _ _ _ _ _ hf7
  have f2 : w7.cell? ⟨w5.heap.size, 2, none⟩ = some (.string h.f2) := cell_of_row _ _ _ _ _ _ hf7
  have f3 : w7.cell? ⟨w5.heap.size, 3, none⟩ = some (.slice fA h.f3.length fc) := cell_of_row _ _ _ _ _ _ hf7
  have hw7 : w.heap.size ≤ w7.heap.size := HB7.out.size
  clear hb7 hf7 x0
  obtain ⟨rows, hrl, hrs, hro, hrf⟩ := parts_Put_open HN7.out
  have HROW := Aside0.mk (And.intro hrl (And.intro hrs (And.intro hro hrf)))
  have hone : ∀ u ∈ rows.flatten, u.oneCell' = true := fun u hu => by
    obtain ⟨c, hc, hu⟩ := List.mem_flatten.1 hu
    exact (hrs c hc).2 u hu
  have HONE := Aside0.mk hone
  have hfk : Kd.FK k46 w7 (fun k => w.heap.size ≤ k ∧ some k ≠ (Value.slice A4 out.length c4).ownBlock) h [.int .i64 h.f0, .int .i64 h.f1, .string h.f2, .slice fA h.f3.length fc] := k46_mkF _ _ h HFl.out HF7.out
  have HFK := Aside0.mk hfk
  clear hrl hrs hro hrf hone hfk
  cases b2 with
  | true =>
    have hp := HPUT3.out
    unfold parts_Put_put at hp
    rw [if_pos rfl] at hp
    split at hp
    · rename_i hc
      obtain ⟨hc0, hc1⟩ := hc
      simp only [Option.some.injEq, Prod.mk.injEq] at hp
      obtain ⟨i, rfl⟩ := Int.eq_ofNat_of_zero_le hc0
      rw [Int.toNat_natCast] at hp
      obtain ⟨hr1, hr2⟩ := hp
      subst hr2
      have hin : i < out.length := by omega
      have HR := Aside0.mk hr1
      clear hr1 hc0
      obtain ⟨hrl, hrs, hro, hrf⟩ := HROW.out
      rcases hro.2 with ⟨_, h0⟩ | ⟨g4, cap, cur, hv, hbg4, hg4, hnc, hcm, hcs, htk⟩
      · omega
      · injection hv with hA _ hC
        subst hA
        subst hC
        have hcs' : cur.size = c4 * 4 := hcs
        have htk' : cur.toList.take (out.length * 4) = rows.flatten := htk
        have HX := Aside0.mk (And.intro hbg4 (And.intro hg4 (And.intro hnc (And.intro hcm (And.intro hcs' htk')))))
        have hp0 : (0 : Int) ≤ i := by omega
        clear hrl hrs hro hrf hbg4 hg4 hnc hcm hcs htk hcs' htk'
        go_wp2_with ((with_reducible refine gate_store (t := 46) (p := 36) rfl ?_); refine parts_Put_stop ?_)
        refine Aside0.mk ?_
        refine store_event (t := 46) (p := 36) (v := ?vo2) (w1 := w7.setRow g4 (cur.toList.take (i * 4) ++ (#[.int .i64 h.f0, .int .i64 h.f1, .string h.f2, .slice fA h.f3.length fc] : Array Value).toList ++ cur.toList.drop (i * 4 + 4)).toArray) ?hg2 ?ho2 ?hn2 ?hr2 ?_
        case ho2 => rfl
        case hg2 => rfl
        case hn2 => rfl
        case hr2 => exact parts_Put_store rfl g4 (i * 4) (by simp [Act.eval, Act.put, Addr.add]) #[.int .i64 h.f0, .int .i64 h.f1, .string h.f2, .slice fA h.f3.length fc] rfl 46 cur HX.out.2.1 (by have := HX.out; show i * 4 + 4 ≤ cur.size; omega) (by simp [Value.oneCell']) parts_Put_info4
        intro w8 hw8
        obtain ⟨hrl, hrs, hro, hrf⟩ := HROW.out
        obtain ⟨q1, q2, q3, q4, q5, q6⟩ := HX.out
        have hfl : rows.flatten.length = out.length * 4 := hro.1
        have hb8 : Below w.heap.size w w8 := by rw [hw8]; exact Sha.setRow_below _ _ _ _ _ HB7.out q1
        have hlen : r1.length = out.length := by rw [← HR.out, List.length_set]
        have er : r1 = out.take i ++ ([h] ++ out.drop (i + 1)) := by
          rw [← HR.out, List.set_eq_take_append_cons_drop, if_pos hin]
          simp
        have hcur : ∀ j, j ≤ out.length * 4 → cur.toList.take j = rows.flatten.take j := fun j hj => by rw [← q6, List.take_take, Nat.min_eq_left hj]
        have ho8 : w8.ownsRow w.heap.size 46 4 (.slice (some ⟨g4, 0, none⟩) out.length c4) out.length (rows.flatten.take (i * 4) ++ ([.int .i64 h.f0, .int .i64 h.f1, .string h.f2, .slice fA h.f3.length fc] : List Value) ++ rows.flatten.drop ((i + 1) * 4)) := by
          refine ⟨?_, .inr ⟨g4, c4, _, rfl, q1, by rw [hw8]; exact setRow_heap _ _ _ _ _ _ q2, q3, q4, ?_, ?_⟩⟩
          · have e4 : ∀ l : List Value, (rows.flatten.take (i * 4) ++ l ++ rows.flatten.drop ((i + 1) * 4)).length = min (i * 4) (out.length * 4) + l.length + (out.length * 4 - (i + 1) * 4) := fun l => by rw [List.length_append, List.length_append, List.length_take, List.length_drop, hfl]
            rw [e4]
            show min (i * 4) (out.length * 4) + 4 + (out.length * 4 - (i + 1) * 4) = out.length * 4
            omega
          · have e4 : ∀ l : List Value, ((cur.toList.take (i * 4) ++ l ++ cur.toList.drop (i * 4 + 4)).toArray).size = min (i * 4) cur.size + l.length + (cur.size - (i * 4 + 4)) := fun l => by rw [List.size_toArray, List.length_append, List.length_append, List.length_take, List.length_drop, Array.length_toList]
            rw [e4]
            show min (i * 4) cur.size + 4 + (cur.size - (i * 4 + 4)) = c4 * 4
            omega
          · have e1 : cur.toList.take (i * 4) = rows.flatten.take (i * 4) := hcur _ (by omega)
            have e2 : (cur.toList.drop (i * 4 + 4)).take (out.length * 4 - (i * 4 + 4)) = rows.flatten.drop ((i + 1) * 4) := by
              rw [← q6, List.drop_take, show (i + 1) * 4 = i * 4 + 4 by omega]
            have e3 : (cur.toList.take (i * 4) ++ ([.int .i64 h.f0, .int .i64 h.f1, .string h.f2, .slice fA h.f3.length fc] : List Value)).length = i * 4 + 4 := by rw [List.length_append, List.length_take, Array.length_toList]; show min (i * 4) cur.size + 4 = i * 4 + 4; omega
            show (cur.toList.take (i * 4) ++ ([.int .i64 h.f0, .int .i64 h.f1, .string h.f2, .slice fA h.f3.length fc] : List Value) ++ cur.toList.drop (i * 4 + 4)).take (out.length * 4) = _
            rw [List.take_append, e3, List.take_of_length_le (by rw [e3]; omega), e1, e2]
        have hst : ∀ {x : S46} {c : List Value}, Kd.FK k46 w7 (fun k => w.heap.size ≤ k ∧ some k ≠ (Value.slice (some ⟨g4, 0, none⟩) out.length c4).ownBlock) x c → Kd.FK k46 w8 (fun k => w.heap.size ≤ k) x c := fun hq => by
          have hg8 : w7.grownBy w8 (some g4) := by rw [hw8]; exact ⟨rfl, rfl, rfl, by simp [World.setRow], fun k _ hk => setRow_other w7 g4 k _ (fun e => hk (by rw [e]))⟩
          exact Kd.FK_mono (Kd.FK_grown hq hg8 (fun k hk => hk.2)) (fun k hk => hk.1)
        have v1 : (rows.take i ++ ([([.int .i64 h.f0, .int .i64 h.f1, .string h.f2, .slice fA h.f3.length fc] : List Value)] ++ rows.drop (i + 1))).length = r1.length := by
          rw [hlen, List.length_append, List.length_append, List.length_take, List.length_drop]
          simp
          omega
        have v2 : ∀ c ∈ (rows.take i ++ ([([.int .i64 h.f0, .int .i64 h.f1, .string h.f2, .slice fA h.f3.length fc] : List Value)] ++ rows.drop (i + 1))), c.length = k46.sz := by
          intro c hc
          rw [List.mem_append, List.mem_append] at hc
          rcases hc with hc | hc | hc
          · exact (hrs c (List.mem_of_mem_take hc)).1
          · simp at hc
            subst hc
            rfl
          · exact (hrs c (List.mem_of_mem_drop hc)).1
        have v3 : w8.ownsRow w.heap.size 46 k46.sz (.slice (some ⟨g4, 0, none⟩) out.length c4) r1.length (rows.take i ++ ([([.int .i64 h.f0, .int .i64 h.f1, .string h.f2, .slice fA h.f3.length fc] : List Value)] ++ rows.drop (i + 1))).flatten := by
          rw [hlen, parts_Put_mid_flat 4 (fun c hc => (hrs c hc).1) _ i (i + 1) (by omega) (by omega)]
          exact ho8
        have v4 := parts_Put_mid (R := fun x c => Kd.FK k46 w8 (fun k => w.heap.size ≤ k) x c) hrl (fun j x c hx hc => hst (hrf j x c hx hc)) (hst HFK.out) i (i + 1)
        rw [← er] at v4
        have HV8 : Aside0 (Kd.V k46 46 w8 w.heap.size (fun k_ => w.heap.size ≤ k_) (.slice (some ⟨g4, 0, none⟩) out.length c4) r1) := Aside0.mk (parts_Put_shut (base' := w.heap.size) _ v1 v2 v3 (fun kk e => (ho8.lt kk e).1) v4 (by rw [hlen]; unfold maxLen at q4; omega))
        have HB8 := Aside0.mk hb8
        clear hrl hrs hro hrf ho8 hb8 hst hlen er v1 v2 v3 v4 hcur hfl q1 q2 q3 q4 q5 q6 hw8
        go_wp2
        go_ret2
        exact ⟨_, rfl, HV8.out, HB8.out⟩
    · cases hp
  | false =>
    have hp := HPUT3.out
    unfold parts_Put_put at hp
    rw [if_neg (by decide)] at hp
    split at hp
    · rename_i hc
      obtain ⟨hc0, hc1, hc2⟩ := hc
      simp only [Option.some.injEq, Prod.mk.injEq] at hp
      obtain ⟨i, rfl⟩ := Int.eq_ofNat_of_zero_le hc0
      rw [Int.toNat_natCast] at hp
      obtain ⟨hr1, hr2⟩ := hp
      subst hr2
      have HR := Aside0.mk hr1
      have HI := Aside0.mk (And.intro hc1 hc2)
      clear hr1 hc0 hc1 hc2
      go_wp2_with (go_at_call 41; refine parts_Put_stop ?_)
      refine Aside0.mk ?_
      obtain ⟨hrl, hrs, hro, hrf⟩ := HROW.out
      have hro' : w7.ownsRow w.heap.size 46 4 (.slice A4 out.length c4) out.length rows.flatten := hro
      refine (api_Part_own w.heap.size (.slice A4 out.length c4) out.length i w7.heap.size 46 rows.flatten [.int .i64 h.f0, .int .i64 h.f1, .string h.f2, .slice fA h.f3.length fc] _ (hro'.alloc _) (by have := HI.out; omega) (by have := HI.out; omega) (by simp; omega) HONE.out (by simp [Value.oneCell']) rfl (heap_alloc_new w7 _) (fun e => by have := (hro'.lt _ e).2; omega)).mono ?_
      rintro e w8 ⟨v8, rfl, ho8, hg8⟩
      have hb8 : Below w.heap.size w w8 := (HB7.out.alloc HB7.out.size _).grown hg8 (by simp; omega) (fun kk e => (hro'.lt kk e).1)
      have hst : ∀ {x : S46} {c : List Value}, Kd.FK k46 w7 (fun k => w.heap.size ≤ k ∧ some k ≠ (Value.slice A4 out.length c4).ownBlock) x c → Kd.FK k46 w8 (fun k => w.heap.size ≤ k) x c := fun hq => Kd.FK_mono (Kd.FK_grown (Kd.FK_below hq ((Below.refl _ w7).alloc (Nat.le_refl _) _)) hg8 (fun k hk => hk.2)) (fun k hk => hk.1)
      have hlen : r1.length = out.length + 1 := by rw [← HR.out, List.length_append, List.length_cons, List.length_take, List.length_drop]; have := HI.out; omega
      have er : r1 = out.take i ++ ([h] ++ out.drop i) := by rw [← HR.out]; simp
      have v1 : (rows.take i ++ ([([.int .i64 h.f0, .int .i64 h.f1, .string h.f2, .slice fA h.f3.length fc] : List Value)] ++ rows.drop i)).length = r1.length := by
        rw [hlen, List.length_append, List.length_append, List.length_take, List.length_drop]
        have := HI.out
        simp
        omega
      have v2 : ∀ c ∈ (rows.take i ++ ([([.int .i64 h.f0, .int .i64 h.f1, .string h.f2, .slice fA h.f3.length fc] : List Value)] ++ rows.drop i)), c.length = k46.sz := by
        intro c hc
        rw [List.mem_append, List.mem_append] at hc
        rcases hc with hc | hc | hc
        · exact (hrs c (List.mem_of_mem_take hc)).1
        · simp at hc
          subst hc
          rfl
        · exact (hrs c (List.mem_of_mem_drop hc)).1
      have v3 : w8.ownsRow w.heap.size 46 k46.sz v8 r1.length (rows.take i ++ ([([.int .i64 h.f0, .int .i64 h.f1, .string h.f2, .slice fA h.f3.length fc] : List Value)] ++ rows.drop i)).flatten := by
        rw [hlen, parts_Put_mid_flat 4 (fun c hc => (hrs c hc).1) _ i i (by have := HI.out; omega) (by have := HI.out; omega)]
        exact ho8
      have v4 := parts_Put_mid (R := fun x c => Kd.FK k46 w8 (fun k => w.heap.size ≤ k) x c) hrl (fun j x c hx hc => hst (hrf j x c hx hc)) (hst HFK.out) i i
      rw [← er] at v4
      have HV8 : Aside0 (Kd.V k46 46 w8 w.heap.size (fun k_ => w.heap.size ≤ k_) v8 r1) := Aside0.mk (parts_Put_shut (base' := w.heap.size) _ v1 v2 v3 (fun kk e => (ho8.lt kk e).1) v4 (by have := HI.out; omega))
      have HB8 := Aside0.mk hb8
      clear hrl hrs hro hrf hro' ho8 hg8 hb8 hst hlen er v1 v2 v3 v4
      go_wp2
      go_ret2
      exact ⟨v8, rfl, HV8.out, HB8.out⟩
    · cases hp
theorem parts_Put.calls (k : Nat) (A0 : Option Addr) (c0 : Nat) (l0 : List (S46)) (a1_0 : Int) (a1_1 : Int) (a1_2 : ByteArray) (A1_3 : Option Addr) (c1_3 : Nat) (l1_3 : List (S63)) (r1 : List (S46)) (r2 : Int) (w : World) (hr0 : Kd.C k46 w A0 l0.length l0) (hc0 : l0.length ≤ c0) (hr1_3 : Kd.C k63 w A1_3 l1_3.length l1_3) (hc1_3 : l1_3.length ≤ c1_3) (h : parts_Put.f k l0 a1_0 a1_1 a1_2 l1_3 = some (r1, r2)) :
    Calls Tryd.prog 16 #[.slice A0 l0.length c0, .agg #[.int .i64 a1_0, .int .i64 a1_1, .string a1_2, .slice A1_3 l1_3.length c1_3]] w fun e w' => ∃ v0_ : Value, e = .returned (.tuple #[v0_, .int .i64 r2]) ∧ Kd.V k46 46 w' w.heap.size (fun k_ => (w.heap.size ≤ k_)) v0_ r1 ∧ Below w.heap.size w w' := by
  unfold parts_Put.f at h
  obtain ⟨t, ht, h⟩ := Option.bind_eq_some_iff.1 h
  cases t with
  | false =>
    rw [if_neg (by decide)] at h
    simp only [Option.some.injEq, Prod.mk.injEq] at h
    obtain ⟨rfl, rfl⟩ := h
    exact (parts_Put_n1 k A0 c0 l0 a1_0 a1_1 a1_2 A1_3 c1_3 _ w hr0 hc0 ht).mono fun e w' ⟨h1, h2⟩ => ⟨_, h1, Kd.V_nil _ _ _ _ _, h2⟩
  | true =>
    rw [if_pos rfl] at h
    obtain ⟨ec, hec, h⟩ := Option.bind_eq_some_iff.1 h
    by_cases h0 : ec = 0
    · subst h0
      rw [if_pos rfl] at h
      obtain ⟨out, hout, h⟩ := Option.bind_eq_some_iff.1 h
      obtain ⟨fr, hfr, h⟩ := Option.bind_eq_some_iff.1 h
      split at h
      · rename_i hfl
        obtain ⟨⟨b1, b2⟩, hfi, h⟩ := Option.bind_eq_some_iff.1 h
        exact parts_Put_ok k A0 c0 l0 a1_0 a1_1 a1_2 A1_3 c1_3 l1_3 w hr0 hc0 hr1_3 hc1_3 ht hec out fr hout hfr hfl b1 b2 hfi r1 r2 h
      · cases h
    · rw [if_neg h0] at h
      simp only [Option.some.injEq, Prod.mk.injEq] at h
      obtain ⟨rfl, rfl⟩ := h
      exact (parts_Put_n2 k A0 c0 l0 a1_0 a1_1 a1_2 A1_3 c1_3 l1_3 w hr0 hc0 hr1_3 hc1_3 ht ec h0 hec).mono fun e w' ⟨h1, h2⟩ => ⟨_, h1, Kd.V_nil _ _ _ _ _, h2⟩

end Go.Proofs.YtoiockmmlanimaaDoor.Oj
end
section
-- Written for this claim by hyb.py, a driver of this session's over the kit's printer.
namespace Go.Proofs.YtoiockmmlanimaaDoor.Oj
open Go.RowKit Go.Proofs.YtoiockmmlanimaaDoorW.PrintWords Go.Proofs.YtoiockmmlanimaaDoorW.PrintLast Go.Proofs.YtoiockmmlanimaaDoorW.PrintMore
attribute [local go_sem] max2_int min2_int max_two min_two max_three min_three max_four min_four   -- for this text's walks alone
set_option linter.unusedVariables false
set_option linter.unusedSimpArgs false

/-! ### stowagelaw14_zeros: function 39 -/
def stowagelaw14_zeros.l0 : Nat → List Int → Int → Option (ByteArray)
 | 0, _, _ => none
 | k + 1, x1, x2 => if x2 < 64 then (if 0 ≤ x2 then (if x2 < (x1.length : Int) then (stowagelaw14_zeros.l0 k (x1.set (x2 : Int).toNat 48) (wrap64 (x2 + 1))) else (none)) else (none)) else (some (strOfNums x1))
def stowagelaw14_zeros.f (k : Nat)  : Option (ByteArray) := if 64 ≤ 281474976710656 then (stowagelaw14_zeros.l0 k (List.replicate 64 0) 0) else (none)
theorem stowagelaw14_zeros.mono_l : ∀ k, (∀ y0 y1, LeO (stowagelaw14_zeros.l0 k y0 y1) (stowagelaw14_zeros.l0 (k + 1) y0 y1))
 | 0 => fun _ _ r h => by simp [stowagelaw14_zeros.l0] at h
 | k + 1 => by
  have ih0 := stowagelaw14_zeros.mono_l k
  ·
   intro y0 y1
   unfold stowagelaw14_zeros.l0
   repeat' first
   | (with_reducible exact ih0 _ _)
   | (with_reducible exact LeO.refl _)
   | (with_reducible exact LeO.none _)
   | (with_reducible refine LeO.ite ?_ ?_)
   | (with_reducible refine LeO.bind ?_ (fun _ => ?_))
   | exact ih0 _ _
   | exact LeO.none _
   | refine LeO.ite ?_ ?_
   | refine LeO.bind ?_ (fun _ => ?_)
theorem stowagelaw14_zeros.mono : ∀ k, LeO (stowagelaw14_zeros.f k ) (stowagelaw14_zeros.f (k + 1) ) := by
 intro  k
 have ih0 := stowagelaw14_zeros.mono_l k
 unfold stowagelaw14_zeros.f
 repeat' first
   | (with_reducible exact ih0 _ _)
   | (with_reducible exact LeO.refl _)
   | (with_reducible exact LeO.none _)
   | (with_reducible refine LeO.ite ?_ ?_)
   | (with_reducible refine LeO.bind ?_ (fun _ => ?_))
   | exact ih0 _ _
   | exact LeO.none _
   | refine LeO.ite ?_ ?_
   | refine LeO.bind ?_ (fun _ => ?_)
set_option maxHeartbeats 8000000 in
set_option maxRecDepth 100000 in
theorem stowagelaw14_zeros.calls (k : Nat)  (r : ByteArray) (w : World) (h : stowagelaw14_zeros.f k  = some r) :
  Calls Tryd.prog 39 #[] w fun e w' => e = .returned (.string r) ∧ Below w.heap.size w w' := by
 have HB := Aside0.mk (Below.refl w.heap.size w)
 have H : (if 64 ≤ 281474976710656 then (stowagelaw14_zeros.l0 k (List.replicate 64 0) 0) else (none)) = some r := h
 clear h
 by_cases c1 : 64 ≤ 281474976710656
 ·
  rw [if_pos c1] at H
  have c1b0 := eq_true c1
  have c1b1 : decide (64 ≤ 281474976710656) = true := decide_eq_true c1
  clear c1
  obtain ⟨y217, hy217⟩ : ∃ y_ : List Int, y_ = (List.replicate 64 0) := ⟨_, rfl⟩
  replace H : (stowagelaw14_zeros.l0 k y217 0) = some r := by first | (rw [hy217]; with_reducible exact H) | (have H2_ := (Option.bind_some _ _).symm.trans H; rw [hy217]; with_reducible exact H2_) | (have H2_ := (Option.bind_some _ _).symm.trans H; with_reducible exact H2_) | with_reducible exact H | (rw [hy217]; exact H) | exact H
  have Ny217 := Aside0.mk hy217
  clear hy217
  have H' := Aside0.mk H
  clear H
  go_enter Tryd.func39, Tryd.ntmps39
  go_wp2_with (first | ((with_reducible refine gate_dst (N := 3) rfl ?_); refine Kd.R_make (Kd.int .u8) _ 5 rfl (N := 3) rfl 113 _ _ rfl 64 rfl rfl Tryd.underlying113 (.int .u8 0) 1 info5 rfl (by decide) (by omega) 0 (ok := fun _ => True) (okp := fun _ => True) rfl (fun _ hk => hk) trivial (by omega) (by omega) (Below.refl _ _) (Nat.le_refl _) ?_; intro v218 w2 ho3 hb hg_ hnew_; clear hg_ hnew_; (first | rw [← Ny217.out] at ho3 | (simp only [Int.reduceToNat] at ho3; rw [← Ny217.out] at ho3)); have HO219 := Aside0.mk (Kd.R_lower ho3 (below_size (bw HB.out))); replace HB := Aside0.mk (below_step (bw HB.out) hb); clear hb ho3))
  go_loopg [2] k (fun kq v2 w' => ∃ (x1_1 : List Int) (x2_1 : Int), v2 = .int .i64 x2_1 ∧ Aside0 (stowagelaw14_zeros.l0 kq x1_1 x2_1 = some r) ∧ Aside0 (kq ≤ k) ∧ Aside0 (Kd.R (Kd.int .u8) 5 w' w.heap.size (fun _ => True) v218 x1_1) ∧ Aside0 (Below w.heap.size w w'))
  case atStart => exact ⟨(y217), (0), (by first | rfl | (simp; done) | (simp [*]; done)), H', ⟨Nat.le_refl _⟩, ⟨kR HO219.out⟩, ⟨bw HB.out⟩⟩
  case round =>
   clear H'
   try clear c1
   try clear c1b0
   try clear c1b1
   try clear p2
   try clear c3
   obtain ⟨x1_1, x2_1, rfl, HA, HK1, HO_1, HB⟩ := hrel
   cases gk with
   | zero => exact absurd HA.out (by simp [stowagelaw14_zeros.l0])
   | succ k1 =>
    have H := HA.out
    clear HA
    simp only [stowagelaw14_zeros.l0] at H
    by_cases c4 : x2_1 < 64
    ·
     rw [if_pos c4] at H
     have c4b0 : decide (x2_1 < 64) = true := decide_eq_true c4
     clear c4
     by_cases c5 : 0 ≤ x2_1
     ·
      rw [if_pos c5] at H
      have c5b0 : decide (0 ≤ x2_1) = true := decide_eq_true c5
      clear c5
      by_cases c6 : x2_1 < (x1_1.length : Int)
      ·
       rw [if_pos c6] at H
       have c6b0 : decide (x2_1 < (x1_1.length : Int)) = true := decide_eq_true c6
       clear c6
       obtain ⟨y220, hy220⟩ : ∃ y_ : List Int, y_ = (x1_1.set (x2_1 : Int).toNat 48) := ⟨_, rfl⟩
       replace H : (stowagelaw14_zeros.l0 k1 y220 (wrap64 (x2_1 + 1))) = some r := by first | (rw [hy220]; with_reducible exact H) | (have H2_ := (Option.bind_some _ _).symm.trans H; rw [hy220]; with_reducible exact H2_) | (have H2_ := (Option.bind_some _ _).symm.trans H; with_reducible exact H2_) | with_reducible exact H | (rw [hy220]; exact H) | exact H
       have Ny220 := Aside0.mk hy220
       clear hy220
       have H' := Aside0.mk H
       clear H
       have p7 : 0 ≤ (x2_1 : Int) := of_decide_eq_true asm
       have q7 : (x2_1 : Int) < ((x1_1.length : Int) : Int) := of_decide_eq_true asm
       obtain ⟨go7, co7, eo7, gb7, gl7, cl7, HG7⟩ := Kd.R_form HO_1.out (by omega)
       (first | cases eo7 | (injection eo7 with ea_ en_ ec_; (first | subst ea_ | (injection ea_ with ea_; subst ea_)); subst ec_; clear en_))
       have GB7 := Aside0.mk gb7
       have GG7 := Aside0.mk HG7
       clear gb7 gl7 HG7
       obtain ⟨hx7_0, hf7_0⟩ := Kd.R_celln 0 HO_1.out (x2_1 : Int) p7 q7
       replace p7 := eq_true p7
       replace q7 := eq_true q7
       have HP8 := Kd.R_putg HO_1.out (x2_1 : Int) 48
       go_wp2_with (first | ((with_reducible refine gate_store (t := 5) (p := 10) rfl ?_); refine store_event (t := 5) (p := 10) (v := ?vo_w9) (w1 := (wr.setCell ⟨go7, (x2_1 : Int).toNat, none⟩ (.int .u8 48))) ?hg ?ho ?hn ?hr ?_; (case ho => rfl); (case hg => rfl); (case hn => rfl); (case hr => first | (go_simp; done) | (go_simp; rfl)); intro w9 hw; have hg : wr.grownBy w9 (some go7) := (by rw [hw]; exact HP8.2); have hp_ : Kd.R (Kd.int .u8) 5 w9 w.heap.size (fun _ => True) (.slice (some ⟨go7, 0, none⟩) x1_1.length co7) y220 := (by rw [hw, Ny220.out]; exact HP8.1); clear HP8; replace HO_1 := Aside0.mk (hp_); replace HB := Aside0.mk ((by rw [hw]; exact below_set (HB.out) GB7.out : Below w.heap.size w w9)); clear hg hw hp_))
       go_roundg k1
       case measure => have := HK1.out; omega
       case rel => exact ⟨(y220), (wrap64 (x2_1 + 1)), (by first | rfl | (simp; done) | (simp [*]; done)), H', ⟨by have := HK1.out; omega⟩, ⟨kR HO_1.out⟩, ⟨bw HB.out⟩⟩
      ·
       rw [if_neg c6] at H
       exact absurd H (by simp)
     ·
      rw [if_neg c5] at H
      exact absurd H (by simp)
    ·
     rw [if_neg c4] at H
     have c4b0 : decide (x2_1 < 64) = false := decide_eq_false c4
     clear c4
     obtain rfl := Option.some.inj H
     have hcv10 := own_string (P := Tryd.prog) Tryd.underlying113 Tryd.underlying5 Tryd.underlying9 (Kd.own_of_R HO_1.out)
     go_wp2
     go_ret
     exact ⟨by first | rfl | (simp [errW_none, errW_some] <;> rfl) | (simp [*, errW_none, errW_some] <;> rfl), by repeat (first | (with_reducible first | exact HB.out | apply below_alloc | apply pw_below_drewN | apply below_drew1) | exact HB.out)⟩
 ·
  rw [if_neg c1] at H
  exact absurd H (by simp)

/-! ### stowagelaw14_one: function 38 -/
def stowagelaw14_one.f (k : Nat) (a0 : Int) (a1 : Int) : Option (Int × Int × ByteArray × (List (S63))) := (stowagelaw14_zeros.f k).bind fun t222 => ((stowagelaw14_zeros.f k).bind fun t223 => (some (a0, a1, t222, (([(⟨t223, a1⟩ : S63)] : List (S63))))))
theorem stowagelaw14_one.mono : ∀ a0 a1 k, LeO (stowagelaw14_one.f k a0 a1) (stowagelaw14_one.f (k + 1) a0 a1) := by
 intro a0 a1 k
 unfold stowagelaw14_one.f
 repeat' first
   | (with_reducible exact stowagelaw14_zeros.mono _)
   | (with_reducible exact LeO.refl _)
   | (with_reducible exact LeO.none _)
   | (with_reducible refine LeO.ite ?_ ?_)
   | (with_reducible refine LeO.bind ?_ (fun _ => ?_))
   | exact stowagelaw14_zeros.mono _
   | exact LeO.none _
   | refine LeO.ite ?_ ?_
   | refine LeO.bind ?_ (fun _ => ?_)
set_option maxHeartbeats 8000000 in
set_option maxRecDepth 100000 in
theorem stowagelaw14_one.calls (k : Nat) (a0 : Int) (a1 : Int) (r1 : Int) (r2 : Int) (r3 : ByteArray) (r4 : List (S63)) (w : World) (h : stowagelaw14_one.f k a0 a1 = some (r1, r2, r3, r4)) :
  Calls Tryd.prog 38 #[.int .i64 a0, .int .i64 a1] w fun e w' => ∃ v3_ : Value, e = .returned (.agg #[.int .i64 r1, .int .i64 r2, .string r3, v3_]) ∧ Kd.R k63 63 w' w.heap.size (fun _ => True) v3_ r4 ∧ Below w.heap.size w w' := by
 have hu46 := Tryd.underlying46
 have hu63 := Tryd.underlying63
 have HB := Aside0.mk (Below.refl w.heap.size w)
 have H : ((stowagelaw14_zeros.f k).bind fun t222 => ((stowagelaw14_zeros.f k).bind fun t223 => (some (a0, a1, t222, (([(⟨t223, a1⟩ : S63)] : List (S63))))))) = some (r1, r2, r3, r4) := h
 clear h
 replace H := Option.bind_eq_some_iff.mp H
 obtain ⟨t222, A30, H⟩ := H
 replace H : ((stowagelaw14_zeros.f k).bind fun t223 => (some (a0, a1, t222, (([(⟨t223, a1⟩ : S63)] : List (S63)))))) = some (r1, r2, r3, r4) := H
 have A3 := Aside0.mk A30
 clear A30
 replace H := Option.bind_eq_some_iff.mp H
 obtain ⟨t223, A40, H⟩ := H
 replace H : (some (a0, a1, t222, (([(⟨t223, a1⟩ : S63)] : List (S63))))) = some (r1, r2, r3, r4) := H
 have A4 := Aside0.mk A40
 clear A40
 obtain ⟨y224, hy224⟩ : ∃ y_ : List (S63), y_ = (([(⟨t223, a1⟩ : S63)] : List (S63))) := ⟨_, rfl⟩
 replace H : (some (a0, a1, t222, y224)) = some (r1, r2, r3, r4) := by first | (rw [hy224]; with_reducible exact H) | (have H2_ := (Option.bind_some _ _).symm.trans H; rw [hy224]; with_reducible exact H2_) | (have H2_ := (Option.bind_some _ _).symm.trans H; with_reducible exact H2_) | with_reducible exact H | (rw [hy224]; exact H) | exact H
 have Ny224 := Aside0.mk hy224
 clear hy224
 simp only [Option.some.injEq, Prod.mk.injEq] at H
 obtain ⟨rfl, rfl, rfl, rfl⟩ := H
 go_enter Tryd.func38, Tryd.ntmps38
 go_wp2_with (first | ((with_reducible refine gate_dst (N := 4) rfl ?_); refine box_event ?hg (N := 4) ?hd (cs := #[.int .i64 0, .int .i64 0, .string (⟨#[]⟩ : ByteArray), .slice none 0 0]) (t := 46) ?hr ?_; (case hd => rfl); (case hg => rfl); (case hr => first | (go_simp; done) | (go_simp; rfl)); intro gb221 hg w5 hbox hb; have n0_ := Aside0.mk (below_step (bw HB.out) hb); have n1_ := Aside0.mk (hbox); have n2_ := Aside0.mk ((by rw [hg]; exact (below_size (bw HB.out)) : w.heap.size ≤ gb221)); have n3_ := Aside0.mk ((by rw [hg]; exact (below_size (bw HB.out)) : w.heap.size ≤ gb221)); clear HB; have HB := n0_; have BK221 := n1_; have GW221 := n2_; have GE221 := n3_; clear n0_ n1_ n2_ n3_; clear hb hbox hg) | ((with_reducible refine gate_callee (f := 39) rfl ?_); refine goesL_ (some 7) rfl rfl Tryd.func39 (by kernel_rfl) rfl #[] rfl gl ?_; (with_reducible refine (stowagelaw14_zeros.calls k  t222 _ A3.out).mono ?_); rintro e w6 ⟨rfl, hb⟩; refine ⟨_, rfl, ?_⟩; replace BK221 := Aside0.mk (blk_below (g := gb221) (o := .cells #[.int .i64 0, .int .i64 0, .string (⟨#[]⟩ : ByteArray), .slice none 0 0] 46 (0, 0)) (bk BK221.out) hb); replace HB := Aside0.mk (below_step (bws HB.out) hb); (try clear hb); (try clear hb2); (try clear hk); (try clear hi)) | ((with_reducible refine gate_callee (f := 39) rfl ?_); refine goesL_ (some 8) rfl rfl Tryd.func39 (by kernel_rfl) rfl #[] rfl gl ?_; (with_reducible refine (stowagelaw14_zeros.calls k  t223 _ A4.out).mono ?_); rintro e w7 ⟨rfl, hb⟩; refine ⟨_, rfl, ?_⟩; replace BK221 := Aside0.mk (blk_below (g := gb221) (o := .cells #[.int .i64 0, .int .i64 0, .string (⟨#[]⟩ : ByteArray), .slice none 0 0] 46 (0, 0)) (bk BK221.out) hb); replace HB := Aside0.mk (below_step (bws HB.out) hb); (try clear hb); (try clear hb2); (try clear hk); (try clear hi)) | ((with_reducible refine gate_dst (N := 11) rfl ?_); refine Kd.R_lit k63 _ 63 ?hg (N := 11) ?hd (xs := ([(⟨t223, a1⟩ : S63)] : List (S63))) (inner := [.string t223, .int .i64 a1]) (ok := fun _ => True) (okp := fun _ => True) ?hr ?hp (fun _ hk => hk) trivial (Below.refl _ _) (Nat.le_refl _) (by simp) ?_; (case hd => rfl); (case hg => rfl); (case hr => first | (go_simp; done) | (go_simp; rfl)); (case hp => exact (Reps.c2 (show Kd.M k63 _ _ _ (⟨t223, a1⟩ : S63) [.string t223, .int .i64 a1] from (k63_mkM _ _ _ (⟨t223, a1⟩ : S63) )) (Reps.none _ _))); intro v225 w8 ho9 hb hg_ hnew_; clear hg_ hnew_; (first | rw [← Ny224.out] at ho9 | (simp only [Int.reduceToNat] at ho9; rw [← Ny224.out] at ho9)); have HO226 := Aside0.mk (Kd.R_lower ho9 (below_size (bws HB.out))); replace BK221 := Aside0.mk (blk_below (g := gb221) (o := .cells #[.int .i64 0, .int .i64 0, .string (⟨#[]⟩ : ByteArray), .slice none 0 0] 46 (0, 0)) (bk BK221.out) hb); replace HB := Aside0.mk (below_step (bws HB.out) hb); clear hb ho9; obtain ⟨Ao10, co10, eo10⟩ := Kd.R_slice HO226.out; subst eo10; obtain ⟨hcz11_0, hcz11_1, hcz11_2, hcz11_3, hfz11_0, hfz11_1, hfz11_2, hfz11_3⟩ := cz4 BK221.out))
 refine bodyPost_ret (results_cell_row rfl _ _ gb221 46 #[.int .i64 a0, .int .i64 a1, .string t222, .slice Ao10 y224.length co10] (0, 0) _ rfl (bkp BK221.out) Tryd.underlying46 rfl (by kernel_rfl)) rfl ?_
 exact ⟨_, by first | rfl | (simp [errW_none, errW_some] <;> rfl) | (simp [*, errW_none, errW_some] <;> rfl), by (with_reducible repeat (first | apply Kd.R_alloc | apply Kd.R_drewN | apply Kd.R_drew)); exact Kd.R_mono (Kd.R_far (p := ⟨gb221, 3, none⟩) (Kd.R_far (p := ⟨gb221, 2, none⟩) (Kd.R_far (p := ⟨gb221, 1, none⟩) (Kd.R_far (p := ⟨gb221, 0, none⟩) (Kd.R_types HO226.out BK221.out (by decide)) (fun _ hk => hk.2) (.int .i64 a0)) (fun _ hk => hk.2) (.int .i64 a1)) (fun _ hk => hk.2) (.string t222)) (fun _ hk => hk.2) (.slice Ao10 y224.length co10)) (fun _ hk => trivial), by repeat (first | (with_reducible first | exact HB.out | apply below_alloc | apply pw_below_drewN | apply below_drew1 | refine below_set ?_ GE221.out) | exact HB.out)⟩

/-! ### stowagelaw14_awake: function 13 -/
def stowagelaw14_awake.f (k : Nat)  : Option (Bool) := (stowagelaw14_one.f k 2 1).bind fun bt227 => ((parts_Put.f k ([] : List (S46)) bt227.1 bt227.2.1 bt227.2.2.1 bt227.2.2.2).bind fun bt233 => ((stowagelaw14_one.f k 1 64).bind fun bt237 => ((parts_Put.f k bt233.1 bt237.1 bt237.2.1 bt237.2.2.1 bt237.2.2.2).bind fun bt243 => ((stowagelaw14_zeros.f k).bind fun t247 => ((stowagelaw14_zeros.f k).bind fun t248 => ((parts_Join.f k bt243.1 (([(⟨1, t247⟩ : S61), (⟨2, t248⟩ : S61)] : List (S61)))).bind fun bt252 => (if bt233.2 = 0 then (if bt243.2 = 0 then (if bt252.2.2.2.2.2 = 0 then (if bt252.2.2.1 = 65 then (if (bt252.2.2.2.2.1.length : Int) = 2 then (if 0 < (bt252.2.2.2.2.1.length : Int) then (some (((rd_T63 bt252.2.2.2.2.1 0).f1) == 64)) else (none)) else (some false)) else (some false)) else (some false)) else (some false)) else (some false))))))))
theorem stowagelaw14_awake.mono : ∀ k, LeO (stowagelaw14_awake.f k ) (stowagelaw14_awake.f (k + 1) ) := by
 intro  k
 unfold stowagelaw14_awake.f
 repeat' first
   | (with_reducible exact parts_Join.mono _ _ _)
   | (with_reducible exact parts_Put.mono _ _ _ _ _ _)
   | (with_reducible exact stowagelaw14_one.mono _ _ _)
   | (with_reducible exact stowagelaw14_zeros.mono _)
   | (with_reducible exact LeO.refl _)
   | (with_reducible exact LeO.none _)
   | (with_reducible refine LeO.ite ?_ ?_)
   | (with_reducible refine LeO.bind ?_ (fun _ => ?_))
   | exact parts_Join.mono _ _ _
   | exact parts_Put.mono _ _ _ _ _ _
   | exact stowagelaw14_one.mono _ _ _
   | exact stowagelaw14_zeros.mono _
   | exact LeO.none _
   | refine LeO.ite ?_ ?_
   | refine LeO.bind ?_ (fun _ => ?_)
set_option maxHeartbeats 8000000 in
set_option maxRecDepth 100000 in
theorem stowagelaw14_awake.calls (k : Nat)  (r : Bool) (w : World) (h : stowagelaw14_awake.f k  = some r) (hG : GG w) :
  Calls Tryd.prog 13 #[] w fun e w' => e = .returned (.bool r) ∧ Below w.heap.size w w' := by
 have HG := Aside0.mk hG
 clear hG
 have hu61 := Tryd.underlying61
 have hu26 := Tryd.underlying26
 have HB := Aside0.mk (Below.refl w.heap.size w)
 have H : ((stowagelaw14_one.f k 2 1).bind fun bt227 => ((parts_Put.f k ([] : List (S46)) bt227.1 bt227.2.1 bt227.2.2.1 bt227.2.2.2).bind fun bt233 => ((stowagelaw14_one.f k 1 64).bind fun bt237 => ((parts_Put.f k bt233.1 bt237.1 bt237.2.1 bt237.2.2.1 bt237.2.2.2).bind fun bt243 => ((stowagelaw14_zeros.f k).bind fun t247 => ((stowagelaw14_zeros.f k).bind fun t248 => ((parts_Join.f k bt243.1 (([(⟨1, t247⟩ : S61), (⟨2, t248⟩ : S61)] : List (S61)))).bind fun bt252 => (if bt233.2 = 0 then (if bt243.2 = 0 then (if bt252.2.2.2.2.2 = 0 then (if bt252.2.2.1 = 65 then (if (bt252.2.2.2.2.1.length : Int) = 2 then (if 0 < (bt252.2.2.2.2.1.length : Int) then (some (((rd_T63 bt252.2.2.2.2.1 0).f1) == 64)) else (none)) else (some false)) else (some false)) else (some false)) else (some false)) else (some false))))))))) = some r := h
 clear h
 replace H := Option.bind_eq_some_iff.mp H
 obtain ⟨⟨t227, t228, t229, t230⟩, A10, H⟩ := H
 replace H : ((parts_Put.f k ([] : List (S46)) t227 t228 t229 t230).bind fun bt233 => ((stowagelaw14_one.f k 1 64).bind fun bt237 => ((parts_Put.f k bt233.1 bt237.1 bt237.2.1 bt237.2.2.1 bt237.2.2.2).bind fun bt243 => ((stowagelaw14_zeros.f k).bind fun t247 => ((stowagelaw14_zeros.f k).bind fun t248 => ((parts_Join.f k bt243.1 (([(⟨1, t247⟩ : S61), (⟨2, t248⟩ : S61)] : List (S61)))).bind fun bt252 => (if bt233.2 = 0 then (if bt243.2 = 0 then (if bt252.2.2.2.2.2 = 0 then (if bt252.2.2.1 = 65 then (if (bt252.2.2.2.2.1.length : Int) = 2 then (if 0 < (bt252.2.2.2.2.1.length : Int) then (some (((rd_T63 bt252.2.2.2.2.1 0).f1) == 64)) else (none)) else (some false)) else (some false)) else (some false)) else (some false)) else (some false)))))))) = some r := H
 have A1 := Aside0.mk A10
 clear A10
 replace H := Option.bind_eq_some_iff.mp H
 obtain ⟨⟨t233, t236⟩, A20, H⟩ := H
 replace H : ((stowagelaw14_one.f k 1 64).bind fun bt237 => ((parts_Put.f k t233 bt237.1 bt237.2.1 bt237.2.2.1 bt237.2.2.2).bind fun bt243 => ((stowagelaw14_zeros.f k).bind fun t247 => ((stowagelaw14_zeros.f k).bind fun t248 => ((parts_Join.f k bt243.1 (([(⟨1, t247⟩ : S61), (⟨2, t248⟩ : S61)] : List (S61)))).bind fun bt252 => (if t236 = 0 then (if bt243.2 = 0 then (if bt252.2.2.2.2.2 = 0 then (if bt252.2.2.1 = 65 then (if (bt252.2.2.2.2.1.length : Int) = 2 then (if 0 < (bt252.2.2.2.2.1.length : Int) then (some (((rd_T63 bt252.2.2.2.2.1 0).f1) == 64)) else (none)) else (some false)) else (some false)) else (some false)) else (some false)) else (some false))))))) = some r := H
 have A2 := Aside0.mk A20
 clear A20
 replace H := Option.bind_eq_some_iff.mp H
 obtain ⟨⟨t237, t238, t239, t240⟩, A30, H⟩ := H
 replace H : ((parts_Put.f k t233 t237 t238 t239 t240).bind fun bt243 => ((stowagelaw14_zeros.f k).bind fun t247 => ((stowagelaw14_zeros.f k).bind fun t248 => ((parts_Join.f k bt243.1 (([(⟨1, t247⟩ : S61), (⟨2, t248⟩ : S61)] : List (S61)))).bind fun bt252 => (if t236 = 0 then (if bt243.2 = 0 then (if bt252.2.2.2.2.2 = 0 then (if bt252.2.2.1 = 65 then (if (bt252.2.2.2.2.1.length : Int) = 2 then (if 0 < (bt252.2.2.2.2.1.length : Int) then (some (((rd_T63 bt252.2.2.2.2.1 0).f1) == 64)) else (none)) else (some false)) else (some false)) else (some false)) else (some false)) else (some false)))))) = some r := H
 have A3 := Aside0.mk A30
 clear A30
 replace H := Option.bind_eq_some_iff.mp H
 obtain ⟨⟨t243, t246⟩, A40, H⟩ := H
 replace H : ((stowagelaw14_zeros.f k).bind fun t247 => ((stowagelaw14_zeros.f k).bind fun t248 => ((parts_Join.f k t243 (([(⟨1, t247⟩ : S61), (⟨2, t248⟩ : S61)] : List (S61)))).bind fun bt252 => (if t236 = 0 then (if t246 = 0 then (if bt252.2.2.2.2.2 = 0 then (if bt252.2.2.1 = 65 then (if (bt252.2.2.2.2.1.length : Int) = 2 then (if 0 < (bt252.2.2.2.2.1.length : Int) then (some (((rd_T63 bt252.2.2.2.2.1 0).f1) == 64)) else (none)) else (some false)) else (some false)) else (some false)) else (some false)) else (some false))))) = some r := H
 have A4 := Aside0.mk A40
 clear A40
 replace H := Option.bind_eq_some_iff.mp H
 obtain ⟨t247, A50, H⟩ := H
 replace H : ((stowagelaw14_zeros.f k).bind fun t248 => ((parts_Join.f k t243 (([(⟨1, t247⟩ : S61), (⟨2, t248⟩ : S61)] : List (S61)))).bind fun bt252 => (if t236 = 0 then (if t246 = 0 then (if bt252.2.2.2.2.2 = 0 then (if bt252.2.2.1 = 65 then (if (bt252.2.2.2.2.1.length : Int) = 2 then (if 0 < (bt252.2.2.2.2.1.length : Int) then (some (((rd_T63 bt252.2.2.2.2.1 0).f1) == 64)) else (none)) else (some false)) else (some false)) else (some false)) else (some false)) else (some false)))) = some r := H
 have A5 := Aside0.mk A50
 clear A50
 replace H := Option.bind_eq_some_iff.mp H
 obtain ⟨t248, A60, H⟩ := H
 replace H : ((parts_Join.f k t243 (([(⟨1, t247⟩ : S61), (⟨2, t248⟩ : S61)] : List (S61)))).bind fun bt252 => (if t236 = 0 then (if t246 = 0 then (if bt252.2.2.2.2.2 = 0 then (if bt252.2.2.1 = 65 then (if (bt252.2.2.2.2.1.length : Int) = 2 then (if 0 < (bt252.2.2.2.2.1.length : Int) then (some (((rd_T63 bt252.2.2.2.2.1 0).f1) == 64)) else (none)) else (some false)) else (some false)) else (some false)) else (some false)) else (some false))) = some r := H
 have A6 := Aside0.mk A60
 clear A60
 obtain ⟨y249, hy249⟩ : ∃ y_ : List (S61), y_ = (([(⟨1, t247⟩ : S61), (⟨2, t248⟩ : S61)] : List (S61))) := ⟨_, rfl⟩
 replace H : ((parts_Join.f k t243 y249).bind fun bt252 => (if t236 = 0 then (if t246 = 0 then (if bt252.2.2.2.2.2 = 0 then (if bt252.2.2.1 = 65 then (if (bt252.2.2.2.2.1.length : Int) = 2 then (if 0 < (bt252.2.2.2.2.1.length : Int) then (some (((rd_T63 bt252.2.2.2.2.1 0).f1) == 64)) else (none)) else (some false)) else (some false)) else (some false)) else (some false)) else (some false))) = some r := by first | (rw [hy249]; with_reducible exact H) | (have H2_ := (Option.bind_some _ _).symm.trans H; rw [hy249]; with_reducible exact H2_) | (have H2_ := (Option.bind_some _ _).symm.trans H; with_reducible exact H2_) | with_reducible exact H | (rw [hy249]; exact H) | exact H
 have Ny249 := Aside0.mk hy249
 clear hy249
 replace H := Option.bind_eq_some_iff.mp H
 obtain ⟨⟨t252, t253, t254, t255, t256, t259⟩, A70, H⟩ := H
 replace H : (if t236 = 0 then (if t246 = 0 then (if t259 = 0 then (if t254 = 65 then (if (t256.length : Int) = 2 then (if 0 < (t256.length : Int) then (some (((rd_T63 t256 0).f1) == 64)) else (none)) else (some false)) else (some false)) else (some false)) else (some false)) else (some false)) = some r := H
 have A7 := Aside0.mk A70
 clear A70
 by_cases c8 : t236 = 0
 ·
  rw [if_pos c8] at H
  have c8b0 : (t236 == 0) = true := beq_iff_eq.mpr c8
  have c8b1 : (t236 != 0) = false := bne_eq_false_iff_eq.mpr c8
  clear c8
  by_cases c9 : t246 = 0
  ·
   rw [if_pos c9] at H
   have c9b0 : (t246 == 0) = true := beq_iff_eq.mpr c9
   have c9b1 : (t246 != 0) = false := bne_eq_false_iff_eq.mpr c9
   clear c9
   by_cases c10 : t259 = 0
   ·
    rw [if_pos c10] at H
    have c10b0 : (t259 == 0) = true := beq_iff_eq.mpr c10
    have c10b1 : (t259 != 0) = false := bne_eq_false_iff_eq.mpr c10
    clear c10
    by_cases c11 : t254 = 65
    ·
     rw [if_pos c11] at H
     have c11b0 : (t254 == 65) = true := beq_iff_eq.mpr c11
     have c11b1 : (t254 != 65) = false := bne_eq_false_iff_eq.mpr c11
     clear c11
     by_cases c12 : (t256.length : Int) = 2
     ·
      rw [if_pos c12] at H
      have c12b0 : ((t256.length : Int) == 2) = true := beq_iff_eq.mpr c12
      have c12b1 : ((t256.length : Int) != 2) = false := bne_eq_false_iff_eq.mpr c12
      clear c12
      by_cases c13 : 0 < (t256.length : Int)
      ·
       rw [if_pos c13] at H
       have c13b0 : decide (0 < (t256.length : Int)) = true := decide_eq_true c13
       have c13b1 : decide (0 < t256.length) = true := decide_eq_true (by omega)
       clear c13
       obtain rfl := Option.some.inj H
       go_enter Tryd.func13, Tryd.ntmps13
       go_wp2_with (first | ((with_reducible refine gate_callee (f := 38) rfl ?_); refine goesL_ (some 8) rfl rfl Tryd.func38 (by kernel_rfl) rfl #[.int .i64 2, .int .i64 1] rfl gl ?_; (with_reducible refine (stowagelaw14_one.calls k 2 1 t227 t228 t229 t230 _ A1.out).mono ?_); rintro e w14 ⟨v231, rfl, ho0, hb⟩; refine ⟨_, rfl, ?_⟩; have HO232 := Aside0.mk (Kd.R_lower ho0 (below_size (bw HB.out))); replace HB := Aside0.mk (below_step (bw HB.out) hb); (try clear hb); (try clear hb2); (try clear hk); (try clear hi); (try clear ho0); obtain ⟨Ao15, co15, eo15⟩ := Kd.R_slice HO232.out; subst eo15) | ((with_reducible refine gate_callee (f := 16) rfl ?_); refine goesL_ (some 9) rfl rfl Tryd.func16 (by kernel_rfl) rfl #[.slice none 0 0, .agg #[.int .i64 t227, .int .i64 t228, .string t229, .slice Ao15 t230.length co15]] rfl gl ?_; (refine (parts_Put.calls k _ _ ([] : List (S46)) t227 t228 t229 _ _ t230 t233 t236 _ ?side1 ?side2 ?side3 ?side4 A2.out).mono ?_); (case side1 => exact Kd.C_nil _ _); (case side2 => exact Nat.le_refl _); (case side3 => repeat (first | exact (Kd.R_reads' HO232.out).2.2 | (with_reducible refine Kd.C_alloc ?_ _) | (with_reducible refine Kd.C_drewN ?_ _) | (with_reducible refine Kd.C_drew ?_))); (case side4 => exact (Kd.R_reads' HO232.out).2.1); rintro e w16 ⟨v234, rfl, ho0, hb⟩; refine ⟨_, rfl, ?_⟩; have n0_ := Aside0.mk (Kd.R_below (kR HO232.out) hb); have n1_ := Aside0.mk (Kd.V_lower (Kd.V_mono (ok' := fun k_ => some k_ ≠ (.slice Ao15 t230.length co15 : Value).ownBlock) ho0 (fun k_ hk_ => (Kd.fresh' (Kd.R_lt (kR HO232.out)) k_ hk_))) (below_size (bw HB.out))); have n2_ := Aside0.mk (below_step (bw HB.out) hb); clear HO232; clear HB; have HO232 := n0_; have HO235 := n1_; have HB := n2_; clear n0_ n1_ n2_; (try clear hb); (try clear hb2); (try clear hk); (try clear hi); (try clear ho0)) | ((with_reducible refine gate_callee (f := 38) rfl ?_); refine goesL_ (some 14) rfl rfl Tryd.func38 (by kernel_rfl) rfl #[.int .i64 1, .int .i64 64] rfl gl ?_; (with_reducible refine (stowagelaw14_one.calls k 1 64 t237 t238 t239 t240 _ A3.out).mono ?_); rintro e w17 ⟨v241, rfl, ho0, hb⟩; refine ⟨_, rfl, ?_⟩; have n0_ := Aside0.mk (Kd.R_elder' (kR HO232.out) (Kd.R_base ho0) hb); have n1_ := Aside0.mk (Kd.V_elder' (kV HO235.out) (Kd.R_base ho0) hb); have n2_ := Aside0.mk (Kd.R_lower (Kd.R_new' ho0 (Kd.R_lt (kR HO232.out))) (below_size (bw HB.out))); have n3_ := Aside0.mk (below_step (bw HB.out) hb); clear HO232; clear HO235; clear HB; have HO232 := n0_; have HO235 := n1_; have HO242 := n2_; have HB := n3_; clear n0_ n1_ n2_ n3_; (try clear hb); (try clear hb2); (try clear hk); (try clear hi); (try clear ho0); obtain ⟨Ao18, co18, eo18⟩ := Kd.V_slice HO235.out; subst eo18; obtain ⟨Ao19, co19, eo19⟩ := Kd.R_slice HO242.out; subst eo19) | ((with_reducible refine gate_callee (f := 16) rfl ?_); refine goesL_ (some 15) rfl rfl Tryd.func16 (by kernel_rfl) rfl #[.slice Ao18 t233.length co18, .agg #[.int .i64 t237, .int .i64 t238, .string t239, .slice Ao19 t240.length co19]] rfl gl ?_; (with_reducible refine (parts_Put.calls k _ _ t233 t237 t238 t239 _ _ t240 t243 t246 _ ?side1 ?side2 ?side3 ?side4 A4.out).mono ?_); (case side1 => repeat (first | exact (Kd.V_reads' HO235.out).2.2 | (with_reducible refine Kd.C_alloc ?_ _) | (with_reducible refine Kd.C_drewN ?_ _) | (with_reducible refine Kd.C_drew ?_))); (case side2 => exact (Kd.V_reads' HO235.out).2.1); (case side3 => repeat (first | exact (Kd.R_reads' HO242.out).2.2 | (with_reducible refine Kd.C_alloc ?_ _) | (with_reducible refine Kd.C_drewN ?_ _) | (with_reducible refine Kd.C_drew ?_))); (case side4 => exact (Kd.R_reads' HO242.out).2.1); rintro e w20 ⟨v244, rfl, ho0, hb⟩; refine ⟨_, rfl, ?_⟩; have n0_ := Aside0.mk (Kd.R_below (kR HO232.out) hb); have n1_ := Aside0.mk (Kd.V_below (kV HO235.out) hb); have n2_ := Aside0.mk (Kd.R_below (kR HO242.out) hb); have n3_ := Aside0.mk (Kd.V_lower (Kd.V_mono (ok' := fun k_ => some k_ ≠ (.slice Ao15 t230.length co15 : Value).ownBlock ∧ some k_ ≠ (.slice Ao19 t240.length co19 : Value).ownBlock) ho0 (fun k_ hk_ => ⟨(Kd.fresh' (Kd.R_lt (kR HO232.out)) k_ hk_), (Kd.fresh' (Kd.R_lt (kR HO242.out)) k_ hk_)⟩)) (below_size (bw HB.out))); have n4_ := Aside0.mk (below_step (bw HB.out) hb); clear HO232; clear HO235; clear HO242; clear HB; have HO232 := n0_; have HO235 := n1_; have HO242 := n2_; have HO245 := n3_; have HB := n4_; clear n0_ n1_ n2_ n3_ n4_; (try clear hb); (try clear hb2); (try clear hk); (try clear hi); (try clear ho0)) | ((with_reducible refine gate_callee (f := 39) rfl ?_); refine goesL_ (some 20) rfl rfl Tryd.func39 (by kernel_rfl) rfl #[] rfl gl ?_; (with_reducible refine (stowagelaw14_zeros.calls k  t247 _ A5.out).mono ?_); rintro e w21 ⟨rfl, hb⟩; refine ⟨_, rfl, ?_⟩; replace HO232 := Aside0.mk (Kd.R_below (kR HO232.out) hb); replace HO235 := Aside0.mk (Kd.V_below (kV HO235.out) hb); replace HO242 := Aside0.mk (Kd.R_below (kR HO242.out) hb); replace HO245 := Aside0.mk (Kd.V_below (kV HO245.out) hb); replace HB := Aside0.mk (below_step (bw HB.out) hb); (try clear hb); (try clear hb2); (try clear hk); (try clear hi)) | ((with_reducible refine gate_callee (f := 39) rfl ?_); refine goesL_ (some 22) rfl rfl Tryd.func39 (by kernel_rfl) rfl #[] rfl gl ?_; (with_reducible refine (stowagelaw14_zeros.calls k  t248 _ A6.out).mono ?_); rintro e w22 ⟨rfl, hb⟩; refine ⟨_, rfl, ?_⟩; replace HO232 := Aside0.mk (Kd.R_below (kR HO232.out) hb); replace HO235 := Aside0.mk (Kd.V_below (kV HO235.out) hb); replace HO242 := Aside0.mk (Kd.R_below (kR HO242.out) hb); replace HO245 := Aside0.mk (Kd.V_below (kV HO245.out) hb); replace HB := Aside0.mk (below_step (bw HB.out) hb); (try clear hb); (try clear hb2); (try clear hk); (try clear hi)) | ((with_reducible refine gate_dst (N := 24) rfl ?_); (try (refine gate_guard (by rfl) ?_; dsimp only)); refine Kd.R_lit k61 _ 61 ?hg (N := 24) ?hd (xs := ([(⟨1, t247⟩ : S61), (⟨2, t248⟩ : S61)] : List (S61))) (inner := [.int .i64 1, .string t247, .int .i64 2, .string t248]) (ok := fun _ => True) (okp := fun _ => True) ?hr ?hp (fun _ hk => hk) trivial (Below.refl _ _) (Nat.le_refl _) (by simp) ?_; (case hd => rfl); (case hg => rfl); (case hr => first | (go_simp; done) | (go_simp; rfl)); (case hp => exact (Reps.c2 (show Kd.M k61 _ _ _ (⟨1, t247⟩ : S61) [.int .i64 1, .string t247] from (k61_mkM _ _ _ (⟨1, t247⟩ : S61) )) (Reps.c2 (show Kd.M k61 _ _ _ (⟨2, t248⟩ : S61) [.int .i64 2, .string t248] from (k61_mkM _ _ _ (⟨2, t248⟩ : S61) )) (Reps.none _ _)))); intro v250 w23 ho24 hb hg_ hnew_; clear hg_ hnew_; (first | rw [← Ny249.out] at ho24 | (simp only [Int.reduceToNat] at ho24; rw [← Ny249.out] at ho24)); replace HO232 := Aside0.mk (Kd.R_below (kR HO232.out) hb); replace HO235 := Aside0.mk (Kd.V_elder' (kV HO235.out) (Kd.R_base ho24) hb); replace HO242 := Aside0.mk (Kd.R_below (kR HO242.out) hb); replace HO245 := Aside0.mk (Kd.V_elder' (kV HO245.out) (Kd.R_base ho24) hb); have HO251 := Aside0.mk (Kd.R_lower ho24 (below_size (bw HB.out))); replace HB := Aside0.mk (below_step (bw HB.out) hb); clear hb ho24; obtain ⟨Ao25, co25, eo25⟩ := Kd.V_slice HO245.out; subst eo25; obtain ⟨Ao26, co26, eo26⟩ := Kd.R_slice HO251.out; subst eo26) | ((with_reducible refine gate_callee (f := 9) rfl ?_); refine goesL_ (some 25) rfl rfl Tryd.func9 (by kernel_rfl) rfl #[.slice Ao25 t243.length co25, .slice Ao26 y249.length co26] rfl gl ?_; (with_reducible refine (parts_Join.calls k _ _ t243 _ _ y249 t252 t253 t254 t255 t256 t259 _ ?side1 ?side2 ?side3 ?side4 A7.out ?sideG).mono ?_); (case sideG => first | exact HG.out | exact gg_below HG.out (bws HB.out)); (case side1 => repeat (first | exact (Kd.V_reads' HO245.out).2.2 | (with_reducible refine Kd.C_alloc ?_ _) | (with_reducible refine Kd.C_drewN ?_ _) | (with_reducible refine Kd.C_drew ?_))); (case side2 => exact (Kd.V_reads' HO245.out).2.1); (case side3 => repeat (first | exact (Kd.R_reads' HO251.out).2.2 | (with_reducible refine Kd.C_alloc ?_ _) | (with_reducible refine Kd.C_drewN ?_ _) | (with_reducible refine Kd.C_drew ?_))); (case side4 => exact (Kd.R_reads' HO251.out).2.1); rintro e w27 ⟨v257, rfl, ho0, hb⟩; refine ⟨_, rfl, ?_⟩; have n0_ := Aside0.mk (Kd.R_elder' (kR HO232.out) (Kd.R_base ho0) hb); have n1_ := Aside0.mk (Kd.V_elder' (kV HO235.out) (Kd.R_base ho0) hb); have n2_ := Aside0.mk (Kd.R_elder' (kR HO242.out) (Kd.R_base ho0) hb); have n3_ := Aside0.mk (Kd.V_elder' (kV HO245.out) (Kd.R_base ho0) hb); have n4_ := Aside0.mk (Kd.R_below (kR HO251.out) hb); have n5_ := Aside0.mk (Kd.R_lower (Kd.R_new' (Kd.R_new' ho0 (Kd.R_lt (kR HO232.out))) (Kd.R_lt (kR HO242.out))) (below_size (bw HB.out))); have n6_ := Aside0.mk (below_step (bw HB.out) hb); clear HO232; clear HO235; clear HO242; clear HO245; clear HO251; clear HB; have HO232 := n0_; have HO235 := n1_; have HO242 := n2_; have HO245 := n3_; have HO251 := n4_; have HO258 := n5_; have HB := n6_; clear n0_ n1_ n2_ n3_ n4_ n5_ n6_; (try clear hb); (try clear hb2); (try clear hk); (try clear hi); (try clear ho0)) | ((with_reducible refine gate_dst (N := 5) rfl ?_); (try (refine gate_guard (by rfl) ?_; dsimp only)); refine box_event ?hg (N := 5) ?hd (cs := #[.int .i64 0, .bool false, .int .i64 0, .string (⟨#[]⟩ : ByteArray), .slice none 0 0]) (t := 26) ?hr ?_; (case hd => rfl); (case hg => rfl); (case hr => first | (go_simp; done) | (go_simp; rfl)); intro gb260 hg w28 hbox hb; have n0_ := Aside0.mk (Kd.R_below (kR HO232.out) hb); have n1_ := Aside0.mk (Kd.V_below (Kd.V_elderB (kV HO235.out) gb260 (Nat.le_of_eq hg.symm)) hb); have n2_ := Aside0.mk (Kd.R_below (kR HO242.out) hb); have n3_ := Aside0.mk (Kd.V_below (Kd.V_elderB (kV HO245.out) gb260 (Nat.le_of_eq hg.symm)) hb); have n4_ := Aside0.mk (Kd.R_below (kR HO251.out) hb); have n5_ := Aside0.mk (Kd.R_below (kR HO258.out) hb); have n6_ := Aside0.mk (below_step (bw HB.out) hb); have n7_ := Aside0.mk (hbox); have n8_ := Aside0.mk ((by rw [hg]; exact (below_size (bw HB.out)) : w.heap.size ≤ gb260)); have n9_ := Aside0.mk ((by rw [hg]; exact (below_size (bw HB.out)) : w.heap.size ≤ gb260)); clear HO232; clear HO235; clear HO242; clear HO245; clear HO251; clear HO258; clear HB; have HO232 := n0_; have HO235 := n1_; have HO242 := n2_; have HO245 := n3_; have HO251 := n4_; have HO258 := n5_; have HB := n6_; have BK260 := n7_; have GW260 := n8_; have GE260 := n9_; clear n0_ n1_ n2_ n3_ n4_ n5_ n6_ n7_ n8_ n9_; clear hb hbox hg; obtain ⟨hcz29_0, hcz29_1, hcz29_2, hcz29_3, hcz29_4, hfz29_0, hfz29_1, hfz29_2, hfz29_3, hfz29_4⟩ := cz5 BK260.out; obtain ⟨Ao30, co30, eo30⟩ := Kd.R_slice HO258.out; subst eo30; have p261 : 0 ≤ (0 : Int) := (by omega); have q261 : 0 < (t256.length : Int) := of_decide_eq_true asm; obtain ⟨ad261, e261, hx261_0, hx261_1⟩ := at_T63 (Kd.R_reads' HO258.out).2.2 0 p261 q261; cases e261; have qi261 : (0 < t256.length) = True := eq_true (by omega); (try rw [show ((0 : Int)).toNat = 0 from rfl] at hx261_0); (try rw [show 0 * 2 = 0 from rfl] at hx261_0); (try rw [Addr.add_zero'] at hx261_0); (try rw [show ((0 : Int)).toNat = 0 from rfl] at hx261_1); (try rw [show 0 * 2 = 0 from rfl] at hx261_1); (try rw [Addr.add_zero'] at hx261_1); have hn261_0 : ad261.block ≠ gb260 := Kd.own_blk (Kd.R_ne HO258.out BK260.out (by decide)); have hn261_1 : ad261.block ≠ gb260 := Kd.own_blk (Kd.R_ne HO258.out BK260.out (by decide)); have hn261_2 : ad261.block ≠ gb260 := Kd.own_blk (Kd.R_ne HO258.out BK260.out (by decide)); have hn261_3 : ad261.block ≠ gb260 := Kd.own_blk (Kd.R_ne HO258.out BK260.out (by decide)); have hn261_4 : ad261.block ≠ gb260 := Kd.own_blk (Kd.R_ne HO258.out BK260.out (by decide)); replace hx261_0 := (cell_far (p := ⟨gb260, 0, none⟩) (by first | (rw [add_block]; exact hn261_0) | (show (Addr.add _ _).block ≠ _; rw [add_block]; exact hn261_0) | exact hn261_0) (.int .i64 t252)).trans hx261_0; replace hx261_1 := (cell_far (p := ⟨gb260, 0, none⟩) (by first | (rw [add_block]; exact hn261_0) | (show (Addr.add _ _).block ≠ _; rw [add_block]; exact hn261_0) | exact hn261_0) (.int .i64 t252)).trans hx261_1; replace hx261_0 := (cell_far (p := ⟨gb260, 1, none⟩) (by first | (rw [add_block]; exact hn261_1) | (show (Addr.add _ _).block ≠ _; rw [add_block]; exact hn261_1) | exact hn261_1) (.bool t253)).trans hx261_0; replace hx261_1 := (cell_far (p := ⟨gb260, 1, none⟩) (by first | (rw [add_block]; exact hn261_1) | (show (Addr.add _ _).block ≠ _; rw [add_block]; exact hn261_1) | exact hn261_1) (.bool t253)).trans hx261_1; replace hx261_0 := (cell_far (p := ⟨gb260, 2, none⟩) (by first | (rw [add_block]; exact hn261_2) | (show (Addr.add _ _).block ≠ _; rw [add_block]; exact hn261_2) | exact hn261_2) (.int .i64 t254)).trans hx261_0; replace hx261_1 := (cell_far (p := ⟨gb260, 2, none⟩) (by first | (rw [add_block]; exact hn261_2) | (show (Addr.add _ _).block ≠ _; rw [add_block]; exact hn261_2) | exact hn261_2) (.int .i64 t254)).trans hx261_1; replace hx261_0 := (cell_far (p := ⟨gb260, 3, none⟩) (by first | (rw [add_block]; exact hn261_3) | (show (Addr.add _ _).block ≠ _; rw [add_block]; exact hn261_3) | exact hn261_3) (.string t255)).trans hx261_0; replace hx261_1 := (cell_far (p := ⟨gb260, 3, none⟩) (by first | (rw [add_block]; exact hn261_3) | (show (Addr.add _ _).block ≠ _; rw [add_block]; exact hn261_3) | exact hn261_3) (.string t255)).trans hx261_1; replace hx261_0 := (cell_far (p := ⟨gb260, 4, none⟩) (by first | (rw [add_block]; exact hn261_4) | (show (Addr.add _ _).block ≠ _; rw [add_block]; exact hn261_4) | exact hn261_4) (.slice (some ad261) t256.length co30)).trans hx261_0; replace hx261_1 := (cell_far (p := ⟨gb260, 4, none⟩) (by first | (rw [add_block]; exact hn261_4) | (show (Addr.add _ _).block ≠ _; rw [add_block]; exact hn261_4) | exact hn261_4) (.slice (some ad261) t256.length co30)).trans hx261_1; clear hn261_0; clear hn261_1; clear hn261_2; clear hn261_3; clear hn261_4; replace p261 := eq_true p261; replace q261 := eq_true q261))
       go_ret
       exact ⟨by first | rfl | (simp [errW_none, errW_some] <;> rfl) | (simp [*, errW_none, errW_some] <;> rfl), by repeat (first | (with_reducible first | exact HB.out | apply below_alloc | apply pw_below_drewN | apply below_drew1 | refine below_set ?_ GE260.out) | exact HB.out)⟩
      ·
       rw [if_neg c13] at H
       exact absurd H (by simp)
     ·
      rw [if_neg c12] at H
      have c12b0 : ((t256.length : Int) == 2) = false := beq_eq_false_iff_ne.mpr c12
      have c12b1 : ((t256.length : Int) != 2) = true := bne_iff_ne.mpr c12
      obtain rfl := Option.some.inj H
      go_enter Tryd.func13, Tryd.ntmps13
      go_wp2_with (first | ((with_reducible refine gate_callee (f := 38) rfl ?_); refine goesL_ (some 8) rfl rfl Tryd.func38 (by kernel_rfl) rfl #[.int .i64 2, .int .i64 1] rfl gl ?_; (with_reducible refine (stowagelaw14_one.calls k 2 1 t227 t228 t229 t230 _ A1.out).mono ?_); rintro e w31 ⟨v231, rfl, ho0, hb⟩; refine ⟨_, rfl, ?_⟩; have HO232 := Aside0.mk (Kd.R_lower ho0 (below_size (bw HB.out))); replace HB := Aside0.mk (below_step (bw HB.out) hb); (try clear hb); (try clear hb2); (try clear hk); (try clear hi); (try clear ho0); obtain ⟨Ao32, co32, eo32⟩ := Kd.R_slice HO232.out; subst eo32) | ((with_reducible refine gate_callee (f := 16) rfl ?_); refine goesL_ (some 9) rfl rfl Tryd.func16 (by kernel_rfl) rfl #[.slice none 0 0, .agg #[.int .i64 t227, .int .i64 t228, .string t229, .slice Ao32 t230.length co32]] rfl gl ?_; (refine (parts_Put.calls k _ _ ([] : List (S46)) t227 t228 t229 _ _ t230 t233 t236 _ ?side1 ?side2 ?side3 ?side4 A2.out).mono ?_); (case side1 => exact Kd.C_nil _ _); (case side2 => exact Nat.le_refl _); (case side3 => repeat (first | exact (Kd.R_reads' HO232.out).2.2 | (with_reducible refine Kd.C_alloc ?_ _) | (with_reducible refine Kd.C_drewN ?_ _) | (with_reducible refine Kd.C_drew ?_))); (case side4 => exact (Kd.R_reads' HO232.out).2.1); rintro e w33 ⟨v234, rfl, ho0, hb⟩; refine ⟨_, rfl, ?_⟩; have n0_ := Aside0.mk (Kd.R_below (kR HO232.out) hb); have n1_ := Aside0.mk (Kd.V_lower (Kd.V_mono (ok' := fun k_ => some k_ ≠ (.slice Ao32 t230.length co32 : Value).ownBlock) ho0 (fun k_ hk_ => (Kd.fresh' (Kd.R_lt (kR HO232.out)) k_ hk_))) (below_size (bw HB.out))); have n2_ := Aside0.mk (below_step (bw HB.out) hb); clear HO232; clear HB; have HO232 := n0_; have HO235 := n1_; have HB := n2_; clear n0_ n1_ n2_; (try clear hb); (try clear hb2); (try clear hk); (try clear hi); (try clear ho0)) | ((with_reducible refine gate_callee (f := 38) rfl ?_); refine goesL_ (some 14) rfl rfl Tryd.func38 (by kernel_rfl) rfl #[.int .i64 1, .int .i64 64] rfl gl ?_; (with_reducible refine (stowagelaw14_one.calls k 1 64 t237 t238 t239 t240 _ A3.out).mono ?_); rintro e w34 ⟨v241, rfl, ho0, hb⟩; refine ⟨_, rfl, ?_⟩; have n0_ := Aside0.mk (Kd.R_elder' (kR HO232.out) (Kd.R_base ho0) hb); have n1_ := Aside0.mk (Kd.V_elder' (kV HO235.out) (Kd.R_base ho0) hb); have n2_ := Aside0.mk (Kd.R_lower (Kd.R_new' ho0 (Kd.R_lt (kR HO232.out))) (below_size (bw HB.out))); have n3_ := Aside0.mk (below_step (bw HB.out) hb); clear HO232; clear HO235; clear HB; have HO232 := n0_; have HO235 := n1_; have HO242 := n2_; have HB := n3_; clear n0_ n1_ n2_ n3_; (try clear hb); (try clear hb2); (try clear hk); (try clear hi); (try clear ho0); obtain ⟨Ao35, co35, eo35⟩ := Kd.V_slice HO235.out; subst eo35; obtain ⟨Ao36, co36, eo36⟩ := Kd.R_slice HO242.out; subst eo36) | ((with_reducible refine gate_callee (f := 16) rfl ?_); refine goesL_ (some 15) rfl rfl Tryd.func16 (by kernel_rfl) rfl #[.slice Ao35 t233.length co35, .agg #[.int .i64 t237, .int .i64 t238, .string t239, .slice Ao36 t240.length co36]] rfl gl ?_; (with_reducible refine (parts_Put.calls k _ _ t233 t237 t238 t239 _ _ t240 t243 t246 _ ?side1 ?side2 ?side3 ?side4 A4.out).mono ?_); (case side1 => repeat (first | exact (Kd.V_reads' HO235.out).2.2 | (with_reducible refine Kd.C_alloc ?_ _) | (with_reducible refine Kd.C_drewN ?_ _) | (with_reducible refine Kd.C_drew ?_))); (case side2 => exact (Kd.V_reads' HO235.out).2.1); (case side3 => repeat (first | exact (Kd.R_reads' HO242.out).2.2 | (with_reducible refine Kd.C_alloc ?_ _) | (with_reducible refine Kd.C_drewN ?_ _) | (with_reducible refine Kd.C_drew ?_))); (case side4 => exact (Kd.R_reads' HO242.out).2.1); rintro e w37 ⟨v244, rfl, ho0, hb⟩; refine ⟨_, rfl, ?_⟩; have n0_ := Aside0.mk (Kd.R_below (kR HO232.out) hb); have n1_ := Aside0.mk (Kd.V_below (kV HO235.out) hb); have n2_ := Aside0.mk (Kd.R_below (kR HO242.out) hb); have n3_ := Aside0.mk (Kd.V_lower (Kd.V_mono (ok' := fun k_ => some k_ ≠ (.slice Ao32 t230.length co32 : Value).ownBlock ∧ some k_ ≠ (.slice Ao36 t240.length co36 : Value).ownBlock) ho0 (fun k_ hk_ => ⟨(Kd.fresh' (Kd.R_lt (kR HO232.out)) k_ hk_), (Kd.fresh' (Kd.R_lt (kR HO242.out)) k_ hk_)⟩)) (below_size (bw HB.out))); have n4_ := Aside0.mk (below_step (bw HB.out) hb); clear HO232; clear HO235; clear HO242; clear HB; have HO232 := n0_; have HO235 := n1_; have HO242 := n2_; have HO245 := n3_; have HB := n4_; clear n0_ n1_ n2_ n3_ n4_; (try clear hb); (try clear hb2); (try clear hk); (try clear hi); (try clear ho0)) | ((with_reducible refine gate_callee (f := 39) rfl ?_); refine goesL_ (some 20) rfl rfl Tryd.func39 (by kernel_rfl) rfl #[] rfl gl ?_; (with_reducible refine (stowagelaw14_zeros.calls k  t247 _ A5.out).mono ?_); rintro e w38 ⟨rfl, hb⟩; refine ⟨_, rfl, ?_⟩; replace HO232 := Aside0.mk (Kd.R_below (kR HO232.out) hb); replace HO235 := Aside0.mk (Kd.V_below (kV HO235.out) hb); replace HO242 := Aside0.mk (Kd.R_below (kR HO242.out) hb); replace HO245 := Aside0.mk (Kd.V_below (kV HO245.out) hb); replace HB := Aside0.mk (below_step (bw HB.out) hb); (try clear hb); (try clear hb2); (try clear hk); (try clear hi)) | ((with_reducible refine gate_callee (f := 39) rfl ?_); refine goesL_ (some 22) rfl rfl Tryd.func39 (by kernel_rfl) rfl #[] rfl gl ?_; (with_reducible refine (stowagelaw14_zeros.calls k  t248 _ A6.out).mono ?_); rintro e w39 ⟨rfl, hb⟩; refine ⟨_, rfl, ?_⟩; replace HO232 := Aside0.mk (Kd.R_below (kR HO232.out) hb); replace HO235 := Aside0.mk (Kd.V_below (kV HO235.out) hb); replace HO242 := Aside0.mk (Kd.R_below (kR HO242.out) hb); replace HO245 := Aside0.mk (Kd.V_below (kV HO245.out) hb); replace HB := Aside0.mk (below_step (bw HB.out) hb); (try clear hb); (try clear hb2); (try clear hk); (try clear hi)) | ((with_reducible refine gate_dst (N := 24) rfl ?_); (try (refine gate_guard (by rfl) ?_; dsimp only)); refine Kd.R_lit k61 _ 61 ?hg (N := 24) ?hd (xs := ([(⟨1, t247⟩ : S61), (⟨2, t248⟩ : S61)] : List (S61))) (inner := [.int .i64 1, .string t247, .int .i64 2, .string t248]) (ok := fun _ => True) (okp := fun _ => True) ?hr ?hp (fun _ hk => hk) trivial (Below.refl _ _) (Nat.le_refl _) (by simp) ?_; (case hd => rfl); (case hg => rfl); (case hr => first | (go_simp; done) | (go_simp; rfl)); (case hp => exact (Reps.c2 (show Kd.M k61 _ _ _ (⟨1, t247⟩ : S61) [.int .i64 1, .string t247] from (k61_mkM _ _ _ (⟨1, t247⟩ : S61) )) (Reps.c2 (show Kd.M k61 _ _ _ (⟨2, t248⟩ : S61) [.int .i64 2, .string t248] from (k61_mkM _ _ _ (⟨2, t248⟩ : S61) )) (Reps.none _ _)))); intro v250 w40 ho41 hb hg_ hnew_; clear hg_ hnew_; (first | rw [← Ny249.out] at ho41 | (simp only [Int.reduceToNat] at ho41; rw [← Ny249.out] at ho41)); replace HO232 := Aside0.mk (Kd.R_below (kR HO232.out) hb); replace HO235 := Aside0.mk (Kd.V_elder' (kV HO235.out) (Kd.R_base ho41) hb); replace HO242 := Aside0.mk (Kd.R_below (kR HO242.out) hb); replace HO245 := Aside0.mk (Kd.V_elder' (kV HO245.out) (Kd.R_base ho41) hb); have HO251 := Aside0.mk (Kd.R_lower ho41 (below_size (bw HB.out))); replace HB := Aside0.mk (below_step (bw HB.out) hb); clear hb ho41; obtain ⟨Ao42, co42, eo42⟩ := Kd.V_slice HO245.out; subst eo42; obtain ⟨Ao43, co43, eo43⟩ := Kd.R_slice HO251.out; subst eo43) | ((with_reducible refine gate_callee (f := 9) rfl ?_); refine goesL_ (some 25) rfl rfl Tryd.func9 (by kernel_rfl) rfl #[.slice Ao42 t243.length co42, .slice Ao43 y249.length co43] rfl gl ?_; (with_reducible refine (parts_Join.calls k _ _ t243 _ _ y249 t252 t253 t254 t255 t256 t259 _ ?side1 ?side2 ?side3 ?side4 A7.out ?sideG).mono ?_); (case sideG => first | exact HG.out | exact gg_below HG.out (bws HB.out)); (case side1 => repeat (first | exact (Kd.V_reads' HO245.out).2.2 | (with_reducible refine Kd.C_alloc ?_ _) | (with_reducible refine Kd.C_drewN ?_ _) | (with_reducible refine Kd.C_drew ?_))); (case side2 => exact (Kd.V_reads' HO245.out).2.1); (case side3 => repeat (first | exact (Kd.R_reads' HO251.out).2.2 | (with_reducible refine Kd.C_alloc ?_ _) | (with_reducible refine Kd.C_drewN ?_ _) | (with_reducible refine Kd.C_drew ?_))); (case side4 => exact (Kd.R_reads' HO251.out).2.1); rintro e w44 ⟨v257, rfl, ho0, hb⟩; refine ⟨_, rfl, ?_⟩; have n0_ := Aside0.mk (Kd.R_elder' (kR HO232.out) (Kd.R_base ho0) hb); have n1_ := Aside0.mk (Kd.V_elder' (kV HO235.out) (Kd.R_base ho0) hb); have n2_ := Aside0.mk (Kd.R_elder' (kR HO242.out) (Kd.R_base ho0) hb); have n3_ := Aside0.mk (Kd.V_elder' (kV HO245.out) (Kd.R_base ho0) hb); have n4_ := Aside0.mk (Kd.R_below (kR HO251.out) hb); have n5_ := Aside0.mk (Kd.R_lower (Kd.R_new' (Kd.R_new' ho0 (Kd.R_lt (kR HO232.out))) (Kd.R_lt (kR HO242.out))) (below_size (bw HB.out))); have n6_ := Aside0.mk (below_step (bw HB.out) hb); clear HO232; clear HO235; clear HO242; clear HO245; clear HO251; clear HB; have HO232 := n0_; have HO235 := n1_; have HO242 := n2_; have HO245 := n3_; have HO251 := n4_; have HO258 := n5_; have HB := n6_; clear n0_ n1_ n2_ n3_ n4_ n5_ n6_; (try clear hb); (try clear hb2); (try clear hk); (try clear hi); (try clear ho0)) | ((with_reducible refine gate_dst (N := 5) rfl ?_); (try (refine gate_guard (by rfl) ?_; dsimp only)); refine box_event ?hg (N := 5) ?hd (cs := #[.int .i64 0, .bool false, .int .i64 0, .string (⟨#[]⟩ : ByteArray), .slice none 0 0]) (t := 26) ?hr ?_; (case hd => rfl); (case hg => rfl); (case hr => first | (go_simp; done) | (go_simp; rfl)); intro gb260 hg w45 hbox hb; have n0_ := Aside0.mk (Kd.R_below (kR HO232.out) hb); have n1_ := Aside0.mk (Kd.V_below (Kd.V_elderB (kV HO235.out) gb260 (Nat.le_of_eq hg.symm)) hb); have n2_ := Aside0.mk (Kd.R_below (kR HO242.out) hb); have n3_ := Aside0.mk (Kd.V_below (Kd.V_elderB (kV HO245.out) gb260 (Nat.le_of_eq hg.symm)) hb); have n4_ := Aside0.mk (Kd.R_below (kR HO251.out) hb); have n5_ := Aside0.mk (Kd.R_below (kR HO258.out) hb); have n6_ := Aside0.mk (below_step (bw HB.out) hb); have n7_ := Aside0.mk (hbox); have n8_ := Aside0.mk ((by rw [hg]; exact (below_size (bw HB.out)) : w.heap.size ≤ gb260)); have n9_ := Aside0.mk ((by rw [hg]; exact (below_size (bw HB.out)) : w.heap.size ≤ gb260)); clear HO232; clear HO235; clear HO242; clear HO245; clear HO251; clear HO258; clear HB; have HO232 := n0_; have HO235 := n1_; have HO242 := n2_; have HO245 := n3_; have HO251 := n4_; have HO258 := n5_; have HB := n6_; have BK260 := n7_; have GW260 := n8_; have GE260 := n9_; clear n0_ n1_ n2_ n3_ n4_ n5_ n6_ n7_ n8_ n9_; clear hb hbox hg; obtain ⟨hcz46_0, hcz46_1, hcz46_2, hcz46_3, hcz46_4, hfz46_0, hfz46_1, hfz46_2, hfz46_3, hfz46_4⟩ := cz5 BK260.out; obtain ⟨Ao47, co47, eo47⟩ := Kd.R_slice HO258.out; subst eo47))
      go_ret
      exact ⟨by first | rfl | (simp [errW_none, errW_some] <;> rfl) | (simp [*, errW_none, errW_some] <;> rfl), by repeat (first | (with_reducible first | exact HB.out | apply below_alloc | apply pw_below_drewN | apply below_drew1 | refine below_set ?_ GE260.out) | exact HB.out)⟩
    ·
     rw [if_neg c11] at H
     have c11b0 : (t254 == 65) = false := beq_eq_false_iff_ne.mpr c11
     have c11b1 : (t254 != 65) = true := bne_iff_ne.mpr c11
     obtain rfl := Option.some.inj H
     go_enter Tryd.func13, Tryd.ntmps13
     go_wp2_with (first | ((with_reducible refine gate_callee (f := 38) rfl ?_); refine goesL_ (some 8) rfl rfl Tryd.func38 (by kernel_rfl) rfl #[.int .i64 2, .int .i64 1] rfl gl ?_; (with_reducible refine (stowagelaw14_one.calls k 2 1 t227 t228 t229 t230 _ A1.out).mono ?_); rintro e w48 ⟨v231, rfl, ho0, hb⟩; refine ⟨_, rfl, ?_⟩; have HO232 := Aside0.mk (Kd.R_lower ho0 (below_size (bw HB.out))); replace HB := Aside0.mk (below_step (bw HB.out) hb); (try clear hb); (try clear hb2); (try clear hk); (try clear hi); (try clear ho0); obtain ⟨Ao49, co49, eo49⟩ := Kd.R_slice HO232.out; subst eo49) | ((with_reducible refine gate_callee (f := 16) rfl ?_); refine goesL_ (some 9) rfl rfl Tryd.func16 (by kernel_rfl) rfl #[.slice none 0 0, .agg #[.int .i64 t227, .int .i64 t228, .string t229, .slice Ao49 t230.length co49]] rfl gl ?_; (refine (parts_Put.calls k _ _ ([] : List (S46)) t227 t228 t229 _ _ t230 t233 t236 _ ?side1 ?side2 ?side3 ?side4 A2.out).mono ?_); (case side1 => exact Kd.C_nil _ _); (case side2 => exact Nat.le_refl _); (case side3 => repeat (first | exact (Kd.R_reads' HO232.out).2.2 | (with_reducible refine Kd.C_alloc ?_ _) | (with_reducible refine Kd.C_drewN ?_ _) | (with_reducible refine Kd.C_drew ?_))); (case side4 => exact (Kd.R_reads' HO232.out).2.1); rintro e w50 ⟨v234, rfl, ho0, hb⟩; refine ⟨_, rfl, ?_⟩; have n0_ := Aside0.mk (Kd.R_below (kR HO232.out) hb); have n1_ := Aside0.mk (Kd.V_lower (Kd.V_mono (ok' := fun k_ => some k_ ≠ (.slice Ao49 t230.length co49 : Value).ownBlock) ho0 (fun k_ hk_ => (Kd.fresh' (Kd.R_lt (kR HO232.out)) k_ hk_))) (below_size (bw HB.out))); have n2_ := Aside0.mk (below_step (bw HB.out) hb); clear HO232; clear HB; have HO232 := n0_; have HO235 := n1_; have HB := n2_; clear n0_ n1_ n2_; (try clear hb); (try clear hb2); (try clear hk); (try clear hi); (try clear ho0)) | ((with_reducible refine gate_callee (f := 38) rfl ?_); refine goesL_ (some 14) rfl rfl Tryd.func38 (by kernel_rfl) rfl #[.int .i64 1, .int .i64 64] rfl gl ?_; (with_reducible refine (stowagelaw14_one.calls k 1 64 t237 t238 t239 t240 _ A3.out).mono ?_); rintro e w51 ⟨v241, rfl, ho0, hb⟩; refine ⟨_, rfl, ?_⟩; have n0_ := Aside0.mk (Kd.R_elder' (kR HO232.out) (Kd.R_base ho0) hb); have n1_ := Aside0.mk (Kd.V_elder' (kV HO235.out) (Kd.R_base ho0) hb); have n2_ := Aside0.mk (Kd.R_lower (Kd.R_new' ho0 (Kd.R_lt (kR HO232.out))) (below_size (bw HB.out))); have n3_ := Aside0.mk (below_step (bw HB.out) hb); clear HO232; clear HO235; clear HB; have HO232 := n0_; have HO235 := n1_; have HO242 := n2_; have HB := n3_; clear n0_ n1_ n2_ n3_; (try clear hb); (try clear hb2); (try clear hk); (try clear hi); (try clear ho0); obtain ⟨Ao52, co52, eo52⟩ := Kd.V_slice HO235.out; subst eo52; obtain ⟨Ao53, co53, eo53⟩ := Kd.R_slice HO242.out; subst eo53) | ((with_reducible refine gate_callee (f := 16) rfl ?_); refine goesL_ (some 15) rfl rfl Tryd.func16 (by kernel_rfl) rfl #[.slice Ao52 t233.length co52, .agg #[.int .i64 t237, .int .i64 t238, .string t239, .slice Ao53 t240.length co53]] rfl gl ?_; (with_reducible refine (parts_Put.calls k _ _ t233 t237 t238 t239 _ _ t240 t243 t246 _ ?side1 ?side2 ?side3 ?side4 A4.out).mono ?_); (case side1 => repeat (first | exact (Kd.V_reads' HO235.out).2.2 | (with_reducible refine Kd.C_alloc ?_ _) | (with_reducible refine Kd.C_drewN ?_ _) | (with_reducible refine Kd.C_drew ?_))); (case side2 => exact (Kd.V_reads' HO235.out).2.1); (case side3 => repeat (first | exact (Kd.R_reads' HO242.out).2.2 | (with_reducible refine Kd.C_alloc ?_ _) | (with_reducible refine Kd.C_drewN ?_ _) | (with_reducible refine Kd.C_drew ?_))); (case side4 => exact (Kd.R_reads' HO242.out).2.1); rintro e w54 ⟨v244, rfl, ho0, hb⟩; refine ⟨_, rfl, ?_⟩; have n0_ := Aside0.mk (Kd.R_below (kR HO232.out) hb); have n1_ := Aside0.mk (Kd.V_below (kV HO235.out) hb); have n2_ := Aside0.mk (Kd.R_below (kR HO242.out) hb); have n3_ := Aside0.mk (Kd.V_lower (Kd.V_mono (ok' := fun k_ => some k_ ≠ (.slice Ao49 t230.length co49 : Value).ownBlock ∧ some k_ ≠ (.slice Ao53 t240.length co53 : Value).ownBlock) ho0 (fun k_ hk_ => ⟨(Kd.fresh' (Kd.R_lt (kR HO232.out)) k_ hk_), (Kd.fresh' (Kd.R_lt (kR HO242.out)) k_ hk_)⟩)) (below_size (bw HB.out))); have n4_ := Aside0.mk (below_step (bw HB.out) hb); clear HO232; clear HO235; clear HO242; clear HB; have HO232 := n0_; have HO235 := n1_; have HO242 := n2_; have HO245 := n3_; have HB := n4_; clear n0_ n1_ n2_ n3_ n4_; (try clear hb); (try clear hb2); (try clear hk); (try clear hi); (try clear ho0)) | ((with_reducible refine gate_callee (f := 39) rfl ?_); refine goesL_ (some 20) rfl rfl Tryd.func39 (by kernel_rfl) rfl #[] rfl gl ?_; (with_reducible refine (stowagelaw14_zeros.calls k  t247 _ A5.out).mono ?_); rintro e w55 ⟨rfl, hb⟩; refine ⟨_, rfl, ?_⟩; replace HO232 := Aside0.mk (Kd.R_below (kR HO232.out) hb); replace HO235 := Aside0.mk (Kd.V_below (kV HO235.out) hb); replace HO242 := Aside0.mk (Kd.R_below (kR HO242.out) hb); replace HO245 := Aside0.mk (Kd.V_below (kV HO245.out) hb); replace HB := Aside0.mk (below_step (bw HB.out) hb); (try clear hb); (try clear hb2); (try clear hk); (try clear hi)) | ((with_reducible refine gate_callee (f := 39) rfl ?_); refine goesL_ (some 22) rfl rfl Tryd.func39 (by kernel_rfl) rfl #[] rfl gl ?_; (with_reducible refine (stowagelaw14_zeros.calls k  t248 _ A6.out).mono ?_); rintro e w56 ⟨rfl, hb⟩; refine ⟨_, rfl, ?_⟩; replace HO232 := Aside0.mk (Kd.R_below (kR HO232.out) hb); replace HO235 := Aside0.mk (Kd.V_below (kV HO235.out) hb); replace HO242 := Aside0.mk (Kd.R_below (kR HO242.out) hb); replace HO245 := Aside0.mk (Kd.V_below (kV HO245.out) hb); replace HB := Aside0.mk (below_step (bw HB.out) hb); (try clear hb); (try clear hb2); (try clear hk); (try clear hi)) | ((with_reducible refine gate_dst (N := 24) rfl ?_); (try (refine gate_guard (by rfl) ?_; dsimp only)); refine Kd.R_lit k61 _ 61 ?hg (N := 24) ?hd (xs := ([(⟨1, t247⟩ : S61), (⟨2, t248⟩ : S61)] : List (S61))) (inner := [.int .i64 1, .string t247, .int .i64 2, .string t248]) (ok := fun _ => True) (okp := fun _ => True) ?hr ?hp (fun _ hk => hk) trivial (Below.refl _ _) (Nat.le_refl _) (by simp) ?_; (case hd => rfl); (case hg => rfl); (case hr => first | (go_simp; done) | (go_simp; rfl)); (case hp => exact (Reps.c2 (show Kd.M k61 _ _ _ (⟨1, t247⟩ : S61) [.int .i64 1, .string t247] from (k61_mkM _ _ _ (⟨1, t247⟩ : S61) )) (Reps.c2 (show Kd.M k61 _ _ _ (⟨2, t248⟩ : S61) [.int .i64 2, .string t248] from (k61_mkM _ _ _ (⟨2, t248⟩ : S61) )) (Reps.none _ _)))); intro v250 w57 ho58 hb hg_ hnew_; clear hg_ hnew_; (first | rw [← Ny249.out] at ho58 | (simp only [Int.reduceToNat] at ho58; rw [← Ny249.out] at ho58)); replace HO232 := Aside0.mk (Kd.R_below (kR HO232.out) hb); replace HO235 := Aside0.mk (Kd.V_elder' (kV HO235.out) (Kd.R_base ho58) hb); replace HO242 := Aside0.mk (Kd.R_below (kR HO242.out) hb); replace HO245 := Aside0.mk (Kd.V_elder' (kV HO245.out) (Kd.R_base ho58) hb); have HO251 := Aside0.mk (Kd.R_lower ho58 (below_size (bw HB.out))); replace HB := Aside0.mk (below_step (bw HB.out) hb); clear hb ho58; obtain ⟨Ao59, co59, eo59⟩ := Kd.V_slice HO245.out; subst eo59; obtain ⟨Ao60, co60, eo60⟩ := Kd.R_slice HO251.out; subst eo60) | ((with_reducible refine gate_callee (f := 9) rfl ?_); refine goesL_ (some 25) rfl rfl Tryd.func9 (by kernel_rfl) rfl #[.slice Ao59 t243.length co59, .slice Ao60 y249.length co60] rfl gl ?_; (with_reducible refine (parts_Join.calls k _ _ t243 _ _ y249 t252 t253 t254 t255 t256 t259 _ ?side1 ?side2 ?side3 ?side4 A7.out ?sideG).mono ?_); (case sideG => first | exact HG.out | exact gg_below HG.out (bws HB.out)); (case side1 => repeat (first | exact (Kd.V_reads' HO245.out).2.2 | (with_reducible refine Kd.C_alloc ?_ _) | (with_reducible refine Kd.C_drewN ?_ _) | (with_reducible refine Kd.C_drew ?_))); (case side2 => exact (Kd.V_reads' HO245.out).2.1); (case side3 => repeat (first | exact (Kd.R_reads' HO251.out).2.2 | (with_reducible refine Kd.C_alloc ?_ _) | (with_reducible refine Kd.C_drewN ?_ _) | (with_reducible refine Kd.C_drew ?_))); (case side4 => exact (Kd.R_reads' HO251.out).2.1); rintro e w61 ⟨v257, rfl, ho0, hb⟩; refine ⟨_, rfl, ?_⟩; have n0_ := Aside0.mk (Kd.R_elder' (kR HO232.out) (Kd.R_base ho0) hb); have n1_ := Aside0.mk (Kd.V_elder' (kV HO235.out) (Kd.R_base ho0) hb); have n2_ := Aside0.mk (Kd.R_elder' (kR HO242.out) (Kd.R_base ho0) hb); have n3_ := Aside0.mk (Kd.V_elder' (kV HO245.out) (Kd.R_base ho0) hb); have n4_ := Aside0.mk (Kd.R_below (kR HO251.out) hb); have n5_ := Aside0.mk (Kd.R_lower (Kd.R_new' (Kd.R_new' ho0 (Kd.R_lt (kR HO232.out))) (Kd.R_lt (kR HO242.out))) (below_size (bw HB.out))); have n6_ := Aside0.mk (below_step (bw HB.out) hb); clear HO232; clear HO235; clear HO242; clear HO245; clear HO251; clear HB; have HO232 := n0_; have HO235 := n1_; have HO242 := n2_; have HO245 := n3_; have HO251 := n4_; have HO258 := n5_; have HB := n6_; clear n0_ n1_ n2_ n3_ n4_ n5_ n6_; (try clear hb); (try clear hb2); (try clear hk); (try clear hi); (try clear ho0)) | ((with_reducible refine gate_dst (N := 5) rfl ?_); (try (refine gate_guard (by rfl) ?_; dsimp only)); refine box_event ?hg (N := 5) ?hd (cs := #[.int .i64 0, .bool false, .int .i64 0, .string (⟨#[]⟩ : ByteArray), .slice none 0 0]) (t := 26) ?hr ?_; (case hd => rfl); (case hg => rfl); (case hr => first | (go_simp; done) | (go_simp; rfl)); intro gb260 hg w62 hbox hb; have n0_ := Aside0.mk (Kd.R_below (kR HO232.out) hb); have n1_ := Aside0.mk (Kd.V_below (Kd.V_elderB (kV HO235.out) gb260 (Nat.le_of_eq hg.symm)) hb); have n2_ := Aside0.mk (Kd.R_below (kR HO242.out) hb); have n3_ := Aside0.mk (Kd.V_below (Kd.V_elderB (kV HO245.out) gb260 (Nat.le_of_eq hg.symm)) hb); have n4_ := Aside0.mk (Kd.R_below (kR HO251.out) hb); have n5_ := Aside0.mk (Kd.R_below (kR HO258.out) hb); have n6_ := Aside0.mk (below_step (bw HB.out) hb); have n7_ := Aside0.mk (hbox); have n8_ := Aside0.mk ((by rw [hg]; exact (below_size (bw HB.out)) : w.heap.size ≤ gb260)); have n9_ := Aside0.mk ((by rw [hg]; exact (below_size (bw HB.out)) : w.heap.size ≤ gb260)); clear HO232; clear HO235; clear HO242; clear HO245; clear HO251; clear HO258; clear HB; have HO232 := n0_; have HO235 := n1_; have HO242 := n2_; have HO245 := n3_; have HO251 := n4_; have HO258 := n5_; have HB := n6_; have BK260 := n7_; have GW260 := n8_; have GE260 := n9_; clear n0_ n1_ n2_ n3_ n4_ n5_ n6_ n7_ n8_ n9_; clear hb hbox hg; obtain ⟨hcz63_0, hcz63_1, hcz63_2, hcz63_3, hcz63_4, hfz63_0, hfz63_1, hfz63_2, hfz63_3, hfz63_4⟩ := cz5 BK260.out; obtain ⟨Ao64, co64, eo64⟩ := Kd.R_slice HO258.out; subst eo64))
     go_ret
     exact ⟨by first | rfl | (simp [errW_none, errW_some] <;> rfl) | (simp [*, errW_none, errW_some] <;> rfl), by repeat (first | (with_reducible first | exact HB.out | apply below_alloc | apply pw_below_drewN | apply below_drew1 | refine below_set ?_ GE260.out) | exact HB.out)⟩
   ·
    rw [if_neg c10] at H
    have c10b0 : (t259 == 0) = false := beq_eq_false_iff_ne.mpr c10
    have c10b1 : (t259 != 0) = true := bne_iff_ne.mpr c10
    obtain rfl := Option.some.inj H
    go_enter Tryd.func13, Tryd.ntmps13
    go_wp2_with (first | ((with_reducible refine gate_callee (f := 38) rfl ?_); refine goesL_ (some 8) rfl rfl Tryd.func38 (by kernel_rfl) rfl #[.int .i64 2, .int .i64 1] rfl gl ?_; (with_reducible refine (stowagelaw14_one.calls k 2 1 t227 t228 t229 t230 _ A1.out).mono ?_); rintro e w65 ⟨v231, rfl, ho0, hb⟩; refine ⟨_, rfl, ?_⟩; have HO232 := Aside0.mk (Kd.R_lower ho0 (below_size (bw HB.out))); replace HB := Aside0.mk (below_step (bw HB.out) hb); (try clear hb); (try clear hb2); (try clear hk); (try clear hi); (try clear ho0); obtain ⟨Ao66, co66, eo66⟩ := Kd.R_slice HO232.out; subst eo66) | ((with_reducible refine gate_callee (f := 16) rfl ?_); refine goesL_ (some 9) rfl rfl Tryd.func16 (by kernel_rfl) rfl #[.slice none 0 0, .agg #[.int .i64 t227, .int .i64 t228, .string t229, .slice Ao66 t230.length co66]] rfl gl ?_; (refine (parts_Put.calls k _ _ ([] : List (S46)) t227 t228 t229 _ _ t230 t233 t236 _ ?side1 ?side2 ?side3 ?side4 A2.out).mono ?_); (case side1 => exact Kd.C_nil _ _); (case side2 => exact Nat.le_refl _); (case side3 => repeat (first | exact (Kd.R_reads' HO232.out).2.2 | (with_reducible refine Kd.C_alloc ?_ _) | (with_reducible refine Kd.C_drewN ?_ _) | (with_reducible refine Kd.C_drew ?_))); (case side4 => exact (Kd.R_reads' HO232.out).2.1); rintro e w67 ⟨v234, rfl, ho0, hb⟩; refine ⟨_, rfl, ?_⟩; have n0_ := Aside0.mk (Kd.R_below (kR HO232.out) hb); have n1_ := Aside0.mk (Kd.V_lower (Kd.V_mono (ok' := fun k_ => some k_ ≠ (.slice Ao66 t230.length co66 : Value).ownBlock) ho0 (fun k_ hk_ => (Kd.fresh' (Kd.R_lt (kR HO232.out)) k_ hk_))) (below_size (bw HB.out))); have n2_ := Aside0.mk (below_step (bw HB.out) hb); clear HO232; clear HB; have HO232 := n0_; have HO235 := n1_; have HB := n2_; clear n0_ n1_ n2_; (try clear hb); (try clear hb2); (try clear hk); (try clear hi); (try clear ho0)) | ((with_reducible refine gate_callee (f := 38) rfl ?_); refine goesL_ (some 14) rfl rfl Tryd.func38 (by kernel_rfl) rfl #[.int .i64 1, .int .i64 64] rfl gl ?_; (with_reducible refine (stowagelaw14_one.calls k 1 64 t237 t238 t239 t240 _ A3.out).mono ?_); rintro e w68 ⟨v241, rfl, ho0, hb⟩; refine ⟨_, rfl, ?_⟩; have n0_ := Aside0.mk (Kd.R_elder' (kR HO232.out) (Kd.R_base ho0) hb); have n1_ := Aside0.mk (Kd.V_elder' (kV HO235.out) (Kd.R_base ho0) hb); have n2_ := Aside0.mk (Kd.R_lower (Kd.R_new' ho0 (Kd.R_lt (kR HO232.out))) (below_size (bw HB.out))); have n3_ := Aside0.mk (below_step (bw HB.out) hb); clear HO232; clear HO235; clear HB; have HO232 := n0_; have HO235 := n1_; have HO242 := n2_; have HB := n3_; clear n0_ n1_ n2_ n3_; (try clear hb); (try clear hb2); (try clear hk); (try clear hi); (try clear ho0); obtain ⟨Ao69, co69, eo69⟩ := Kd.V_slice HO235.out; subst eo69; obtain ⟨Ao70, co70, eo70⟩ := Kd.R_slice HO242.out; subst eo70) | ((with_reducible refine gate_callee (f := 16) rfl ?_); refine goesL_ (some 15) rfl rfl Tryd.func16 (by kernel_rfl) rfl #[.slice Ao69 t233.length co69, .agg #[.int .i64 t237, .int .i64 t238, .string t239, .slice Ao70 t240.length co70]] rfl gl ?_; (with_reducible refine (parts_Put.calls k _ _ t233 t237 t238 t239 _ _ t240 t243 t246 _ ?side1 ?side2 ?side3 ?side4 A4.out).mono ?_); (case side1 => repeat (first | exact (Kd.V_reads' HO235.out).2.2 | (with_reducible refine Kd.C_alloc ?_ _) | (with_reducible refine Kd.C_drewN ?_ _) | (with_reducible refine Kd.C_drew ?_))); (case side2 => exact (Kd.V_reads' HO235.out).2.1); (case side3 => repeat (first | exact (Kd.R_reads' HO242.out).2.2 | (with_reducible refine Kd.C_alloc ?_ _) | (with_reducible refine Kd.C_drewN ?_ _) | (with_reducible refine Kd.C_drew ?_))); (case side4 => exact (Kd.R_reads' HO242.out).2.1); rintro e w71 ⟨v244, rfl, ho0, hb⟩; refine ⟨_, rfl, ?_⟩; have n0_ := Aside0.mk (Kd.R_below (kR HO232.out) hb); have n1_ := Aside0.mk (Kd.V_below (kV HO235.out) hb); have n2_ := Aside0.mk (Kd.R_below (kR HO242.out) hb); have n3_ := Aside0.mk (Kd.V_lower (Kd.V_mono (ok' := fun k_ => some k_ ≠ (.slice Ao66 t230.length co66 : Value).ownBlock ∧ some k_ ≠ (.slice Ao70 t240.length co70 : Value).ownBlock) ho0 (fun k_ hk_ => ⟨(Kd.fresh' (Kd.R_lt (kR HO232.out)) k_ hk_), (Kd.fresh' (Kd.R_lt (kR HO242.out)) k_ hk_)⟩)) (below_size (bw HB.out))); have n4_ := Aside0.mk (below_step (bw HB.out) hb); clear HO232; clear HO235; clear HO242; clear HB; have HO232 := n0_; have HO235 := n1_; have HO242 := n2_; have HO245 := n3_; have HB := n4_; clear n0_ n1_ n2_ n3_ n4_; (try clear hb); (try clear hb2); (try clear hk); (try clear hi); (try clear ho0)) | ((with_reducible refine gate_callee (f := 39) rfl ?_); refine goesL_ (some 20) rfl rfl Tryd.func39 (by kernel_rfl) rfl #[] rfl gl ?_; (with_reducible refine (stowagelaw14_zeros.calls k  t247 _ A5.out).mono ?_); rintro e w72 ⟨rfl, hb⟩; refine ⟨_, rfl, ?_⟩; replace HO232 := Aside0.mk (Kd.R_below (kR HO232.out) hb); replace HO235 := Aside0.mk (Kd.V_below (kV HO235.out) hb); replace HO242 := Aside0.mk (Kd.R_below (kR HO242.out) hb); replace HO245 := Aside0.mk (Kd.V_below (kV HO245.out) hb); replace HB := Aside0.mk (below_step (bw HB.out) hb); (try clear hb); (try clear hb2); (try clear hk); (try clear hi)) | ((with_reducible refine gate_callee (f := 39) rfl ?_); refine goesL_ (some 22) rfl rfl Tryd.func39 (by kernel_rfl) rfl #[] rfl gl ?_; (with_reducible refine (stowagelaw14_zeros.calls k  t248 _ A6.out).mono ?_); rintro e w73 ⟨rfl, hb⟩; refine ⟨_, rfl, ?_⟩; replace HO232 := Aside0.mk (Kd.R_below (kR HO232.out) hb); replace HO235 := Aside0.mk (Kd.V_below (kV HO235.out) hb); replace HO242 := Aside0.mk (Kd.R_below (kR HO242.out) hb); replace HO245 := Aside0.mk (Kd.V_below (kV HO245.out) hb); replace HB := Aside0.mk (below_step (bw HB.out) hb); (try clear hb); (try clear hb2); (try clear hk); (try clear hi)) | ((with_reducible refine gate_dst (N := 24) rfl ?_); (try (refine gate_guard (by rfl) ?_; dsimp only)); refine Kd.R_lit k61 _ 61 ?hg (N := 24) ?hd (xs := ([(⟨1, t247⟩ : S61), (⟨2, t248⟩ : S61)] : List (S61))) (inner := [.int .i64 1, .string t247, .int .i64 2, .string t248]) (ok := fun _ => True) (okp := fun _ => True) ?hr ?hp (fun _ hk => hk) trivial (Below.refl _ _) (Nat.le_refl _) (by simp) ?_; (case hd => rfl); (case hg => rfl); (case hr => first | (go_simp; done) | (go_simp; rfl)); (case hp => exact (Reps.c2 (show Kd.M k61 _ _ _ (⟨1, t247⟩ : S61) [.int .i64 1, .string t247] from (k61_mkM _ _ _ (⟨1, t247⟩ : S61) )) (Reps.c2 (show Kd.M k61 _ _ _ (⟨2, t248⟩ : S61) [.int .i64 2, .string t248] from (k61_mkM _ _ _ (⟨2, t248⟩ : S61) )) (Reps.none _ _)))); intro v250 w74 ho75 hb hg_ hnew_; clear hg_ hnew_; (first | rw [← Ny249.out] at ho75 | (simp only [Int.reduceToNat] at ho75; rw [← Ny249.out] at ho75)); replace HO232 := Aside0.mk (Kd.R_below (kR HO232.out) hb); replace HO235 := Aside0.mk (Kd.V_elder' (kV HO235.out) (Kd.R_base ho75) hb); replace HO242 := Aside0.mk (Kd.R_below (kR HO242.out) hb); replace HO245 := Aside0.mk (Kd.V_elder' (kV HO245.out) (Kd.R_base ho75) hb); have HO251 := Aside0.mk (Kd.R_lower ho75 (below_size (bw HB.out))); replace HB := Aside0.mk (below_step (bw HB.out) hb); clear hb ho75; obtain ⟨Ao76, co76, eo76⟩ := Kd.V_slice HO245.out; subst eo76; obtain ⟨Ao77, co77, eo77⟩ := Kd.R_slice HO251.out; subst eo77) | ((with_reducible refine gate_callee (f := 9) rfl ?_); refine goesL_ (some 25) rfl rfl Tryd.func9 (by kernel_rfl) rfl #[.slice Ao76 t243.length co76, .slice Ao77 y249.length co77] rfl gl ?_; (with_reducible refine (parts_Join.calls k _ _ t243 _ _ y249 t252 t253 t254 t255 t256 t259 _ ?side1 ?side2 ?side3 ?side4 A7.out ?sideG).mono ?_); (case sideG => first | exact HG.out | exact gg_below HG.out (bws HB.out)); (case side1 => repeat (first | exact (Kd.V_reads' HO245.out).2.2 | (with_reducible refine Kd.C_alloc ?_ _) | (with_reducible refine Kd.C_drewN ?_ _) | (with_reducible refine Kd.C_drew ?_))); (case side2 => exact (Kd.V_reads' HO245.out).2.1); (case side3 => repeat (first | exact (Kd.R_reads' HO251.out).2.2 | (with_reducible refine Kd.C_alloc ?_ _) | (with_reducible refine Kd.C_drewN ?_ _) | (with_reducible refine Kd.C_drew ?_))); (case side4 => exact (Kd.R_reads' HO251.out).2.1); rintro e w78 ⟨v257, rfl, ho0, hb⟩; refine ⟨_, rfl, ?_⟩; have n0_ := Aside0.mk (Kd.R_elder' (kR HO232.out) (Kd.R_base ho0) hb); have n1_ := Aside0.mk (Kd.V_elder' (kV HO235.out) (Kd.R_base ho0) hb); have n2_ := Aside0.mk (Kd.R_elder' (kR HO242.out) (Kd.R_base ho0) hb); have n3_ := Aside0.mk (Kd.V_elder' (kV HO245.out) (Kd.R_base ho0) hb); have n4_ := Aside0.mk (Kd.R_below (kR HO251.out) hb); have n5_ := Aside0.mk (Kd.R_lower (Kd.R_new' (Kd.R_new' ho0 (Kd.R_lt (kR HO232.out))) (Kd.R_lt (kR HO242.out))) (below_size (bw HB.out))); have n6_ := Aside0.mk (below_step (bw HB.out) hb); clear HO232; clear HO235; clear HO242; clear HO245; clear HO251; clear HB; have HO232 := n0_; have HO235 := n1_; have HO242 := n2_; have HO245 := n3_; have HO251 := n4_; have HO258 := n5_; have HB := n6_; clear n0_ n1_ n2_ n3_ n4_ n5_ n6_; (try clear hb); (try clear hb2); (try clear hk); (try clear hi); (try clear ho0)) | ((with_reducible refine gate_dst (N := 5) rfl ?_); (try (refine gate_guard (by rfl) ?_; dsimp only)); refine box_event ?hg (N := 5) ?hd (cs := #[.int .i64 0, .bool false, .int .i64 0, .string (⟨#[]⟩ : ByteArray), .slice none 0 0]) (t := 26) ?hr ?_; (case hd => rfl); (case hg => rfl); (case hr => first | (go_simp; done) | (go_simp; rfl)); intro gb260 hg w79 hbox hb; have n0_ := Aside0.mk (Kd.R_below (kR HO232.out) hb); have n1_ := Aside0.mk (Kd.V_below (Kd.V_elderB (kV HO235.out) gb260 (Nat.le_of_eq hg.symm)) hb); have n2_ := Aside0.mk (Kd.R_below (kR HO242.out) hb); have n3_ := Aside0.mk (Kd.V_below (Kd.V_elderB (kV HO245.out) gb260 (Nat.le_of_eq hg.symm)) hb); have n4_ := Aside0.mk (Kd.R_below (kR HO251.out) hb); have n5_ := Aside0.mk (Kd.R_below (kR HO258.out) hb); have n6_ := Aside0.mk (below_step (bw HB.out) hb); have n7_ := Aside0.mk (hbox); have n8_ := Aside0.mk ((by rw [hg]; exact (below_size (bw HB.out)) : w.heap.size ≤ gb260)); have n9_ := Aside0.mk ((by rw [hg]; exact (below_size (bw HB.out)) : w.heap.size ≤ gb260)); clear HO232; clear HO235; clear HO242; clear HO245; clear HO251; clear HO258; clear HB; have HO232 := n0_; have HO235 := n1_; have HO242 := n2_; have HO245 := n3_; have HO251 := n4_; have HO258 := n5_; have HB := n6_; have BK260 := n7_; have GW260 := n8_; have GE260 := n9_; clear n0_ n1_ n2_ n3_ n4_ n5_ n6_ n7_ n8_ n9_; clear hb hbox hg; obtain ⟨hcz80_0, hcz80_1, hcz80_2, hcz80_3, hcz80_4, hfz80_0, hfz80_1, hfz80_2, hfz80_3, hfz80_4⟩ := cz5 BK260.out; obtain ⟨Ao81, co81, eo81⟩ := Kd.R_slice HO258.out; subst eo81))
    go_ret
    exact ⟨by first | rfl | (simp [errW_none, errW_some] <;> rfl) | (simp [*, errW_none, errW_some] <;> rfl), by repeat (first | (with_reducible first | exact HB.out | apply below_alloc | apply pw_below_drewN | apply below_drew1 | refine below_set ?_ GE260.out) | exact HB.out)⟩
  ·
   rw [if_neg c9] at H
   have c9b0 : (t246 == 0) = false := beq_eq_false_iff_ne.mpr c9
   have c9b1 : (t246 != 0) = true := bne_iff_ne.mpr c9
   obtain rfl := Option.some.inj H
   go_enter Tryd.func13, Tryd.ntmps13
   go_wp2_with (first | ((with_reducible refine gate_callee (f := 38) rfl ?_); refine goesL_ (some 8) rfl rfl Tryd.func38 (by kernel_rfl) rfl #[.int .i64 2, .int .i64 1] rfl gl ?_; (with_reducible refine (stowagelaw14_one.calls k 2 1 t227 t228 t229 t230 _ A1.out).mono ?_); rintro e w82 ⟨v231, rfl, ho0, hb⟩; refine ⟨_, rfl, ?_⟩; have HO232 := Aside0.mk (Kd.R_lower ho0 (below_size (bw HB.out))); replace HB := Aside0.mk (below_step (bw HB.out) hb); (try clear hb); (try clear hb2); (try clear hk); (try clear hi); (try clear ho0); obtain ⟨Ao83, co83, eo83⟩ := Kd.R_slice HO232.out; subst eo83) | ((with_reducible refine gate_callee (f := 16) rfl ?_); refine goesL_ (some 9) rfl rfl Tryd.func16 (by kernel_rfl) rfl #[.slice none 0 0, .agg #[.int .i64 t227, .int .i64 t228, .string t229, .slice Ao83 t230.length co83]] rfl gl ?_; (refine (parts_Put.calls k _ _ ([] : List (S46)) t227 t228 t229 _ _ t230 t233 t236 _ ?side1 ?side2 ?side3 ?side4 A2.out).mono ?_); (case side1 => exact Kd.C_nil _ _); (case side2 => exact Nat.le_refl _); (case side3 => repeat (first | exact (Kd.R_reads' HO232.out).2.2 | (with_reducible refine Kd.C_alloc ?_ _) | (with_reducible refine Kd.C_drewN ?_ _) | (with_reducible refine Kd.C_drew ?_))); (case side4 => exact (Kd.R_reads' HO232.out).2.1); rintro e w84 ⟨v234, rfl, ho0, hb⟩; refine ⟨_, rfl, ?_⟩; have n0_ := Aside0.mk (Kd.R_below (kR HO232.out) hb); have n1_ := Aside0.mk (Kd.V_lower (Kd.V_mono (ok' := fun k_ => some k_ ≠ (.slice Ao83 t230.length co83 : Value).ownBlock) ho0 (fun k_ hk_ => (Kd.fresh' (Kd.R_lt (kR HO232.out)) k_ hk_))) (below_size (bw HB.out))); have n2_ := Aside0.mk (below_step (bw HB.out) hb); clear HO232; clear HB; have HO232 := n0_; have HO235 := n1_; have HB := n2_; clear n0_ n1_ n2_; (try clear hb); (try clear hb2); (try clear hk); (try clear hi); (try clear ho0)) | ((with_reducible refine gate_callee (f := 38) rfl ?_); refine goesL_ (some 14) rfl rfl Tryd.func38 (by kernel_rfl) rfl #[.int .i64 1, .int .i64 64] rfl gl ?_; (with_reducible refine (stowagelaw14_one.calls k 1 64 t237 t238 t239 t240 _ A3.out).mono ?_); rintro e w85 ⟨v241, rfl, ho0, hb⟩; refine ⟨_, rfl, ?_⟩; have n0_ := Aside0.mk (Kd.R_elder' (kR HO232.out) (Kd.R_base ho0) hb); have n1_ := Aside0.mk (Kd.V_elder' (kV HO235.out) (Kd.R_base ho0) hb); have n2_ := Aside0.mk (Kd.R_lower (Kd.R_new' ho0 (Kd.R_lt (kR HO232.out))) (below_size (bw HB.out))); have n3_ := Aside0.mk (below_step (bw HB.out) hb); clear HO232; clear HO235; clear HB; have HO232 := n0_; have HO235 := n1_; have HO242 := n2_; have HB := n3_; clear n0_ n1_ n2_ n3_; (try clear hb); (try clear hb2); (try clear hk); (try clear hi); (try clear ho0); obtain ⟨Ao86, co86, eo86⟩ := Kd.V_slice HO235.out; subst eo86; obtain ⟨Ao87, co87, eo87⟩ := Kd.R_slice HO242.out; subst eo87) | ((with_reducible refine gate_callee (f := 16) rfl ?_); refine goesL_ (some 15) rfl rfl Tryd.func16 (by kernel_rfl) rfl #[.slice Ao86 t233.length co86, .agg #[.int .i64 t237, .int .i64 t238, .string t239, .slice Ao87 t240.length co87]] rfl gl ?_; (with_reducible refine (parts_Put.calls k _ _ t233 t237 t238 t239 _ _ t240 t243 t246 _ ?side1 ?side2 ?side3 ?side4 A4.out).mono ?_); (case side1 => repeat (first | exact (Kd.V_reads' HO235.out).2.2 | (with_reducible refine Kd.C_alloc ?_ _) | (with_reducible refine Kd.C_drewN ?_ _) | (with_reducible refine Kd.C_drew ?_))); (case side2 => exact (Kd.V_reads' HO235.out).2.1); (case side3 => repeat (first | exact (Kd.R_reads' HO242.out).2.2 | (with_reducible refine Kd.C_alloc ?_ _) | (with_reducible refine Kd.C_drewN ?_ _) | (with_reducible refine Kd.C_drew ?_))); (case side4 => exact (Kd.R_reads' HO242.out).2.1); rintro e w88 ⟨v244, rfl, ho0, hb⟩; refine ⟨_, rfl, ?_⟩; have n0_ := Aside0.mk (Kd.R_below (kR HO232.out) hb); have n1_ := Aside0.mk (Kd.V_below (kV HO235.out) hb); have n2_ := Aside0.mk (Kd.R_below (kR HO242.out) hb); have n3_ := Aside0.mk (Kd.V_lower (Kd.V_mono (ok' := fun k_ => some k_ ≠ (.slice Ao83 t230.length co83 : Value).ownBlock ∧ some k_ ≠ (.slice Ao87 t240.length co87 : Value).ownBlock) ho0 (fun k_ hk_ => ⟨(Kd.fresh' (Kd.R_lt (kR HO232.out)) k_ hk_), (Kd.fresh' (Kd.R_lt (kR HO242.out)) k_ hk_)⟩)) (below_size (bw HB.out))); have n4_ := Aside0.mk (below_step (bw HB.out) hb); clear HO232; clear HO235; clear HO242; clear HB; have HO232 := n0_; have HO235 := n1_; have HO242 := n2_; have HO245 := n3_; have HB := n4_; clear n0_ n1_ n2_ n3_ n4_; (try clear hb); (try clear hb2); (try clear hk); (try clear hi); (try clear ho0)) | ((with_reducible refine gate_callee (f := 39) rfl ?_); refine goesL_ (some 20) rfl rfl Tryd.func39 (by kernel_rfl) rfl #[] rfl gl ?_; (with_reducible refine (stowagelaw14_zeros.calls k  t247 _ A5.out).mono ?_); rintro e w89 ⟨rfl, hb⟩; refine ⟨_, rfl, ?_⟩; replace HO232 := Aside0.mk (Kd.R_below (kR HO232.out) hb); replace HO235 := Aside0.mk (Kd.V_below (kV HO235.out) hb); replace HO242 := Aside0.mk (Kd.R_below (kR HO242.out) hb); replace HO245 := Aside0.mk (Kd.V_below (kV HO245.out) hb); replace HB := Aside0.mk (below_step (bw HB.out) hb); (try clear hb); (try clear hb2); (try clear hk); (try clear hi)) | ((with_reducible refine gate_callee (f := 39) rfl ?_); refine goesL_ (some 22) rfl rfl Tryd.func39 (by kernel_rfl) rfl #[] rfl gl ?_; (with_reducible refine (stowagelaw14_zeros.calls k  t248 _ A6.out).mono ?_); rintro e w90 ⟨rfl, hb⟩; refine ⟨_, rfl, ?_⟩; replace HO232 := Aside0.mk (Kd.R_below (kR HO232.out) hb); replace HO235 := Aside0.mk (Kd.V_below (kV HO235.out) hb); replace HO242 := Aside0.mk (Kd.R_below (kR HO242.out) hb); replace HO245 := Aside0.mk (Kd.V_below (kV HO245.out) hb); replace HB := Aside0.mk (below_step (bw HB.out) hb); (try clear hb); (try clear hb2); (try clear hk); (try clear hi)) | ((with_reducible refine gate_dst (N := 24) rfl ?_); (try (refine gate_guard (by rfl) ?_; dsimp only)); refine Kd.R_lit k61 _ 61 ?hg (N := 24) ?hd (xs := ([(⟨1, t247⟩ : S61), (⟨2, t248⟩ : S61)] : List (S61))) (inner := [.int .i64 1, .string t247, .int .i64 2, .string t248]) (ok := fun _ => True) (okp := fun _ => True) ?hr ?hp (fun _ hk => hk) trivial (Below.refl _ _) (Nat.le_refl _) (by simp) ?_; (case hd => rfl); (case hg => rfl); (case hr => first | (go_simp; done) | (go_simp; rfl)); (case hp => exact (Reps.c2 (show Kd.M k61 _ _ _ (⟨1, t247⟩ : S61) [.int .i64 1, .string t247] from (k61_mkM _ _ _ (⟨1, t247⟩ : S61) )) (Reps.c2 (show Kd.M k61 _ _ _ (⟨2, t248⟩ : S61) [.int .i64 2, .string t248] from (k61_mkM _ _ _ (⟨2, t248⟩ : S61) )) (Reps.none _ _)))); intro v250 w91 ho92 hb hg_ hnew_; clear hg_ hnew_; (first | rw [← Ny249.out] at ho92 | (simp only [Int.reduceToNat] at ho92; rw [← Ny249.out] at ho92)); replace HO232 := Aside0.mk (Kd.R_below (kR HO232.out) hb); replace HO235 := Aside0.mk (Kd.V_elder' (kV HO235.out) (Kd.R_base ho92) hb); replace HO242 := Aside0.mk (Kd.R_below (kR HO242.out) hb); replace HO245 := Aside0.mk (Kd.V_elder' (kV HO245.out) (Kd.R_base ho92) hb); have HO251 := Aside0.mk (Kd.R_lower ho92 (below_size (bw HB.out))); replace HB := Aside0.mk (below_step (bw HB.out) hb); clear hb ho92; obtain ⟨Ao93, co93, eo93⟩ := Kd.V_slice HO245.out; subst eo93; obtain ⟨Ao94, co94, eo94⟩ := Kd.R_slice HO251.out; subst eo94) | ((with_reducible refine gate_callee (f := 9) rfl ?_); refine goesL_ (some 25) rfl rfl Tryd.func9 (by kernel_rfl) rfl #[.slice Ao93 t243.length co93, .slice Ao94 y249.length co94] rfl gl ?_; (with_reducible refine (parts_Join.calls k _ _ t243 _ _ y249 t252 t253 t254 t255 t256 t259 _ ?side1 ?side2 ?side3 ?side4 A7.out ?sideG).mono ?_); (case sideG => first | exact HG.out | exact gg_below HG.out (bws HB.out)); (case side1 => repeat (first | exact (Kd.V_reads' HO245.out).2.2 | (with_reducible refine Kd.C_alloc ?_ _) | (with_reducible refine Kd.C_drewN ?_ _) | (with_reducible refine Kd.C_drew ?_))); (case side2 => exact (Kd.V_reads' HO245.out).2.1); (case side3 => repeat (first | exact (Kd.R_reads' HO251.out).2.2 | (with_reducible refine Kd.C_alloc ?_ _) | (with_reducible refine Kd.C_drewN ?_ _) | (with_reducible refine Kd.C_drew ?_))); (case side4 => exact (Kd.R_reads' HO251.out).2.1); rintro e w95 ⟨v257, rfl, ho0, hb⟩; refine ⟨_, rfl, ?_⟩; have n0_ := Aside0.mk (Kd.R_elder' (kR HO232.out) (Kd.R_base ho0) hb); have n1_ := Aside0.mk (Kd.V_elder' (kV HO235.out) (Kd.R_base ho0) hb); have n2_ := Aside0.mk (Kd.R_elder' (kR HO242.out) (Kd.R_base ho0) hb); have n3_ := Aside0.mk (Kd.V_elder' (kV HO245.out) (Kd.R_base ho0) hb); have n4_ := Aside0.mk (Kd.R_below (kR HO251.out) hb); have n5_ := Aside0.mk (Kd.R_lower (Kd.R_new' (Kd.R_new' ho0 (Kd.R_lt (kR HO232.out))) (Kd.R_lt (kR HO242.out))) (below_size (bw HB.out))); have n6_ := Aside0.mk (below_step (bw HB.out) hb); clear HO232; clear HO235; clear HO242; clear HO245; clear HO251; clear HB; have HO232 := n0_; have HO235 := n1_; have HO242 := n2_; have HO245 := n3_; have HO251 := n4_; have HO258 := n5_; have HB := n6_; clear n0_ n1_ n2_ n3_ n4_ n5_ n6_; (try clear hb); (try clear hb2); (try clear hk); (try clear hi); (try clear ho0)) | ((with_reducible refine gate_dst (N := 5) rfl ?_); (try (refine gate_guard (by rfl) ?_; dsimp only)); refine box_event ?hg (N := 5) ?hd (cs := #[.int .i64 0, .bool false, .int .i64 0, .string (⟨#[]⟩ : ByteArray), .slice none 0 0]) (t := 26) ?hr ?_; (case hd => rfl); (case hg => rfl); (case hr => first | (go_simp; done) | (go_simp; rfl)); intro gb260 hg w96 hbox hb; have n0_ := Aside0.mk (Kd.R_below (kR HO232.out) hb); have n1_ := Aside0.mk (Kd.V_below (Kd.V_elderB (kV HO235.out) gb260 (Nat.le_of_eq hg.symm)) hb); have n2_ := Aside0.mk (Kd.R_below (kR HO242.out) hb); have n3_ := Aside0.mk (Kd.V_below (Kd.V_elderB (kV HO245.out) gb260 (Nat.le_of_eq hg.symm)) hb); have n4_ := Aside0.mk (Kd.R_below (kR HO251.out) hb); have n5_ := Aside0.mk (Kd.R_below (kR HO258.out) hb); have n6_ := Aside0.mk (below_step (bw HB.out) hb); have n7_ := Aside0.mk (hbox); have n8_ := Aside0.mk ((by rw [hg]; exact (below_size (bw HB.out)) : w.heap.size ≤ gb260)); have n9_ := Aside0.mk ((by rw [hg]; exact (below_size (bw HB.out)) : w.heap.size ≤ gb260)); clear HO232; clear HO235; clear HO242; clear HO245; clear HO251; clear HO258; clear HB; have HO232 := n0_; have HO235 := n1_; have HO242 := n2_; have HO245 := n3_; have HO251 := n4_; have HO258 := n5_; have HB := n6_; have BK260 := n7_; have GW260 := n8_; have GE260 := n9_; clear n0_ n1_ n2_ n3_ n4_ n5_ n6_ n7_ n8_ n9_; clear hb hbox hg; obtain ⟨hcz97_0, hcz97_1, hcz97_2, hcz97_3, hcz97_4, hfz97_0, hfz97_1, hfz97_2, hfz97_3, hfz97_4⟩ := cz5 BK260.out; obtain ⟨Ao98, co98, eo98⟩ := Kd.R_slice HO258.out; subst eo98))
   go_ret
   exact ⟨by first | rfl | (simp [errW_none, errW_some] <;> rfl) | (simp [*, errW_none, errW_some] <;> rfl), by repeat (first | (with_reducible first | exact HB.out | apply below_alloc | apply pw_below_drewN | apply below_drew1 | refine below_set ?_ GE260.out) | exact HB.out)⟩
 ·
  rw [if_neg c8] at H
  have c8b0 : (t236 == 0) = false := beq_eq_false_iff_ne.mpr c8
  have c8b1 : (t236 != 0) = true := bne_iff_ne.mpr c8
  obtain rfl := Option.some.inj H
  go_enter Tryd.func13, Tryd.ntmps13
  go_wp2_with (first | ((with_reducible refine gate_callee (f := 38) rfl ?_); refine goesL_ (some 8) rfl rfl Tryd.func38 (by kernel_rfl) rfl #[.int .i64 2, .int .i64 1] rfl gl ?_; (with_reducible refine (stowagelaw14_one.calls k 2 1 t227 t228 t229 t230 _ A1.out).mono ?_); rintro e w99 ⟨v231, rfl, ho0, hb⟩; refine ⟨_, rfl, ?_⟩; have HO232 := Aside0.mk (Kd.R_lower ho0 (below_size (bw HB.out))); replace HB := Aside0.mk (below_step (bw HB.out) hb); (try clear hb); (try clear hb2); (try clear hk); (try clear hi); (try clear ho0); obtain ⟨Ao100, co100, eo100⟩ := Kd.R_slice HO232.out; subst eo100) | ((with_reducible refine gate_callee (f := 16) rfl ?_); refine goesL_ (some 9) rfl rfl Tryd.func16 (by kernel_rfl) rfl #[.slice none 0 0, .agg #[.int .i64 t227, .int .i64 t228, .string t229, .slice Ao100 t230.length co100]] rfl gl ?_; (refine (parts_Put.calls k _ _ ([] : List (S46)) t227 t228 t229 _ _ t230 t233 t236 _ ?side1 ?side2 ?side3 ?side4 A2.out).mono ?_); (case side1 => exact Kd.C_nil _ _); (case side2 => exact Nat.le_refl _); (case side3 => repeat (first | exact (Kd.R_reads' HO232.out).2.2 | (with_reducible refine Kd.C_alloc ?_ _) | (with_reducible refine Kd.C_drewN ?_ _) | (with_reducible refine Kd.C_drew ?_))); (case side4 => exact (Kd.R_reads' HO232.out).2.1); rintro e w101 ⟨v234, rfl, ho0, hb⟩; refine ⟨_, rfl, ?_⟩; have n0_ := Aside0.mk (Kd.R_below (kR HO232.out) hb); have n1_ := Aside0.mk (Kd.V_lower (Kd.V_mono (ok' := fun k_ => some k_ ≠ (.slice Ao100 t230.length co100 : Value).ownBlock) ho0 (fun k_ hk_ => (Kd.fresh' (Kd.R_lt (kR HO232.out)) k_ hk_))) (below_size (bw HB.out))); have n2_ := Aside0.mk (below_step (bw HB.out) hb); clear HO232; clear HB; have HO232 := n0_; have HO235 := n1_; have HB := n2_; clear n0_ n1_ n2_; (try clear hb); (try clear hb2); (try clear hk); (try clear hi); (try clear ho0)) | ((with_reducible refine gate_callee (f := 38) rfl ?_); refine goesL_ (some 14) rfl rfl Tryd.func38 (by kernel_rfl) rfl #[.int .i64 1, .int .i64 64] rfl gl ?_; (with_reducible refine (stowagelaw14_one.calls k 1 64 t237 t238 t239 t240 _ A3.out).mono ?_); rintro e w102 ⟨v241, rfl, ho0, hb⟩; refine ⟨_, rfl, ?_⟩; have n0_ := Aside0.mk (Kd.R_elder' (kR HO232.out) (Kd.R_base ho0) hb); have n1_ := Aside0.mk (Kd.V_elder' (kV HO235.out) (Kd.R_base ho0) hb); have n2_ := Aside0.mk (Kd.R_lower (Kd.R_new' ho0 (Kd.R_lt (kR HO232.out))) (below_size (bw HB.out))); have n3_ := Aside0.mk (below_step (bw HB.out) hb); clear HO232; clear HO235; clear HB; have HO232 := n0_; have HO235 := n1_; have HO242 := n2_; have HB := n3_; clear n0_ n1_ n2_ n3_; (try clear hb); (try clear hb2); (try clear hk); (try clear hi); (try clear ho0); obtain ⟨Ao103, co103, eo103⟩ := Kd.V_slice HO235.out; subst eo103; obtain ⟨Ao104, co104, eo104⟩ := Kd.R_slice HO242.out; subst eo104) | ((with_reducible refine gate_callee (f := 16) rfl ?_); refine goesL_ (some 15) rfl rfl Tryd.func16 (by kernel_rfl) rfl #[.slice Ao103 t233.length co103, .agg #[.int .i64 t237, .int .i64 t238, .string t239, .slice Ao104 t240.length co104]] rfl gl ?_; (with_reducible refine (parts_Put.calls k _ _ t233 t237 t238 t239 _ _ t240 t243 t246 _ ?side1 ?side2 ?side3 ?side4 A4.out).mono ?_); (case side1 => repeat (first | exact (Kd.V_reads' HO235.out).2.2 | (with_reducible refine Kd.C_alloc ?_ _) | (with_reducible refine Kd.C_drewN ?_ _) | (with_reducible refine Kd.C_drew ?_))); (case side2 => exact (Kd.V_reads' HO235.out).2.1); (case side3 => repeat (first | exact (Kd.R_reads' HO242.out).2.2 | (with_reducible refine Kd.C_alloc ?_ _) | (with_reducible refine Kd.C_drewN ?_ _) | (with_reducible refine Kd.C_drew ?_))); (case side4 => exact (Kd.R_reads' HO242.out).2.1); rintro e w105 ⟨v244, rfl, ho0, hb⟩; refine ⟨_, rfl, ?_⟩; have n0_ := Aside0.mk (Kd.R_below (kR HO232.out) hb); have n1_ := Aside0.mk (Kd.V_below (kV HO235.out) hb); have n2_ := Aside0.mk (Kd.R_below (kR HO242.out) hb); have n3_ := Aside0.mk (Kd.V_lower (Kd.V_mono (ok' := fun k_ => some k_ ≠ (.slice Ao100 t230.length co100 : Value).ownBlock ∧ some k_ ≠ (.slice Ao104 t240.length co104 : Value).ownBlock) ho0 (fun k_ hk_ => ⟨(Kd.fresh' (Kd.R_lt (kR HO232.out)) k_ hk_), (Kd.fresh' (Kd.R_lt (kR HO242.out)) k_ hk_)⟩)) (below_size (bw HB.out))); have n4_ := Aside0.mk (below_step (bw HB.out) hb); clear HO232; clear HO235; clear HO242; clear HB; have HO232 := n0_; have HO235 := n1_; have HO242 := n2_; have HO245 := n3_; have HB := n4_; clear n0_ n1_ n2_ n3_ n4_; (try clear hb); (try clear hb2); (try clear hk); (try clear hi); (try clear ho0)) | ((with_reducible refine gate_callee (f := 39) rfl ?_); refine goesL_ (some 20) rfl rfl Tryd.func39 (by kernel_rfl) rfl #[] rfl gl ?_; (with_reducible refine (stowagelaw14_zeros.calls k  t247 _ A5.out).mono ?_); rintro e w106 ⟨rfl, hb⟩; refine ⟨_, rfl, ?_⟩; replace HO232 := Aside0.mk (Kd.R_below (kR HO232.out) hb); replace HO235 := Aside0.mk (Kd.V_below (kV HO235.out) hb); replace HO242 := Aside0.mk (Kd.R_below (kR HO242.out) hb); replace HO245 := Aside0.mk (Kd.V_below (kV HO245.out) hb); replace HB := Aside0.mk (below_step (bw HB.out) hb); (try clear hb); (try clear hb2); (try clear hk); (try clear hi)) | ((with_reducible refine gate_callee (f := 39) rfl ?_); refine goesL_ (some 22) rfl rfl Tryd.func39 (by kernel_rfl) rfl #[] rfl gl ?_; (with_reducible refine (stowagelaw14_zeros.calls k  t248 _ A6.out).mono ?_); rintro e w107 ⟨rfl, hb⟩; refine ⟨_, rfl, ?_⟩; replace HO232 := Aside0.mk (Kd.R_below (kR HO232.out) hb); replace HO235 := Aside0.mk (Kd.V_below (kV HO235.out) hb); replace HO242 := Aside0.mk (Kd.R_below (kR HO242.out) hb); replace HO245 := Aside0.mk (Kd.V_below (kV HO245.out) hb); replace HB := Aside0.mk (below_step (bw HB.out) hb); (try clear hb); (try clear hb2); (try clear hk); (try clear hi)) | ((with_reducible refine gate_dst (N := 24) rfl ?_); (try (refine gate_guard (by rfl) ?_; dsimp only)); refine Kd.R_lit k61 _ 61 ?hg (N := 24) ?hd (xs := ([(⟨1, t247⟩ : S61), (⟨2, t248⟩ : S61)] : List (S61))) (inner := [.int .i64 1, .string t247, .int .i64 2, .string t248]) (ok := fun _ => True) (okp := fun _ => True) ?hr ?hp (fun _ hk => hk) trivial (Below.refl _ _) (Nat.le_refl _) (by simp) ?_; (case hd => rfl); (case hg => rfl); (case hr => first | (go_simp; done) | (go_simp; rfl)); (case hp => exact (Reps.c2 (show Kd.M k61 _ _ _ (⟨1, t247⟩ : S61) [.int .i64 1, .string t247] from (k61_mkM _ _ _ (⟨1, t247⟩ : S61) )) (Reps.c2 (show Kd.M k61 _ _ _ (⟨2, t248⟩ : S61) [.int .i64 2, .string t248] from (k61_mkM _ _ _ (⟨2, t248⟩ : S61) )) (Reps.none _ _)))); intro v250 w108 ho109 hb hg_ hnew_; clear hg_ hnew_; (first | rw [← Ny249.out] at ho109 | (simp only [Int.reduceToNat] at ho109; rw [← Ny249.out] at ho109)); replace HO232 := Aside0.mk (Kd.R_below (kR HO232.out) hb); replace HO235 := Aside0.mk (Kd.V_elder' (kV HO235.out) (Kd.R_base ho109) hb); replace HO242 := Aside0.mk (Kd.R_below (kR HO242.out) hb); replace HO245 := Aside0.mk (Kd.V_elder' (kV HO245.out) (Kd.R_base ho109) hb); have HO251 := Aside0.mk (Kd.R_lower ho109 (below_size (bw HB.out))); replace HB := Aside0.mk (below_step (bw HB.out) hb); clear hb ho109; obtain ⟨Ao110, co110, eo110⟩ := Kd.V_slice HO245.out; subst eo110; obtain ⟨Ao111, co111, eo111⟩ := Kd.R_slice HO251.out; subst eo111) | ((with_reducible refine gate_callee (f := 9) rfl ?_); refine goesL_ (some 25) rfl rfl Tryd.func9 (by kernel_rfl) rfl #[.slice Ao110 t243.length co110, .slice Ao111 y249.length co111] rfl gl ?_; (with_reducible refine (parts_Join.calls k _ _ t243 _ _ y249 t252 t253 t254 t255 t256 t259 _ ?side1 ?side2 ?side3 ?side4 A7.out ?sideG).mono ?_); (case sideG => first | exact HG.out | exact gg_below HG.out (bws HB.out)); (case side1 => repeat (first | exact (Kd.V_reads' HO245.out).2.2 | (with_reducible refine Kd.C_alloc ?_ _) | (with_reducible refine Kd.C_drewN ?_ _) | (with_reducible refine Kd.C_drew ?_))); (case side2 => exact (Kd.V_reads' HO245.out).2.1); (case side3 => repeat (first | exact (Kd.R_reads' HO251.out).2.2 | (with_reducible refine Kd.C_alloc ?_ _) | (with_reducible refine Kd.C_drewN ?_ _) | (with_reducible refine Kd.C_drew ?_))); (case side4 => exact (Kd.R_reads' HO251.out).2.1); rintro e w112 ⟨v257, rfl, ho0, hb⟩; refine ⟨_, rfl, ?_⟩; have n0_ := Aside0.mk (Kd.R_elder' (kR HO232.out) (Kd.R_base ho0) hb); have n1_ := Aside0.mk (Kd.V_elder' (kV HO235.out) (Kd.R_base ho0) hb); have n2_ := Aside0.mk (Kd.R_elder' (kR HO242.out) (Kd.R_base ho0) hb); have n3_ := Aside0.mk (Kd.V_elder' (kV HO245.out) (Kd.R_base ho0) hb); have n4_ := Aside0.mk (Kd.R_below (kR HO251.out) hb); have n5_ := Aside0.mk (Kd.R_lower (Kd.R_new' (Kd.R_new' ho0 (Kd.R_lt (kR HO232.out))) (Kd.R_lt (kR HO242.out))) (below_size (bw HB.out))); have n6_ := Aside0.mk (below_step (bw HB.out) hb); clear HO232; clear HO235; clear HO242; clear HO245; clear HO251; clear HB; have HO232 := n0_; have HO235 := n1_; have HO242 := n2_; have HO245 := n3_; have HO251 := n4_; have HO258 := n5_; have HB := n6_; clear n0_ n1_ n2_ n3_ n4_ n5_ n6_; (try clear hb); (try clear hb2); (try clear hk); (try clear hi); (try clear ho0)) | ((with_reducible refine gate_dst (N := 5) rfl ?_); (try (refine gate_guard (by rfl) ?_; dsimp only)); refine box_event ?hg (N := 5) ?hd (cs := #[.int .i64 0, .bool false, .int .i64 0, .string (⟨#[]⟩ : ByteArray), .slice none 0 0]) (t := 26) ?hr ?_; (case hd => rfl); (case hg => rfl); (case hr => first | (go_simp; done) | (go_simp; rfl)); intro gb260 hg w113 hbox hb; have n0_ := Aside0.mk (Kd.R_below (kR HO232.out) hb); have n1_ := Aside0.mk (Kd.V_below (Kd.V_elderB (kV HO235.out) gb260 (Nat.le_of_eq hg.symm)) hb); have n2_ := Aside0.mk (Kd.R_below (kR HO242.out) hb); have n3_ := Aside0.mk (Kd.V_below (Kd.V_elderB (kV HO245.out) gb260 (Nat.le_of_eq hg.symm)) hb); have n4_ := Aside0.mk (Kd.R_below (kR HO251.out) hb); have n5_ := Aside0.mk (Kd.R_below (kR HO258.out) hb); have n6_ := Aside0.mk (below_step (bw HB.out) hb); have n7_ := Aside0.mk (hbox); have n8_ := Aside0.mk ((by rw [hg]; exact (below_size (bw HB.out)) : w.heap.size ≤ gb260)); have n9_ := Aside0.mk ((by rw [hg]; exact (below_size (bw HB.out)) : w.heap.size ≤ gb260)); clear HO232; clear HO235; clear HO242; clear HO245; clear HO251; clear HO258; clear HB; have HO232 := n0_; have HO235 := n1_; have HO242 := n2_; have HO245 := n3_; have HO251 := n4_; have HO258 := n5_; have HB := n6_; have BK260 := n7_; have GW260 := n8_; have GE260 := n9_; clear n0_ n1_ n2_ n3_ n4_ n5_ n6_ n7_ n8_ n9_; clear hb hbox hg; obtain ⟨hcz114_0, hcz114_1, hcz114_2, hcz114_3, hcz114_4, hfz114_0, hfz114_1, hfz114_2, hfz114_3, hfz114_4⟩ := cz5 BK260.out; obtain ⟨Ao115, co115, eo115⟩ := Kd.R_slice HO258.out; subst eo115))
  go_ret
  exact ⟨by first | rfl | (simp [errW_none, errW_some] <;> rfl) | (simp [*, errW_none, errW_some] <;> rfl), by repeat (first | (with_reducible first | exact HB.out | apply below_alloc | apply pw_below_drewN | apply below_drew1 | refine below_set ?_ GE260.out) | exact HB.out)⟩

end Go.Proofs.YtoiockmmlanimaaDoor.Oj
end
section
/- Layer 14, the plain side: digits, pieces, which parts may be, in the program. No program in sight. -/
namespace Go.Proofs.YtoiockmmlanimaaDoor.Pure
open Go.RowKit Go.Proofs.YtoiockmmlanimaaDoor.Oj Go.Proofs.YtoiockmmlanimaaDoorW.PrintWords Go.Proofs.YtoiockmmlanimaaDoorW.PrintLast Go.Proofs.YtoiockmmlanimaaDoorW.PrintMore
set_option linter.unusedVariables false
set_option linter.unusedSimpArgs false
abbrev Part := S46
abbrev Piece := S63
abbrev Pick := S61
abbrev rdP (l : List Part) (i : Nat) : Part := rd_T46 l (i : Int)
abbrev rdC (l : List Piece) (i : Nat) : Piece := rd_T63 l (i : Int)
abbrev rdK (l : List Pick) (i : Nat) : Pick := rd_T61 l (i : Int)
theorem dropP (l : List Part) (i : Nat) (h : i < l.length) : l.drop i = rdP l i :: l.drop (i + 1) := by
  rw [List.drop_eq_getElem_cons h]
  congr 1
  show l[i] = l.getD (i : Int).toNat _
  rw [Int.toNat_natCast, List.getD_eq_getElem?_getD, List.getElem?_eq_getElem h]
  rfl
theorem dropC (l : List Piece) (i : Nat) (h : i < l.length) : l.drop i = rdC l i :: l.drop (i + 1) := by
  rw [List.drop_eq_getElem_cons h]
  congr 1
  show l[i] = l.getD (i : Int).toNat _
  rw [Int.toNat_natCast, List.getD_eq_getElem?_getD, List.getElem?_eq_getElem h]
  rfl
theorem dropK (l : List Pick) (i : Nat) (h : i < l.length) : l.drop i = rdK l i :: l.drop (i + 1) := by
  rw [List.drop_eq_getElem_cons h]
  congr 1
  show l[i] = l.getD (i : Int).toNat _
  rw [Int.toNat_natCast, List.getD_eq_getElem?_getD, List.getElem?_eq_getElem h]
  rfl
theorem memP (l : List Part) (i : Nat) (h : i < l.length) : rdP l i ∈ l := by
  have : rdP l i ∈ l.drop i := by rw [dropP l i h]; exact List.mem_cons_self
  exact List.mem_of_mem_drop this
theorem memC (l : List Piece) (i : Nat) (h : i < l.length) : rdC l i ∈ l := by
  have : rdC l i ∈ l.drop i := by rw [dropC l i h]; exact List.mem_cons_self
  exact List.mem_of_mem_drop this
theorem memK (l : List Pick) (i : Nat) (h : i < l.length) : rdK l i ∈ l := by
  have : rdK l i ∈ l.drop i := by rw [dropK l i h]; exact List.mem_cons_self
  exact List.mem_of_mem_drop this
theorem w1 (i : Nat) (h : i ≤ 4611686018427387904) : wrap64 ((i : Int) + 1) = ((i + 1 : Nat) : Int) := by
  rw [IntWalk.wrap64_in _ (by omega)]
  omega
/-! ### Digits -/
theorem len_eq (a : ByteArray) : a.data.toList.length = a.size := Array.length_toList (xs := a.data)
theorem bt_get (a : ByteArray) (i : Nat) (h : i < a.size) : ∃ c, a.data.toList.drop i = c :: a.data.toList.drop (i + 1) ∧ bt a (i : Int) = (c.toNat : Int) := by
  have hl : i < a.data.toList.length := by rw [len_eq]; exact h
  refine ⟨a.data.toList[i], List.drop_eq_getElem_cons hl, ?_⟩
  unfold bt
  rw [dif_pos (by rw [Int.toNat_natCast]; exact h)]
  simp only [Int.toNat_natCast, Array.getElem_toList]
  rfl
def D (a : ByteArray) : Bool := a.data.toList.all Sha.hb && decide (a.size = 64)
theorem digits_go (a : ByteArray) (hs : a.size ≤ 1048576) : ∀ n i k, i + n = a.size → n < k → chain_digits.l0 k a (a.size : Int) (i : Int) = some ((a.data.toList.drop i).all Sha.hb && decide (a.size = 64)) := by
  intro n
  induction n with
  | zero =>
    intro i k hi hk
    obtain ⟨k, rfl⟩ : ∃ j, k = j + 1 := ⟨k - 1, by omega⟩
    rw [chain_digits.l0, if_neg (by omega), List.drop_of_length_le (by rw [len_eq]; omega)]
    simp only [List.all_nil, Bool.true_and]
    congr 1
    by_cases h : a.size = 64
    · simp [h]
    · rw [decide_eq_false h]
      simpa using (show ¬ (a.size : Int) = 64 by omega)
  | succ n ih =>
    intro i k hi hk
    obtain ⟨k, rfl⟩ : ∃ j, k = j + 1 := ⟨k - 1, by omega⟩
    obtain ⟨c, hd, hb⟩ := bt_get a i (by omega)
    rw [chain_digits.l0, if_pos (by omega), if_pos (by omega), if_pos (by omega), hb, hd, List.all_cons, w1 i (by omega), ih (i + 1) k (by omega) (by omega)]
    by_cases h1 : (c.toNat : Int) < 48
    · rw [if_pos h1, if_pos (by omega)]
      have : Sha.hb c = false := by simp [Sha.hb]; omega
      rw [this, Bool.false_and, Bool.false_and]
    · rw [if_neg h1]
      by_cases h2 : (c.toNat : Int) > 57
      · rw [if_pos h2]
        by_cases h3 : (c.toNat : Int) < 97
        · rw [if_pos h3]
          have : Sha.hb c = false := by simp [Sha.hb]; omega
          rw [this, Bool.false_and, Bool.false_and]
        · rw [if_neg h3]
          by_cases h4 : (c.toNat : Int) > 102
          · rw [if_pos h4]
            have : Sha.hb c = false := by simp [Sha.hb]; omega
            rw [this, Bool.false_and, Bool.false_and]
          · rw [if_neg h4]
            have : Sha.hb c = true := by simp [Sha.hb]; omega
            rw [this, Bool.true_and]
      · rw [if_neg h2]
        have : Sha.hb c = true := by simp [Sha.hb]; omega
        rw [this, Bool.true_and]
theorem digits_eq (a : ByteArray) (hs : a.size ≤ 1048576) (k : Nat) (hk : 1048577 ≤ k) : chain_digits.f k a = some (D a) := digits_go a hs a.size 0 k (by omega) (by omega)
/-! ### Pieces -/
def pcs : List Piece → Int → Int × Int
  | [], s => (s, 0)
  | y :: r, s => if D y.f0 = true ∧ 1 ≤ y.f1 ∧ y.f1 ≤ 4096 then pcs r (s + y.f1) else (0, 1)
def Pc (l : List Piece) : Int × Int := if 512 < l.length then (0, 1) else pcs l 0
theorem pieces_go (l : List Piece) (hl : l.length ≤ 512) (hs : ∀ y ∈ l, y.f0.size ≤ 1048576) : ∀ n i k (s : Int), i + n = l.length → n + 1048577 < k → 0 ≤ s → s ≤ 4096 * i → chain_Pieces.l0 k s l (l.length : Int) (i : Int) = some (pcs (l.drop i) s) := by
  intro n
  induction n with
  | zero =>
    intro i k s hi hk h0 h1
    obtain ⟨k, rfl⟩ : ∃ j, k = j + 1 := ⟨k - 1, by omega⟩
    rw [chain_Pieces.l0, if_neg (by omega), List.drop_of_length_le (by omega)]
    rfl
  | succ n ih =>
    intro i k s hi hk h0 h1
    obtain ⟨k, rfl⟩ : ∃ j, k = j + 1 := ⟨k - 1, by omega⟩
    rw [chain_Pieces.l0, if_pos (by omega), if_pos (by omega), if_pos (by omega), digits_eq _ (hs _ (memC l i (by omega))) k (by omega), Option.bind_some, dropC l i (by omega), pcs, w1 i (by omega)]
    show (if D (rdC l i).f0 = true then (if (rdC l i).f1 < 1 then some (0, 1) else (if (rdC l i).f1 > 4096 then some (0, 1) else chain_Pieces.l0 k (wrap64 (s + (rdC l i).f1)) l (l.length : Int) ((i + 1 : Nat) : Int))) else some (0, 1)) = _
    by_cases hd : D (rdC l i).f0 = true
    · rw [if_pos hd]
      by_cases h2 : (rdC l i).f1 < 1
      · rw [if_pos h2, if_neg (by omega)]
      · rw [if_neg h2]
        by_cases h3 : (rdC l i).f1 > 4096
        · rw [if_pos h3, if_neg (by omega)]
        · rw [if_neg h3, if_pos ⟨hd, by omega, by omega⟩, IntWalk.wrap64_in _ (by omega), ih (i + 1) k _ (by omega) (by omega) (by omega) (by omega)]
    · rw [if_neg hd, if_neg (by intro h; exact hd h.1)]
theorem pieces_eq (l : List Piece) (hs : ∀ y ∈ l, y.f0.size ≤ 1048576) (k : Nat) (hk : 1049100 ≤ k) : chain_Pieces.f k l = some (Pc l) := by
  unfold chain_Pieces.f Pc
  by_cases h : 512 < l.length
  · rw [if_pos (by omega), if_pos h]
  · rw [if_neg (by omega), if_neg h]
    exact pieces_go l (by omega) hs l.length 0 k 0 (by omega) (by omega) (by omega) (by omega)
/-! ### A part -/
theorem unhex_some : ∀ l : List UInt8, l.length % 2 = 0 → (Sha.unhexL l).isSome = l.all Sha.hb
  | [], _ => rfl
  | [_], h => by simp at h
  | a :: b :: r, h => by
    have ih := unhex_some r (by simp at h; omega)
    rw [Sha.unhexL, List.all_cons, List.all_cons]
    cases h1 : Sha.hb a
    · simp
    · cases h2 : Sha.hb b
      · simp
      · simp [ih]
structure SmallPart (p : Part) : Prop where
  sum : p.f2.size ≤ 1048576
  pcs : ∀ y ∈ p.f3, y.f0.size ≤ 1048576
  len : p.f3.length ≤ 1048576
def chk (p : Part) : Bool := decide (1 ≤ p.f0 ∧ p.f0 ≤ 100 ∧ (Pc p.f3).2 = 0 ∧ (Pc p.f3).1 = p.f1) && D p.f2
theorem j0_true (k : Nat) (a b : Int) (c : ByteArray) (l : List Piece) : parts_Check.j0 (k + 1) true a b c l = some 1 := by rw [parts_Check.j0, if_pos rfl]
theorem check_eq (p : Part) (hp : SmallPart p) (k : Nat) (hk : 1049100 ≤ k) : parts_Check.f k p.f0 p.f1 p.f2 p.f3 = some (if chk p = true then 0 else 1) := by
  obtain ⟨k, rfl⟩ : ∃ j, k = j + 1 := ⟨k - 1, by omega⟩
  unfold parts_Check.f
  rw [pieces_eq p.f3 hp.pcs (k + 1) hk, Option.bind_some, j0_true]
  have hno : ∀ h : ¬ (1 ≤ p.f0 ∧ p.f0 ≤ 100 ∧ (Pc p.f3).2 = 0 ∧ (Pc p.f3).1 = p.f1), (some 1 : Option Int) = some (if chk p = true then 0 else 1) := fun h => by
    have : chk p = false := by unfold chk; rw [decide_eq_false h, Bool.false_and]
    rw [this, if_neg (by decide)]
  by_cases h1 : p.f0 < 1
  · rw [if_pos h1]; exact hno (by omega)
  · rw [if_neg h1]
    by_cases h2 : p.f0 > 100
    · rw [if_pos h2]; exact hno (by omega)
    · rw [if_neg h2]
      by_cases h3 : (Pc p.f3).2 = 0
      · rw [if_pos h3]
        by_cases h4 : (Pc p.f3).1 = p.f1
        · rw [if_pos h4, parts_Check.j0]
          have hc : chk p = D p.f2 := by unfold chk; rw [decide_eq_true ⟨by omega, by omega, h3, h4⟩, Bool.true_and]
          rw [hc]
          by_cases h5 : p.f2.size = 64
          · have e : ((p.f2.size : Int) != 64) = false := by simp [h5]
            rw [e, if_neg (by decide)]
            have hU : digest_Unhex.f p.f2 = some (Sha.unhexR (Sha.unhexL p.f2.data.toList)) := by
              show Sha.unhexF p.f2 = _
              unfold Sha.unhexF
              rw [if_pos (by omega)]
            rw [hU, Option.bind_some]
            have hi := unhex_some p.f2.data.toList (by rw [len_eq, h5])
            unfold D
            rw [← hi, decide_eq_true h5, Bool.and_true]
            cases Sha.unhexL p.f2.data.toList <;> rfl
          · have e : ((p.f2.size : Int) != 64) = true := by simpa using (show ¬ (p.f2.size : Int) = 64 by omega)
            rw [e, if_pos rfl]
            have : D p.f2 = false := by unfold D; rw [decide_eq_false h5, Bool.and_false]
            rw [this, if_neg (by decide)]
        · rw [if_neg h4]; exact hno (fun h => h4 h.2.2.2)
      · rw [if_neg h3]; exact hno (fun h => h3 h.2.2.1)
/-! ### Parts -/
structure Small (l : List Part) : Prop where
  len : l.length ≤ 1048576
  each : ∀ p ∈ l, SmallPart p
def okN : Option Int → Int → Bool
  | none, _ => true
  | some n, m => decide (n < m)
def rB : Option Int → List Part → Bool
  | _, [] => true
  | o, p :: r => chk p && okN o p.f0 && rB (some p.f0) r
def prev (l : List Part) (i : Nat) : Option Int := if i = 0 then none else some (rdP l (i - 1)).f0
theorem right_go (l : List Part) (hl : Small l) : ∀ n i k, i + n = l.length → n + 1049100 < k → parts_right.l0 k l l (l.length : Int) (i : Int) = some (rB (prev l i) (l.drop i)) := by
  intro n
  induction n with
  | zero =>
    intro i k hi hk
    obtain ⟨k, rfl⟩ : ∃ j, k = j + 1 := ⟨k - 1, by omega⟩
    rw [parts_right.l0, if_neg (by omega), List.drop_of_length_le (by omega)]
    rfl
  | succ n ih =>
    intro i k hi hk
    have hll := hl.len
    obtain ⟨k, rfl⟩ : ∃ j, k = j + 1 := ⟨k - 1, by omega⟩
    rw [parts_right.l0, if_pos (by omega), if_pos (by omega), if_pos (by omega), check_eq (rdP l i) (hl.each _ (memP l i (by omega))) k (by omega), Option.bind_some, dropP l i (by omega), rB, w1 i (by omega), ih (i + 1) k (by omega) (by omega)]
    have hp : prev l (i + 1) = some (rdP l i).f0 := by unfold prev; rw [if_neg (by omega)]; rfl
    rw [hp]
    cases hc : chk (rdP l i)
    · simp
    · simp only [if_true, Bool.true_and]
      by_cases h0 : i = 0
      · subst h0
        rw [if_neg (by omega)]
        simp [prev, okN]
      · obtain ⟨j, rfl⟩ : ∃ j, i = j + 1 := ⟨i - 1, by omega⟩
        have e : wrap64 (((j + 1 : Nat) : Int) - 1) = (j : Int) := by rw [IntWalk.wrap64_in _ (by omega)]; omega
        rw [if_pos (by omega), e, if_pos (by omega), if_pos (by omega)]
        have hp2 : prev l (j + 1) = some (rdP l j).f0 := by unfold prev; rw [if_neg (by omega)]; rfl
        rw [hp2]
        show (if (rdP l (j + 1)).f0 ≤ (rdP l j).f0 then _ else _) = some (decide ((rdP l j).f0 < (rdP l (j + 1)).f0) && _)
        by_cases h2 : (rdP l (j + 1)).f0 ≤ (rdP l j).f0
        · rw [if_pos h2, decide_eq_false (by omega), Bool.false_and]
        · rw [if_neg h2, decide_eq_true (by omega), Bool.true_and]
theorem right_eq (l : List Part) (hl : Small l) (k : Nat) (hk : 2200000 ≤ k) : parts_right.f k l = some (rB none l) := by
  have := hl.len
  exact right_go l hl l.length 0 k (by omega) (by omega)
theorem rB_lt : ∀ (l : List Part) (o : Option Int), rB o l = true → (∀ p ∈ l, chk p = true) ∧ l.Pairwise (fun x y => x.f0 < y.f0) ∧ ∀ n, o = some n → ∀ p ∈ l, n < p.f0
  | [], o, _ => ⟨fun p hp => absurd hp (by simp), List.Pairwise.nil, fun n _ p hp => absurd hp (by simp)⟩
  | p :: r, o, h => by
    rw [rB, Bool.and_eq_true, Bool.and_eq_true] at h
    obtain ⟨⟨h1, h2⟩, h3⟩ := h
    obtain ⟨i1, i2, i3⟩ := rB_lt r (some p.f0) h3
    refine ⟨fun q hq => ?_, List.Pairwise.cons (fun q hq => i3 _ rfl q hq) i2, fun n hn q hq => ?_⟩
    · rcases List.mem_cons.1 hq with rfl | hq
      · exact h1
      · exact i1 q hq
    · subst hn
      have h4 : n < p.f0 := by simpa [okN] using h2
      rcases List.mem_cons.1 hq with rfl | hq
      · exact h4
      · have := i3 _ rfl q hq
        omega
end Go.Proofs.YtoiockmmlanimaaDoor.Pure
end
section
/- Layer 14, the plain side: the search, what is put together, and the law's worked example. No program in sight. -/
namespace Go.Proofs.YtoiockmmlanimaaDoor.Pure
open Go.RowKit Go.Proofs.YtoiockmmlanimaaDoor.Oj Go.Proofs.YtoiockmmlanimaaDoorW.PrintWords Go.Proofs.YtoiockmmlanimaaDoorW.PrintLast Go.Proofs.YtoiockmmlanimaaDoorW.PrintMore
set_option linter.unusedVariables false
set_option linter.unusedSimpArgs false
/-! ### The search -/
structure Good (l : List Part) : Prop where
  small : Small l
  chk : ∀ p ∈ l, chk p = true
  asc : l.Pairwise (fun x y => x.f0 < y.f0)
theorem Good.of {l : List Part} (hs : Small l) (h : rB none l = true) : Good l := ⟨hs, (rB_lt l none h).1, (rB_lt l none h).2.1⟩
theorem chk_parts {p : Part} (h : chk p = true) : 1 ≤ p.f0 ∧ p.f0 ≤ 100 ∧ (Pc p.f3).2 = 0 ∧ (Pc p.f3).1 = p.f1 ∧ D p.f2 = true := by
  unfold chk at h
  rw [Bool.and_eq_true, decide_eq_true_eq] at h
  exact ⟨h.1.1, h.1.2.1, h.1.2.2.1, h.1.2.2.2, h.2⟩
theorem Good.lt {l : List Part} (h : Good l) (i j : Nat) (hij : i < j) (hj : j < l.length) : (rdP l i).f0 < (rdP l j).f0 := by
  have e : ∀ q, (hq : q < l.length) → rdP l q = l[q] := fun q hq => by
    show l.getD (q : Int).toNat _ = _
    rw [Int.toNat_natCast, List.getD_eq_getElem?_getD, List.getElem?_eq_getElem hq]
    rfl
  rw [e i (by omega), e j hj]
  exact List.pairwise_iff_getElem.1 h.asc i j (by omega) hj hij
theorem bs_spec (l : List Part) (h : Good l) (t : Int) (h1 : 1 ≤ t) (h2 : t ≤ 100) : ∀ n i j, i ≤ j → j ≤ l.length → j - i ≤ n → (∀ m, m < i → (rdP l m).f0 < t) → (∀ m, j ≤ m → m < l.length → t ≤ (rdP l m).f0) →
    parts_find_bs l t n i j ≤ l.length ∧ (∀ m, m < parts_find_bs l t n i j → (rdP l m).f0 < t) ∧ (∀ m, parts_find_bs l t n i j ≤ m → m < l.length → t ≤ (rdP l m).f0) := by
  intro n
  induction n with
  | zero =>
    intro i j hij hj hn hlo hhi
    rw [parts_find_bs]
    exact ⟨by omega, hlo, fun m hm => hhi m (by omega)⟩
  | succ n ih =>
    intro i j hij hj hn hlo hhi
    rw [parts_find_bs]
    by_cases hlt : i < j
    · rw [if_pos hlt]
      have hm : (i + j) / 2 < l.length := by omega
      have hc := chk_parts (h.chk _ (memP l ((i + j) / 2) hm))
      have hw : wrap64 ((rdP l ((i + j) / 2)).f0 - t) = (rdP l ((i + j) / 2)).f0 - t := IntWalk.wrap64_in _ (by omega)
      by_cases hb : wrap64 ((rdP l ((i + j) / 2)).f0 - t) < 0
      · rw [if_pos hb]
        rw [hw] at hb
        refine ih ((i + j) / 2 + 1) j (by omega) hj (by omega) (fun m hm2 => ?_) hhi
        rcases Nat.lt_or_ge m ((i + j) / 2) with h3 | h3
        · have := h.lt m _ h3 hm; omega
        · obtain rfl : m = (i + j) / 2 := by omega
          omega
      · rw [if_neg hb]
        rw [hw] at hb
        refine ih i ((i + j) / 2) (by omega) (by omega) (by omega) hlo (fun m hm2 hm3 => ?_)
        rcases Nat.lt_or_ge ((i + j) / 2) m with h3 | h3
        · have := h.lt _ m h3 hm3; omega
        · obtain rfl : m = (i + j) / 2 := by omega
          omega
    · rw [if_neg hlt]
      exact ⟨by omega, hlo, fun m hm => hhi m (by omega)⟩
def wf (n : Int) : Prop := -9223372036854775808 ≤ n ∧ n ≤ 9223372036854775807
theorem find_no (l : List Part) (h : Good l) (t : Int) (ht : wf t) (hn : ∀ p ∈ l, p.f0 ≠ t) : ∃ i, parts_find.f l t = some (i, false) := by
  have hll := h.small.len
  refine ⟨((parts_find_bs l t l.length 0 l.length : Nat) : Int), ?_⟩
  unfold parts_find.f
  rw [if_pos (by omega)]
  congr 2
  obtain ⟨R, hR⟩ : ∃ R, parts_find_bs l t l.length 0 l.length = R := ⟨_, rfl⟩
  rw [hR]
  by_cases hl : R < l.length
  · rw [decide_eq_true hl, Bool.true_and]
    have h1 := hn _ (memP l R hl)
    have hc := chk_parts (h.chk _ (memP l R hl))
    have h2 : wrap64 ((rdP l R).f0 - t) ≠ 0 := by
      unfold wrap64
      unfold wf at ht
      omega
    show (wrap64 ((rdP l R).f0 - t) == 0) = false
    simpa using h2
  · rw [decide_eq_false hl, Bool.false_and]
theorem find_yes (l : List Part) (h : Good l) (m : Nat) (hm : m < l.length) : parts_find.f l (rdP l m).f0 = some ((m : Int), true) := by
  have hll := h.small.len
  have hc := chk_parts (h.chk _ (memP l m hm))
  obtain ⟨b1, b2, b3⟩ := bs_spec l h (rdP l m).f0 hc.1 hc.2.1 l.length 0 l.length (Nat.zero_le _) (Nat.le_refl _) (Nat.le_refl _) (fun q hq => absurd hq (Nat.not_lt_zero _)) (fun q hq hq2 => absurd hq (by omega))
  have hR : parts_find_bs l (rdP l m).f0 l.length 0 l.length = m := by
    obtain ⟨R, hR⟩ : ∃ R, parts_find_bs l (rdP l m).f0 l.length 0 l.length = R := ⟨_, rfl⟩
    rw [hR] at b1 b2 b3 ⊢
    rcases Nat.lt_trichotomy m R with h3 | h3 | h3
    · have := b2 m h3; omega
    · exact h3.symm
    · have := b3 R (Nat.le_refl _) (by omega)
      have := h.lt R m h3 hm
      omega
  unfold parts_find.f
  rw [if_pos (by omega), hR, decide_eq_true hm, Bool.true_and]
  show some ((m : Int), wrap64 ((rdP l m).f0 - (rdP l m).f0) == 0) = _
  rw [Int.sub_self, show wrap64 0 = 0 from IntWalk.wrap64_in _ (by omega)]
  rfl
end Go.Proofs.YtoiockmmlanimaaDoor.Pure
end
