-- Written for this claim by hyb.py, a driver of this session's over the kit's printer.
import Derived.Test.YtfagmfmpiicggaaDoorHq0
import Derived.Test.YtfagmfmpiicggaaDoorHq9
import Derived.Lib.Hide
import Derived.IntWalk
import Derived.Deep.QuietTactic
import Derived.BigQuiet
import Derived.OwnWalkIn
import Derived.TacticsInMore
import Derived.LoopNIn
import Derived.LoopIn
import Derived.Shelf.Abstract
import Derived.Test.YtfagmfmpiicggaaDoorRange
import Derived.Test.YtfagmfmpiicggaaDoorShelf
import Derived.Test.YtfagmfmpiicggaaDoorQPercent
import Derived.Test.YtfagmfmpiicggaaDoorQSplit
namespace Go.Proofs.YtfagmfmpiicggaaDoor.Hq
open Go.RowKit Go.Proofs.YtfagmfmpiicggaaDoorW.PrintWords Go.Proofs.YtfagmfmpiicggaaDoorW.PrintLast Go.Proofs.YtfagmfmpiicggaaDoorW.PrintMore
attribute [local go_sem] max2_int min2_int max_two min_two max_three min_three max_four min_four   -- for this text's walks alone
set_option linter.unusedVariables false
set_option linter.unusedSimpArgs false

/-! ### EXT percent_Unquery: function 10 -/
open Go.Proofs.YtfagmfmpiicggaaDoor Go.Proofs.YtfagmfmpiicggaaDoor.RF
/-- One pair out of its text. -/
def percent_Unquery_pair (p : List UInt8) : Option (S24) :=
  if (Q.cutB 61 p).1 = [] then none else
    match Q.readL [35] true (Q.cutB 61 p).1, Q.readL [35] true (Q.cutB 61 p).2 with
    | some x, some y => some ⟨⟨x.toArray⟩, ⟨y.toArray⟩⟩
    | _, _ => none
def percent_Unquery_pairOf (A B : ByteArray) : Option (S24) :=
  if A.data.toList = [] then none else
    match Q.readL [35] true A.data.toList, Q.readL [35] true B.data.toList with
    | some x, some y => some ⟨⟨x.toArray⟩, ⟨y.toArray⟩⟩
    | _, _ => none
def percent_Unquery_all : List (List UInt8) → Option (List (S24))
  | [] => some []
  | p :: ps => match percent_Unquery_pair p with
    | none => none
    | some x => (percent_Unquery_all ps).map (x :: ·)
def percent_Unquery.f (a0 : ByteArray) : Option (List (S24) × Int) :=
  if a0.size ≤ 100000000 then (if a0.data.toList = [] then some ([], 0) else if 16 ≤ a0.data.toList.count 38 then some ([], 131) else match percent_Unquery_all (Q.splitL 38 a0.data.toList) with | none => some ([], 3) | some l => some (l, 0)) else none
attribute [local go_sem] Oper.semAt_some
def percent_Unquery_St (b0 : Nat) (A B : World) : Prop := ∃ v, B = A.setCell ⟨b0, 0, none⟩ v
def percent_Unquery_Kp (b0 : Nat) (A B : World) : Prop := ∀ k, b0 ≤ k → k < b0 + 3 → B.heap[k]? = A.heap[k]?
theorem percent_Unquery_Kp_box {b0 k t : Nat} {A B : World} {v : Value} (h : percent_Unquery_Kp b0 A B) (h1 : b0 ≤ k) (h2 : k < b0 + 3) (hb : Boxed A k t v) : Boxed B k t v := (h k h1 h2).trans hb
theorem percent_Unquery_boxb {W W' : World} {B t N : Nat} {v : Value} (h : Boxed W B t v) (hb : Below N W W') (hB : B < N) : Boxed W' B t v := (hb.block B hB).trans h
noncomputable def percent_Unquery_left (b0 : Nat) (W : World) : Nat := match W.cell? ⟨b0, 0, none⟩ with | some (.string s) => s.size | _ => 0
theorem percent_Unquery_left_eq {b0 : Nat} {W : World} {s : ByteArray} (h : Boxed W b0 9 (.string s)) : percent_Unquery_left b0 W = s.size := by
  unfold percent_Unquery_left; rw [h.cell]
abbrev percent_Unquery_Sub := { x : ByteArray // x.size ≤ 100000000 }
set_option maxRecDepth 100000 in
set_option maxHeartbeats 1000000 in
theorem percent_Unquery_seq (n : Nat) (hn : 2 ≤ n) (b0 : Nat) (c : UInt8) (t : ByteArray) (W : World) (ht : t.size ≤ 100000000) (hs : Boxed W b0 9 (.string t)) (hp : Boxed W (b0 + 1) 9 (.string ⟨#[c]⟩)) (hz : Boxed W (b0 + 2) 3 (.int .i64 0)) :
    SeqStopsS Fence.wide n Tryd.prog 50 #[.pointer (some ⟨b0 + 1, 0, none⟩), .pointer (some ⟨b0, 0, none⟩), .pointer (some ⟨b0 + 2, 0, none⟩)] (fun x : percent_Unquery_Sub => #[.string x.1]) (percent_Unquery_St b0) (percent_Unquery_Kp b0)
      (fun xs => xs.map (·.1.data.toList) = Q.splitL c t.data.toList) (fun pre => pre.map (·.1.data.toList) <+: Q.splitL c t.data.toList) (Q.splitL c t.data.toList).length W := fun l J Jx hJ hJx hY h0 => by
  refine callsIn_of_wp Tryd.func50 rfl trivial ?_ rfl
  simp only [Tryd.ntmps50, List.size_toArray, List.length_cons, List.length_nil, Nat.reduceAdd, Nat.reduceSub, Array.replicate_succ, Array.replicate_zero, List.push_toArray, List.append_toArray, List.nil_append, List.cons_append]
  have cp := hp.cell
  gi_wp2
  gi_loopw [7] (fun i wr => ∃ (pre : List percent_Unquery_Sub) (rest : ByteArray), Boxed wr b0 9 (.string rest) ∧ Boxed wr (b0 + 1) 9 (.string ⟨#[c]⟩) ∧ Boxed wr (b0 + 2) 3 (.int .i64 0) ∧ J pre wr ∧ Hid (pre.map (·.1.data.toList) ++ Q.splitL c rest.data.toList = Q.splitL c t.data.toList) ∧ rest.size ≤ t.size) (fun i wr => percent_Unquery_left b0 wr)
  case atStart => exact ⟨[], t, hs, hp, hz, h0, Lib.hid rfl, Nat.le_refl _⟩
  case round =>
    obtain ⟨pre, rest, bs, bp, bz, hJp, HS, hsz⟩ := hrel
    have cs := bs.cell
    have cp' := bp.cell
    have cz := bz.cell
    have fs := bs.frozen
    by_cases hi : Lib.indexByte rest.data.toList c < 0
    · have HE := Lib.hid (Q.splitL_none c rest.data.toList hi)
      have HL : Hid (pre.map (·.1.data.toList) ++ [rest.data.toList] = Q.splitL c t.data.toList) := Lib.hid (by rw [← HS.out, HE.out])
      obtain ⟨fn, tmps, assign, body, hy, hR⟩ := hY pre ⟨rest, by omega⟩ wr hJp (by rw [← HL.out]; simp)
      have hi1 : decide (Lib.indexByte rest.data.toList c < 0) = true := decide_eq_true hi
      clear hi
      gi_wp2
      refine ⟨trivial, fun _ => by omega, ?_⟩
      refine (callsIn_wide.2 (Tryd.strings_Index_one rest c _)).mono ?_
      rintro e w' ⟨rfl, rfl⟩
      gi_wp2
      refine ⟨fun _ => by omega, hR.mono ?_⟩
      rintro e W3 (⟨rfl, hJ3, hk3⟩ | ⟨rfl, hJx3⟩)
      · gi_wp2
        go_end0
        exact ⟨⟨_, rfl⟩, .inl ⟨pre ++ [⟨rest, by omega⟩], by rw [List.map_append]; exact HL.out, hJ3⟩⟩
      · gi_wp2
        go_end0
        exact ⟨⟨_, rfl⟩, .inr ⟨pre ++ [⟨rest, by omega⟩], by rw [List.map_append, ← HL.out]; exact List.prefix_refl _, hJx3⟩⟩
    · obtain ⟨m, hm⟩ : ∃ m : Nat, Lib.indexByte rest.data.toList c = (m : Int) := ⟨(Lib.indexByte rest.data.toList c).toNat, by omega⟩
      have hml : m < rest.size := by simpa using Q.indexByte_lt _ _ _ hm
      have HE := Lib.hid (Q.splitL_some c rest.data.toList m hm)
      obtain ⟨fn, tmps, assign, body, hy, hR⟩ := hY pre ⟨rest.extract 0 m, by simp; omega⟩ wr hJp (by rw [← HS.out, HE.out]; simp)
      clear hi
      have HM := Lib.hid hm
      clear hm
      gi_wp2
      refine ⟨trivial, fun _ => by omega, ?_⟩
      refine (callsIn_wide.2 (Tryd.strings_Index_one rest c _)).mono ?_
      rw [HM.out]
      rintro e w' ⟨rfl, rfl⟩
      gi_wp2
      refine ⟨fun _ => by omega, hR.mono ?_⟩
      rintro e W3 (⟨rfl, hJ3, hk3⟩ | ⟨rfl, hJx3⟩)
      · have bs3 := percent_Unquery_Kp_box hk3 (Nat.le_refl _) (by omega) bs
        have bp3 := percent_Unquery_Kp_box hk3 (by omega) (by omega) bp
        have bz3 := percent_Unquery_Kp_box hk3 (by omega) (by omega) bz
        have cs3 := bs3.cell
        have cp3 := bp3.cell
        have fs3 := bs3.frozen
        have hm1 : 0 ≤ (m : Int) + 1 := by omega
        have hm2 : (m : Int) + 1 ≤ rest.size := by omega
        gi_wp2
        refine ⟨⟨pre ++ [⟨rest.extract 0 m, by simp; omega⟩], rest.extract (m + 1) rest.size, bs3.set _, bp3.kept (grownBy_setCell' _ _ _) (by simp), bz3.kept (grownBy_setCell' _ _ _) (by simp), hJ _ _ _ hJ3 ⟨_, rfl⟩, Lib.hid ?_, ?_⟩, ?_⟩
        · rw [← HS.out, HE.out, List.map_append, List.append_assoc, Lib.extract_to_end]
          simp
        · simp
          omega
        · rw [percent_Unquery_left_eq (bs3.set _), percent_Unquery_left_eq bs]
          simp
          omega
      · gi_wp2
        refine bodyPost_ret (results_none rfl _ _ _) rfl ?_
        exact ⟨⟨_, rfl⟩, .inr ⟨pre ++ [⟨rest.extract 0 m, by simp; omega⟩], by rw [List.map_append, ← HS.out, HE.out]; exact (List.prefix_append_right_inj _).2 ⟨Q.splitL c (rest.data.toList.drop (m + 1)), by simp⟩, hJx3⟩⟩
set_option maxHeartbeats 1000000 in
theorem percent_Unquery_split (s : ByteArray) (c : UInt8) (w : World) :
    Calls Tryd.prog 25 #[.string s, .string ⟨#[c]⟩] w fun e w' => e = .returned (.func (.func 50) #[] #[.pointer (some ⟨w.heap.size + 1, 0, none⟩), .pointer (some ⟨w.heap.size, 0, none⟩), .pointer (some ⟨w.heap.size + 2, 0, none⟩)]) ∧ w' = ((w.alloc (.cells #[.string s] 9)).alloc (.cells #[.string ⟨#[c]⟩] 9)).alloc (.cells #[.int .i64 0] 3) := by
  go_enter Tryd.func25, Tryd.ntmps25
  go_wp2
  go_ret
  exact ⟨rfl, rfl⟩
theorem percent_Unquery_str (s : ByteArray) : (⟨s.data.toList.toArray⟩ : ByteArray) = s := by simp
theorem percent_Unquery_ext0 (s : ByteArray) (m : Nat) : s.extract 0 m = ⟨(s.data.toList.take m).toArray⟩ := by
  have := Lib.extract_data s 0 m
  simp only [List.drop_zero, Nat.sub_zero] at this
  rw [← this]
theorem percent_Unquery_extE (s : ByteArray) (a : Nat) : s.extract a s.size = ⟨(s.data.toList.drop a).toArray⟩ := by rw [← Lib.extract_to_end]
set_option maxHeartbeats 1000000 in
theorem percent_Unquery_cut1 (s : ByteArray) (c : UInt8) (w : World) (hs : s.size ≤ 100000000) :
    Calls Tryd.prog 39 #[.string s, .string ⟨#[c]⟩] w fun e w' => (∃ b, e = .returned (.tuple #[.string ⟨(Q.cutB c s.data.toList).1.toArray⟩, .string ⟨(Q.cutB c s.data.toList).2.toArray⟩, .bool b])) ∧ ∃ n, w' = w.drewN n := by
  by_cases hi : Lib.indexByte s.data.toList c < 0
  · have HC := Lib.hid (Q.cutB_none c s.data.toList hi)
    have hi1 : decide (0 ≤ Lib.indexByte s.data.toList c) = false := decide_eq_false (by omega)
    clear hi
    go_enter Tryd.func39, Tryd.ntmps39
    go_wp2_with (go_at_call 49; refine (Tryd.stringslite_Index_one s c _).mono ?_; rintro e w' ⟨rfl, rfl⟩)
    go_ret3
    exact ⟨⟨false, by rw [HC.out, percent_Unquery_str]; rfl⟩, 0, rfl⟩
  · obtain ⟨m, hm⟩ : ∃ m : Nat, Lib.indexByte s.data.toList c = (m : Int) := ⟨(Lib.indexByte s.data.toList c).toNat, by omega⟩
    have hml : m < s.size := by simpa using Q.indexByte_lt _ _ _ hm
    have HC := Lib.hid (Q.cutB_some c s.data.toList m hm)
    have hm1 : 0 ≤ (m : Int) + 1 := by omega
    have hm2 : (m : Int) + 1 ≤ s.size := by omega
    have hm3 : (m : Int) ≤ s.size := by omega
    have hm4 : m ≤ s.size := by omega
    have hm5 : m + 1 ≤ s.size := by omega
    have HM := Lib.hid hm
    clear hm hi
    go_enter Tryd.func39, Tryd.ntmps39
    go_wp2_with fail
    refine (Tryd.stringslite_Index_one s c _).mono ?_
    rw [HM.out]
    rintro e w' ⟨rfl, rfl⟩
    go_wp2
    have hwr : IntKind.i64.wrap ((m : Int) + 1) = (m : Int) + 1 := IntWalk.i64_in _ (by omega)
    have hnt : ((m : Int) + 1).toNat = m + 1 := by omega
    go_quiet (fail)
    clear hwr hnt
    go_wp2
    go_ret3
    exact ⟨⟨true, by show Ending.returned (.tuple #[.string (s.extract 0 m), .string (s.extract (m + 1) s.size), .bool true]) = _; rw [HC.out, percent_Unquery_ext0, percent_Unquery_extE]⟩, _, rfl⟩
set_option maxHeartbeats 1000000 in
theorem percent_Unquery_cut (s : ByteArray) (c : UInt8) (w : World) (hs : s.size ≤ 100000000) :
    Calls Tryd.prog 26 #[.string s, .string ⟨#[c]⟩] w fun e w' => (∃ b, e = .returned (.tuple #[.string ⟨(Q.cutB c s.data.toList).1.toArray⟩, .string ⟨(Q.cutB c s.data.toList).2.toArray⟩, .bool b])) ∧ ∃ n, w' = w.drewN n := by
  go_enter Tryd.func26, Tryd.ntmps26
  go_wp2_with (go_at_call 39; refine (percent_Unquery_cut1 s c _ hs).mono ?_; rintro e w' ⟨⟨b, rfl⟩, nd, rfl⟩)
  go_ret3
  exact ⟨⟨b, rfl⟩, _, rfl⟩
def percent_Unquery_cells (ys : List S24) : List Value := ys.flatMap fun y => [.string y.f0, .string y.f1]
theorem percent_Unquery_cells_length (ys : List S24) : (percent_Unquery_cells ys).length = ys.length * 2 := by
  induction ys with
  | nil => rfl
  | cons y ys ih => simp only [percent_Unquery_cells, List.flatMap_cons, List.length_append, List.length_cons, List.length_nil] at ih ⊢; rw [ih]; omega
theorem percent_Unquery_cells_snoc (ys : List S24) (y : S24) : percent_Unquery_cells (ys ++ [y]) = percent_Unquery_cells ys ++ [.string y.f0, .string y.f1] := by simp [percent_Unquery_cells]
theorem percent_Unquery_reps (w : World) (base : Nat) (ok : Nat → Prop) : ∀ ys : List S24, Reps (k24.M w base ok) 2 ys (percent_Unquery_cells ys) := by
  intro ys
  have H : ∀ zs : List S24, ∀ ys : List S24, Reps (k24.M w base ok) 2 ys (percent_Unquery_cells ys) → Reps (k24.M w base ok) 2 (ys ++ zs) (percent_Unquery_cells (ys ++ zs)) := by
    intro zs
    induction zs with
    | nil => intro ys h; simpa using h
    | cons z zs ih =>
      intro ys h
      have h1 := ih (ys ++ [z]) (by rw [percent_Unquery_cells_snoc]; exact h.snoc (k24_mkM _ _ _ z) rfl)
      simpa using h1
  simpa using H ys [] (Reps.none _ _)
theorem percent_Unquery_row {w : World} {base : Nat} {v : Value} {ys : List S24} (h : w.ownsRow base 24 2 v ys.length (percent_Unquery_cells ys)) : Kd.R k24 24 w base (fun _ => True) v ys :=
  ⟨fun _ _ => trivial, _, h, percent_Unquery_reps _ _ _ ys⟩
def percent_Unquery_I (N : Nat) (w0 : World) (pre : List percent_Unquery_Sub) (W : World) : Prop :=
  ∃ v ys s, percent_Unquery_all (pre.map (·.1.data.toList)) = some ys ∧ Boxed W (N + 1 + 1) 22 v ∧ W.ownsRow N 24 2 v ys.length (percent_Unquery_cells ys) ∧ Boxed W N 22 (.slice none 0 0) ∧ Boxed W (N + 1) 26 (.int .i64 0) ∧
    Boxed W (N + 1 + 1 + 1) 9 s ∧ Boxed W (N + 1 + 1 + 1 + 1) 9 (.string ⟨#[38]⟩) ∧ Boxed W (N + 1 + 1 + 1 + 2) 3 (.int .i64 0) ∧ Below N w0 W
def percent_Unquery_Ix (N : Nat) (w0 : World) (c : Code) (pre : List percent_Unquery_Sub) (W : World) : Prop :=
  c = .ret ∧ percent_Unquery_all (pre.map (·.1.data.toList)) = none ∧ Boxed W N 22 (.slice none 0 0) ∧ Boxed W (N + 1) 26 (.int .i64 3) ∧ Below N w0 W ∧ N + 1 + 1 + 1 < W.heap.size
theorem percent_Unquery_box_from {W W' : World} {B b t : Nat} {v : Value} {row : Option Nat} (h : Boxed W b t v) (hg : W.grownBy W' row) (hr : ∀ r, row = some r → B ≤ r ∧ ∃ o : Obj, W.heap[r]? = some o ∧ o.isCells = false) : Boxed W' b t v :=
  h.kept hg (fun e => by
    obtain ⟨_, o, ho, hc⟩ := hr _ e.symm
    rw [show W.heap[b]? = _ from h] at ho
    cases ho
    cases hc)
theorem percent_Unquery_row_from {W W' : World} {B base n : Nat} {v : Value} {xs : List Value} {row : Option Nat} (h : W.ownsRow base 24 2 v n xs) (hg : W.grownBy W' row) (hr : ∀ r, row = some r → B ≤ r ∧ ∃ o : Obj, W.heap[r]? = some o ∧ o.isCells = false) : W'.ownsRow base 24 2 v n xs := by
  refine h.kept hg ?_
  cases hk : v.ownBlock with
  | none => exact .inl rfl
  | some k =>
    refine .inr (fun e => ?_)
    obtain ⟨_, o, ho, hc⟩ := hr k e.symm
    obtain ⟨cells, hcells⟩ := own_typed h k hk
    rw [hcells] at ho
    cases ho
    cases hc
theorem percent_Unquery_I_from {N B : Nat} {w0 : World} (hN : N ≤ w0.heap.size) (hB : N ≤ B) : OwnFrom B (percent_Unquery_I N w0) := by
  rintro pre W W' row ⟨v, ys, s, h1, h2, h3, h4, h5, h6, h7, h8, h9⟩ hg hr
  exact ⟨v, ys, s, h1, percent_Unquery_box_from h2 hg hr, percent_Unquery_row_from h3 hg hr, percent_Unquery_box_from h4 hg hr, percent_Unquery_box_from h5 hg hr, percent_Unquery_box_from h6 hg hr, percent_Unquery_box_from h7 hg hr, percent_Unquery_box_from h8 hg hr, h9.grown hg (Nat.le_trans hN h9.size) (fun k e => Nat.le_trans hB (hr k e).1)⟩
theorem percent_Unquery_Ix_from {N B : Nat} {w0 : World} (hN : N ≤ w0.heap.size) (hB : N ≤ B) (c : Code) : OwnFrom B (percent_Unquery_Ix N w0 c) := by
  rintro pre W W' row ⟨h0, h1, h2, h3, h4, h5⟩ hg hr
  exact ⟨h0, h1, percent_Unquery_box_from h2 hg hr, percent_Unquery_box_from h3 hg hr, h4.grown hg (Nat.le_trans hN h4.size) (fun k e => Nat.le_trans hB (hr k e).1), Nat.lt_of_lt_of_le h5 hg.size⟩
theorem percent_Unquery_I_st {N : Nat} {w0 : World} (pre : List percent_Unquery_Sub) (A B : World) (h : percent_Unquery_I N w0 pre A) (hs : percent_Unquery_St (N + 1 + 1 + 1) A B) : percent_Unquery_I N w0 pre B := by
  obtain ⟨v, ys, s, h1, h2, h3, h4, h5, h6, h7, h8, h9⟩ := h
  obtain ⟨u, rfl⟩ := hs
  exact ⟨v, ys, u, h1, h2.other (by omega) u, h3.kept (grownBy_setCell' _ _ _) (.inr (h6.not_row (by decide) h3).symm), h4.other (by omega) u, h5.other (by omega) u, h6.set u, h7.other (by omega) u, h8.other (by omega) u, h9.setCell (p := ⟨N + 1 + 1 + 1, 0, none⟩) (by simp; omega) u⟩
theorem percent_Unquery_Ix_st {N : Nat} {w0 : World} (c : Code) (pre : List percent_Unquery_Sub) (A B : World) (h : percent_Unquery_Ix N w0 c pre A) (hs : percent_Unquery_St (N + 1 + 1 + 1) A B) : percent_Unquery_Ix N w0 c pre B := by
  obtain ⟨h0, h1, h2, h3, h4, h5⟩ := h
  obtain ⟨u, rfl⟩ := hs
  exact ⟨h0, h1, h2.other (by omega) u, h3.other (by omega) u, h4.setCell (p := ⟨N + 1 + 1 + 1, 0, none⟩) (by simp; omega) u, by simpa [World.setCell] using h5⟩
theorem percent_Unquery_read_none (s : ByteArray) (w : World) (hs : s.size ≤ 100000000) (h : Q.readL [35] true s.data.toList = none) :
    Calls Tryd.prog 27 #[.string s, .string ⟨#[35]⟩, .bool true] w fun e w' => e = .returned (.tuple #[.string ⟨#[]⟩, .bool false]) ∧ Below w.heap.size w w' :=
  percent_read.calls s ⟨#[35]⟩ true _ _ w (by
    unfold percent_read.f
    rw [if_pos (by omega), show (⟨#[35]⟩ : ByteArray).data.toList = [35] from rfl, h])
theorem percent_Unquery_read_some (s : ByteArray) (w : World) (l : List UInt8) (hs : s.size ≤ 100000000) (h : Q.readL [35] true s.data.toList = some l) :
    Calls Tryd.prog 27 #[.string s, .string ⟨#[35]⟩, .bool true] w fun e w' => e = .returned (.tuple #[.string ⟨l.toArray⟩, .bool true]) ∧ Below w.heap.size w w' :=
  percent_read.calls s ⟨#[35]⟩ true _ _ w (by
    unfold percent_read.f
    rw [if_pos (by omega), show (⟨#[35]⟩ : ByteArray).data.toList = [35] from rfl, h])
theorem percent_Unquery_read_any (s : ByteArray) (w : World) (o : Option (List UInt8)) (hs : s.size ≤ 100000000) (h : Q.readL [35] true s.data.toList = o) :
    Calls Tryd.prog 27 #[.string s, .string ⟨#[35]⟩, .bool true] w fun e w' => e = .returned (.tuple #[.string ⟨(o.getD []).toArray⟩, .bool o.isSome]) ∧ Below w.heap.size w w' := by
  cases o with
  | none => exact percent_Unquery_read_none s w hs h
  | some l => exact percent_Unquery_read_some s w l hs h
theorem percent_Unquery_below_drewN (w : World) (n : Nat) : Below w.heap.size w (w.drewN n) := ⟨rfl, rfl, rfl, Nat.le_refl _, fun _ _ => rfl⟩
theorem percent_Unquery_all_snoc_none (ps qs : List (List UInt8)) (p : List UInt8) (h : percent_Unquery_pair p = none) : percent_Unquery_all (ps ++ p :: qs) = none := by
  induction ps with
  | nil => simp [percent_Unquery_all, h]
  | cons q ps ih =>
    simp only [List.cons_append, percent_Unquery_all]
    cases percent_Unquery_pair q with
    | none => rfl
    | some y => simp [ih]
theorem percent_Unquery_all_snoc_some (ps : List (List UInt8)) (p : List UInt8) (ys : List S24) (y : S24) (h1 : percent_Unquery_all ps = some ys) (h : percent_Unquery_pair p = some y) : percent_Unquery_all (ps ++ [p]) = some (ys ++ [y]) := by
  induction ps generalizing ys with
  | nil => simp [percent_Unquery_all] at h1; subst h1; simp [percent_Unquery_all, h]
  | cons q ps ih =>
    simp only [List.cons_append, percent_Unquery_all] at h1 ⊢
    cases hq : percent_Unquery_pair q with
    | none => rw [hq] at h1; cases h1
    | some z =>
      rw [hq] at h1
      obtain ⟨zs, hz, rfl⟩ := Option.map_eq_some_iff.1 h1
      simp [ih zs hz]
theorem percent_Unquery_all_length (ps : List (List UInt8)) (ys : List S24) (h : percent_Unquery_all ps = some ys) : ys.length = ps.length := by
  induction ps generalizing ys with
  | nil => simp [percent_Unquery_all] at h; subst h; rfl
  | cons q ps ih =>
    simp only [percent_Unquery_all] at h
    cases hq : percent_Unquery_pair q with
    | none => rw [hq] at h; cases h
    | some z =>
      rw [hq] at h
      obtain ⟨zs, hz, rfl⟩ := Option.map_eq_some_iff.1 h
      simp [ih zs hz]
theorem percent_Unquery_all_prefix (ps qs : List (List UInt8)) (hp : ps <+: qs) (h : percent_Unquery_all ps = none) : percent_Unquery_all qs = none := by
  obtain ⟨rs, rfl⟩ := hp
  induction ps with
  | nil => simp [percent_Unquery_all] at h
  | cons q ps ih =>
    simp only [List.cons_append, percent_Unquery_all] at h ⊢
    cases hq : percent_Unquery_pair q with
    | none => rfl
    | some z =>
      rw [hq] at h
      simp only at h ⊢
      have : percent_Unquery_all ps = none := by
        cases ha : percent_Unquery_all ps with
        | none => rfl
        | some y => rw [ha] at h; cases h
      rw [ih this]; rfl
theorem percent_Unquery_kp_below {b0 : Nat} {A B : World} (h : Below A.heap.size A B) (hb : b0 + 3 ≤ A.heap.size) : percent_Unquery_Kp b0 A B := fun k _ h2 => h.block k (by omega)
def percent_Unquery_post (w : World) (o : Option (List S24)) (e : Ending) (w' : World) : Prop :=
  ∃ v0_ : Value, (match o with | none => e = .returned (.tuple #[v0_, .int .i64 3]) ∧ Kd.R k24 24 w' w.heap.size (fun _ => True) v0_ [] | some l => e = .returned (.tuple #[v0_, .int .i64 0]) ∧ Kd.R k24 24 w' w.heap.size (fun _ => True) v0_ l) ∧ Below w.heap.size w w'
set_option maxRecDepth 100000 in
set_option maxHeartbeats 4000000 in
theorem percent_Unquery_walk (t : ByteArray) (w : World) (ht : t.size ≤ 100000000) (hne : t.data.toList ≠ []) (hcnt : t.data.toList.count 38 < 16) :
    Calls Tryd.prog 10 #[.string t] w (percent_Unquery_post w (percent_Unquery_all (Q.splitL 38 t.data.toList))) := by
  refine (callsIn_wide (n := 6)).1 ?_
  refine callsIn_of_wp_marks Tryd.func10 rfl trivial ?_ rfl
  simp only [Tryd.ntmps10, List.size_toArray, List.length_cons, List.length_nil, Nat.reduceAdd, Nat.reduceSub, Array.replicate_succ, Array.replicate_zero, List.push_toArray, List.append_toArray, List.nil_append, List.cons_append]
  have hne1 : (t.toList == []) = false := by rw [ByteArray.toList_eq]; simpa using hne
  have hct : decide (16 ≤ ((Lib.countByte t.data.toList 38 : Nat) : Int)) = false := decide_eq_false (by unfold Lib.countByte; omega)
  gi_wp2
  refine ⟨trivial, ?_⟩
  refine (callsIn_wide.2 (Tryd.strings_Count_one t 38 _)).mono ?_
  rintro e w' ⟨rfl, rfl⟩
  gi_wp2
  refine ⟨trivial, ?_⟩
  refine (callsIn_wide.2 (percent_Unquery_split t 38 _)).mono ?_
  rintro e w' ⟨rfl, rfl⟩
  gi_wp2
  have q0 : Boxed (((((((w.alloc (.cells #[.slice none 0 0] 22)).alloc (.cells #[.int .i64 0] 26)).alloc (.cells #[.slice none 0 0] 22)).alloc (.cells #[.string t] 9)).alloc (.cells #[.string ⟨#[38]⟩] 9)).alloc (.cells #[.int .i64 0] 3))) w.heap.size 22 (.slice none 0 0) := (((((Boxed.new w _ _).alloc _).alloc _).alloc _).alloc _).alloc _
  have q1 := ((((Boxed.new (w.alloc (.cells #[.slice none 0 0] 22)) 26 (.int .i64 0)).alloc (.cells #[.slice none 0 0] 22)).alloc (.cells #[.string t] 9)).alloc (.cells #[.string ⟨#[38]⟩] 9)).alloc (.cells #[.int .i64 0] 3)
  have q2 := (((Boxed.new ((w.alloc (.cells #[.slice none 0 0] 22)).alloc (.cells #[.int .i64 0] 26)) 22 (.slice none 0 0)).alloc (.cells #[.string t] 9)).alloc (.cells #[.string ⟨#[38]⟩] 9)).alloc (.cells #[.int .i64 0] 3)
  have q3 := ((Boxed.new (((w.alloc (.cells #[.slice none 0 0] 22)).alloc (.cells #[.int .i64 0] 26)).alloc (.cells #[.slice none 0 0] 22)) 9 (.string t)).alloc (.cells #[.string ⟨#[38]⟩] 9)).alloc (.cells #[.int .i64 0] 3)
  have q4 := (Boxed.new ((((w.alloc (.cells #[.slice none 0 0] 22)).alloc (.cells #[.int .i64 0] 26)).alloc (.cells #[.slice none 0 0] 22)).alloc (.cells #[.string t] 9)) 9 (.string ⟨#[38]⟩)).alloc (.cells #[.int .i64 0] 3)
  have q5 := Boxed.new (((((w.alloc (.cells #[.slice none 0 0] 22)).alloc (.cells #[.int .i64 0] 26)).alloc (.cells #[.slice none 0 0] 22)).alloc (.cells #[.string t] 9)).alloc (.cells #[.string ⟨#[38]⟩] 9)) 3 (.int .i64 0)
  simp only [World.size_alloc] at q1 q2 q3 q4 q5
  have hB0 : Below w.heap.size w (((((((w.alloc (.cells #[.slice none 0 0] 22)).alloc (.cells #[.int .i64 0] 26)).alloc (.cells #[.slice none 0 0] 22)).alloc (.cells #[.string t] 9)).alloc (.cells #[.string ⟨#[38]⟩] 9)).alloc (.cells #[.int .i64 0] 3))) := ((((((Below.refl _ w).alloc (Nat.le_refl _) _).alloc (by simp) _).alloc (by simp; omega) _).alloc (by simp; omega) _).alloc (by simp; omega) _).alloc (by simp; omega) _
  have hsz : (((((((w.alloc (.cells #[.slice none 0 0] 22)).alloc (.cells #[.int .i64 0] 26)).alloc (.cells #[.slice none 0 0] 22)).alloc (.cells #[.string t] 9)).alloc (.cells #[.string ⟨#[38]⟩] 9)).alloc (.cells #[.int .i64 0] 3))).heap.size = w.heap.size + 6 := by simp
  obtain ⟨W0, hW0⟩ : ∃ W0, (((((((w.alloc (.cells #[.slice none 0 0] 22)).alloc (.cells #[.int .i64 0] 26)).alloc (.cells #[.slice none 0 0] 22)).alloc (.cells #[.string t] 9)).alloc (.cells #[.string ⟨#[38]⟩] 9)).alloc (.cells #[.int .i64 0] 3))) = W0 := ⟨_, rfl⟩
  rw [hW0] at q0 q1 q2 q3 q4 q5 hB0 hsz ⊢
  clear hW0
  refine wpIn_rangeFunc_ownS (α := percent_Unquery_Sub) rfl (by omega) (gf := 50) rfl trivial (enters_of Tryd.func50 (by kernel_rfl) rfl)
    (fun W hW => percent_Unquery_seq 5 (by omega) (w.heap.size + 1 + 1 + 1) 38 t W ht (percent_Unquery_boxb q3 hW (by omega)) (percent_Unquery_boxb q4 hW (by omega)) (percent_Unquery_boxb q5 hW (by omega)))
    (fun {A B} hs k hk => by obtain ⟨u, rfl⟩ := hs; exact Below.heap_setCell _ _ _ k (by simp; omega))
    (fun {A B C} h1 h2 k hk hk' => (h2 k hk hk').trans (h1 k hk hk'))
    (fun W l o' hl k hk hk' => World.putObj_heap_other (by omega)) (fun _ => rfl)
    (percent_Unquery_I w.heap.size w) (percent_Unquery_Ix w.heap.size w) (percent_Unquery_I_from (Nat.le_refl _) (by omega)) (percent_Unquery_Ix_from (Nat.le_refl _) (by omega)) percent_Unquery_I_st percent_Unquery_Ix_st
    ⟨_, [], _, rfl, q2, World.ownsRow_nil _ _ _ _, q0, q1, q3, q4, q5, hB0⟩
    (fun x => { tmps := #[.string t, undef, .pointer (some ⟨w.heap.size, 0, none⟩), .pointer (some ⟨w.heap.size + 1, 0, none⟩), .pointer (some ⟨w.heap.size + 1 + 1, 0, none⟩), .string x.1, undef, undef, undef, undef, undef, undef, undef, .string t, .bool false, .string t, .int .i64 (Lib.countByte t.data.toList 38 : Nat), .bool false, .string t, .func (.func 50) #[] #[.pointer (some ⟨w.heap.size + 1 + 1 + 1 + 1, 0, none⟩), .pointer (some ⟨w.heap.size + 1 + 1 + 1, 0, none⟩), .pointer (some ⟨w.heap.size + 1 + 1 + 1 + 2, 0, none⟩)], .string x.1, undef, undef, undef, undef, undef, undef, undef, undef, undef, undef, undef, undef, undef, undef, undef, undef, undef, undef, undef, undef, undef, undef, undef, undef, undef, undef, undef, undef, undef, undef, undef, undef, undef], defers := [] }) ?assign ?body ?done ?stop
  case assign =>
    intro l x W K hK
    gi_wp2
    exact hK
  case body =>
    rintro l pre ⟨x, hx⟩ W hI hlen
    have cx : (⟨#[61]⟩ : ByteArray).size = 1 := rfl
    have hnW : w.heap.size ≤ W.heap.size := by obtain ⟨_, _, _, _, _, _, _, _, _, _, _, h9⟩ := hI; exact h9.size
    gi_wp2
    refine ⟨trivial, ?_⟩
    refine (CallsIn.inRound l (callsIn_wide.2 (percent_Unquery_cut x 61 _ hx))).mono ?_
    rintro e w' ⟨⟨b, rfl⟩, nd, rfl⟩
    have hlA := (Q.cutB_length 61 x.data.toList).1
    have hlB := (Q.cutB_length 61 x.data.toList).2
    have HP : percent_Unquery_pair x.data.toList = percent_Unquery_pairOf ⟨(Q.cutB 61 x.data.toList).1.toArray⟩ ⟨(Q.cutB 61 x.data.toList).2.toArray⟩ := rfl
    obtain ⟨A, hA⟩ : ∃ A : ByteArray, (⟨(Q.cutB 61 x.data.toList).1.toArray⟩ : ByteArray) = A := ⟨_, rfl⟩
    obtain ⟨B, hB⟩ : ∃ B : ByteArray, (⟨(Q.cutB 61 x.data.toList).2.toArray⟩ : ByteArray) = B := ⟨_, rfl⟩
    have hAs : A.size ≤ 100000000 := by rw [← hA]; simp only [ByteArray.size, List.size_toArray] at hx ⊢; rw [Array.length_toList] at hlA; omega
    have hBs : B.size ≤ 100000000 := by rw [← hB]; simp only [ByteArray.size, List.size_toArray] at hx ⊢; rw [Array.length_toList] at hlB; omega
    rw [hA, hB] at HP ⊢
    clear hA hB hlA hlB
    obtain ⟨oa, hoa⟩ : ∃ oa, Q.readL [35] true A.data.toList = oa := ⟨_, rfl⟩
    obtain ⟨ob, hob⟩ : ∃ ob, Q.readL [35] true B.data.toList = ob := ⟨_, rfl⟩
    unfold percent_Unquery_pairOf at HP
    rw [hoa, hob] at HP
    have HP := Lib.hid HP
    gi_wp2
    refine ⟨trivial, ?_⟩
    refine (CallsIn.inRound l (callsIn_wide.2 (percent_Unquery_read_any A _ oa hAs hoa))).mono ?_
    rintro e w2 ⟨rfl, hb2⟩
    gi_wp2
    refine ⟨trivial, ?_⟩
    refine (CallsIn.inRound l (callsIn_wide.2 (percent_Unquery_read_any B _ ob hBs hob))).mono ?_
    rintro e w3 ⟨rfl, hb3⟩
    clear hoa hob
    have hb : Below W.heap.size W w3 := (Below.mono (Below.trans (percent_Unquery_below_drewN W nd) hb2) (by simp)).trans (Below.mono hb3 (by have := hb2.size; simp at this ⊢; omega))
    clear hb2 hb3
    have hK3 := KeepsOthers.of_grownBy (grown_of_below hb none) (by simp)
    have hI3 : percent_Unquery_I w.heap.size w pre w3 := percent_Unquery_I_from (Nat.le_refl _) (Nat.le_refl _) pre W w3 none hI (grown_of_below hb none) (by simp)
    have hs6 : w.heap.size + 1 + 1 + 1 + 3 ≤ W.heap.size := by
      obtain ⟨_, _, _, _, _, _, _, _, _, _, h8, _⟩ := hI
      have := (Array.getElem?_eq_some_iff.1 h8).1
      omega
    have hKp := percent_Unquery_kp_below hb hs6
    obtain ⟨v, ys, s, h1, h2, h3, h4, h5, h6, h7, h8, h9⟩ := hI3
    have c2 := h2.cell
    have c0 := h4.cell
    have f0 := h4.frozen
    have c1 := h5.cell
    have f1 := h5.frozen
    have f2 := h2.frozen
    have hfail : percent_Unquery_pair x.data.toList = none → ∀ a : Act, ownPostK (percent_Unquery_Kp (w.heap.size + 1 + 1 + 1)) (percent_Unquery_I w.heap.size w) (percent_Unquery_Ix w.heap.size w) (pre ++ [⟨x, hx⟩]) W .ret a ((w3.setCell ⟨w.heap.size, 0, none⟩ (.slice none 0 0)).setCell ⟨w.heap.size + 1, 0, none⟩ (.int .i64 3)) := fun hp a =>
      ⟨(hK3.trans (KeepsOthers.setCell _ _ _)).trans (KeepsOthers.setCell _ _ _), rfl, by rw [List.map_append]; exact percent_Unquery_all_snoc_none _ [] _ hp,
        (h4.set _).other (by omega) _, (h5.other (by omega) _).set _, (h9.setCell (p := ⟨w.heap.size, 0, none⟩) (by simp) _).setCell (p := ⟨w.heap.size + 1, 0, none⟩) (by simp) _,
        by have := hb.size; simp [World.setCell]; omega⟩
    by_cases he : A.data.toList = []
    · have ht : (A.toList == []) = true := by rw [ByteArray.toList_eq, he]; rfl
      have hF := hfail (by rw [HP.out, if_pos he])
      clear he hfail
      gi_wp2
      exact hF _
    · have ht : (A.toList == []) = false := by rw [ByteArray.toList_eq]; simpa using he
      cases oa with
      | none =>
        have hF := hfail (by rw [HP.out, if_neg he])
        clear he hfail
        simp only [Option.isSome_none]
        gi_wp2
      | some la =>
        cases ob with
        | none =>
          have hF := hfail (by rw [HP.out, if_neg he])
          clear he hfail
          simp only [Option.isSome_none, Option.isSome_some]
          gi_wp2
        | some lb =>
          have hpair : Hid (percent_Unquery_pair x.data.toList = some ⟨⟨la.toArray⟩, ⟨lb.toArray⟩⟩) := Lib.hid (by rw [HP.out, if_neg he])
          clear he hfail
          simp only [Option.isSome_some, Option.getD_some]
          have hyl := percent_Unquery_all_length _ _ h1
          rw [List.length_map] at hyl
          rw [Q.splitL_length] at hlen
          obtain ⟨i0, hi, hz0, hz1, hz2⟩ : ∃ i0, Tryd.prog.info? 24 = some i0 ∧ i0.zero = some (.agg #[(.string ⟨#[]⟩), (.string ⟨#[]⟩)]) ∧ i0.size = 2 ∧ i0.bytes = 32 := by
            have h := info24
            cases hq : Tryd.prog.info? 24 with
            | none => rw [hq] at h; cases h
            | some i0 => rw [hq] at h; simp at h; exact ⟨i0, rfl, h.1, h.2.1, h.2.2⟩
          gi_wp2_with (first
            | (gi_at_builtin; refine wpListIn_append_own _ rfl _ _ 22 rfl w.heap.size 24 i0 _ 2 32 Tryd.underlying22 hi hz0 hz1 hz2 rfl (by decide) _ _ _ rfl (h3.alloc _) ⟨w3.heap.size, 0, none⟩ 1 1 [.string ⟨la.toArray⟩, .string ⟨lb.toArray⟩] rfl rfl ?c1 ?c2 ?c3 ?c4 ?c5 ?_)
            | gi_in)
          case c2 => exact ⟨rfl, rfl⟩
          case c3 => unfold maxLen; omega
          case c4 => omega
          case c5 => have := h9.size; simp; omega
          intro v' w4 hown' hgrow _
          obtain ⟨ao', n'', cap', rfl⟩ : ∃ ao n cap, v' = .slice ao n cap := by
            rcases hown'.2 with ⟨hv, _⟩ | ⟨g, cap, cur, hv, _⟩
            · exact ⟨_, _, _, hv⟩
            · exact ⟨_, _, _, hv⟩
          obtain ⟨b2, b2', hrow', hK4, hb4⟩ := Boxed.appended h2 (by decide) h3 h9.size (by omega) hown' hgrow
          have d2 := b2.cell
          have g2 := b2.frozen
          have b0 := ((h4.alloc _).kept hgrow (h4.not_row (by decide) h3)).other (B' := w.heap.size + 1 + 1) (by omega) (.slice ao' n'' cap')
          have b1 := ((h5.alloc _).kept hgrow (h5.not_row (by decide) h3)).other (B' := w.heap.size + 1 + 1) (by omega) (.slice ao' n'' cap')
          have b6 := ((h6.alloc _).kept hgrow (h6.not_row (by decide) h3)).other (B' := w.heap.size + 1 + 1) (by omega) (.slice ao' n'' cap')
          have b7 := ((h7.alloc _).kept hgrow (h7.not_row (by decide) h3)).other (B' := w.heap.size + 1 + 1) (by omega) (.slice ao' n'' cap')
          have b8 := ((h8.alloc _).kept hgrow (h8.not_row (by decide) h3)).other (B' := w.heap.size + 1 + 1) (by omega) (.slice ao' n'' cap')
          have HI : percent_Unquery_I w.heap.size w (pre ++ [⟨x, hx⟩]) (w4.setCell ⟨w.heap.size + 1 + 1, 0, none⟩ (.slice ao' n'' cap')) :=
            ⟨(.slice ao' n'' cap'), ys ++ [⟨⟨la.toArray⟩, ⟨lb.toArray⟩⟩], s, by rw [List.map_append]; exact percent_Unquery_all_snoc_some _ _ _ _ h1 hpair.out, b2', by rw [percent_Unquery_cells_snoc, List.length_append, hyl]; exact hrow', b0, b1, b6, b7, b8, h9.trans hb4⟩
          have HK : percent_Unquery_Kp (w.heap.size + 1 + 1 + 1) W (w4.setCell ⟨w.heap.size + 1 + 1, 0, none⟩ (.slice ao' n'' cap')) := by
            intro k hk1 hk2
            refine Eq.trans ?_ (hKp k hk1 hk2)
            obtain rfl | rfl | rfl : k = w.heap.size + 1 + 1 + 1 ∨ k = w.heap.size + 1 + 1 + 1 + 1 ∨ k = w.heap.size + 1 + 1 + 1 + 2 := by omega
            · exact Eq.trans b6 (Eq.symm h6)
            · exact Eq.trans b7 (Eq.symm h7)
            · exact Eq.trans b8 (Eq.symm h8)
          have HT := hK3.trans hK4
          clear hI hKp
          gi_wp2
          exact ⟨HT, HK, HI⟩
  case done =>
    rintro D xs W hD hS ⟨v, ys, s, h1, h2, h3, h4, h5, h6, h7, h8, h9⟩ hK
    have c2 := h2.cell
    have c0 := h4.cell
    have f0 := h4.frozen
    have c1 := h5.cell
    have f1 := h5.frozen
    obtain ⟨ao, n', cap, rfl⟩ : ∃ ao n' cap, v = .slice ao n' cap := by
      rcases h3.2 with ⟨hv, _⟩ | ⟨g, cap, cur, hv, _⟩
      · exact ⟨_, _, _, hv⟩
      · exact ⟨_, _, _, hv⟩
    rw [hS] at h1
    have HA := Lib.hid h1
    clear h1
    gi_wp2
    have hK2 := ((KeepsOthers.setCell W ⟨w.heap.size, 0, none⟩ (.slice ao n' cap)).trans (KeepsOthers.setCell _ ⟨w.heap.size + 1, 0, none⟩ (.int .i64 0))).same D _ hK rfl
    refine ⟨by simp, .inl ⟨_, _, rfl, run_takeDeferred hK2, ?_⟩⟩
    have r0 := ((h4.set (.slice ao n' cap)).other (B' := w.heap.size + 1) (by omega) (.int .i64 0)).kept (grownBy_putObj' _ D (.deferred none)) (by simp; omega)
    have r1 := ((h5.other (B' := w.heap.size) (by omega) (.slice ao n' cap)).set (.int .i64 0)).kept (grownBy_putObj' _ D (.deferred none)) (by simp; omega)
    have r3 := ((h3.kept (grownBy_setCell' W w.heap.size (.slice ao n' cap)) (.inr (h4.not_row (by decide) h3).symm)))
    have r4 := r3.kept (grownBy_setCell' _ (w.heap.size + 1) (.int .i64 0)) (.inr ((h5.other (B' := w.heap.size) (by omega) (.slice ao n' cap)).not_row (by decide) r3).symm)
    have r5 := ownsRow_putObj r4 (.deferred none) hK2 rfl
    have rb := ((h9.setCell (p := ⟨w.heap.size, 0, none⟩) (by simp) (.slice ao n' cap)).setCell (p := ⟨w.heap.size + 1, 0, none⟩) (by simp) (.int .i64 0)).grown (grownBy_putObj' _ D (.deferred none)) (by simpa using h9.size) (fun k e => by cases e; omega)
    refine ⟨.tuple #[.slice ao n' cap, .int .i64 0], ?_, .slice ao n' cap, ?_, rb⟩
    · have e0 := r0.cell
      have e1 := r1.cell
      simp [results, Tryd.results10, go_sem, e0, e1]
    · rw [HA.out]
      exact ⟨rfl, percent_Unquery_row r5⟩
  case stop =>
    rintro D c pre W hD hS ⟨rfl, h1, h2, h3, h4, h5⟩ hK
    have c0 := h2.cell
    have c1 := h3.cell
    have HA := Lib.hid (percent_Unquery_all_prefix _ _ hS h1)
    clear h1
    gi_wp2
    refine ⟨by simp, .inl ⟨_, _, rfl, run_takeDeferred hK, ?_⟩⟩
    have r0 := h2.kept (grownBy_putObj' _ D (.deferred none)) (by simp; omega)
    have r1 := h3.kept (grownBy_putObj' _ D (.deferred none)) (by simp; omega)
    have rb := h4.grown (grownBy_putObj' _ D (.deferred none)) h4.size (fun k e => by cases e; omega)
    refine ⟨.tuple #[.slice none 0 0, .int .i64 3], ?_, .slice none 0 0, ?_, rb⟩
    · have e0 := r0.cell
      have e1 := r1.cell
      simp [results, Tryd.results10, go_sem, e0, e1]
    · rw [HA.out]
      exact ⟨rfl, Kd.R_nil _ _ _ _ _⟩
set_option maxHeartbeats 1000000 in
theorem percent_Unquery_empty (t : ByteArray) (w : World) (he : t.data.toList = []) :
    Calls Tryd.prog 10 #[.string t] w fun e w' => e = .returned (.tuple #[.slice none 0 0, .int .i64 0]) ∧ Below w.heap.size w w' := by
  refine (callsIn_wide (n := 6)).1 ?_
  refine callsIn_of_wp_marks Tryd.func10 rfl trivial ?_ rfl
  simp only [Tryd.ntmps10, List.size_toArray, List.length_cons, List.length_nil, Nat.reduceAdd, Nat.reduceSub, Array.replicate_succ, Array.replicate_zero, List.push_toArray, List.append_toArray, List.nil_append, List.cons_append]
  have hne1 : (t.toList == []) = true := by rw [ByteArray.toList_eq, he]; rfl
  gi_wp2
  refine ⟨_, ?_, rfl, ((Below.refl _ w).alloc (Nat.le_refl _) _).alloc (by simp) _⟩
  have e0 := ((Boxed.new w 22 (.slice none 0 0)).alloc (.cells #[.int .i64 0] 26)).cell
  have e1 := (Boxed.new (w.alloc (.cells #[.slice none 0 0] 22)) 26 (.int .i64 0)).cell
  simp only [World.size_alloc] at e1
  simp [results, Tryd.results10, go_sem, e0, e1]
set_option maxHeartbeats 1000000 in
theorem percent_Unquery_many (t : ByteArray) (w : World) (hne : t.data.toList ≠ []) (hcnt : 16 ≤ t.data.toList.count 38) :
    Calls Tryd.prog 10 #[.string t] w fun e w' => e = .returned (.tuple #[.slice none 0 0, .int .i64 131]) ∧ Below w.heap.size w w' := by
  refine (callsIn_wide (n := 6)).1 ?_
  refine callsIn_of_wp_marks Tryd.func10 rfl trivial ?_ rfl
  simp only [Tryd.ntmps10, List.size_toArray, List.length_cons, List.length_nil, Nat.reduceAdd, Nat.reduceSub, Array.replicate_succ, Array.replicate_zero, List.push_toArray, List.append_toArray, List.nil_append, List.cons_append]
  have hne1 : (t.toList == []) = false := by rw [ByteArray.toList_eq]; simpa using hne
  have hct : decide (16 ≤ ((Lib.countByte t.data.toList 38 : Nat) : Int)) = true := decide_eq_true (by unfold Lib.countByte; omega)
  gi_wp2
  refine ⟨trivial, ?_⟩
  refine (callsIn_wide.2 (Tryd.strings_Count_one t 38 _)).mono ?_
  rintro e w' ⟨rfl, rfl⟩
  gi_wp2
  refine ⟨_, ?_, rfl, ((Below.refl _ w).alloc (Nat.le_refl _) _).alloc (by simp) _⟩
  have e0 := ((Boxed.new w 22 (.slice none 0 0)).alloc (.cells #[.int .i64 131] 26)).cell
  have e1 := (Boxed.new (w.alloc (.cells #[.slice none 0 0] 22)) 26 (.int .i64 131)).cell
  simp only [World.size_alloc] at e1
  simp [results, Tryd.results10, go_sem, e0, e1]
theorem percent_Unquery.calls (a0 : ByteArray) (r1 : List (S24)) (r2 : Int) (w : World) (h : percent_Unquery.f a0 = some (r1, r2)) :
    Calls Tryd.prog 10 #[.string a0] w fun e w' => ∃ v0_ : Value, e = .returned (.tuple #[v0_, .int .i64 r2]) ∧ Kd.R k24 24 w' w.heap.size (fun _ => True) v0_ r1 ∧ Below w.heap.size w w' := by
  unfold percent_Unquery.f at h
  split at h
  · rename_i hs
    split at h
    · rename_i he
      cases h
      exact (percent_Unquery_empty a0 w he).mono fun e w' ⟨h1, h2⟩ => ⟨_, h1, Kd.R_nil _ _ _ _ _, h2⟩
    · rename_i he
      split at h
      · rename_i hc
        cases h
        exact (percent_Unquery_many a0 w he hc).mono fun e w' ⟨h1, h2⟩ => ⟨_, h1, Kd.R_nil _ _ _ _ _, h2⟩
      · rename_i hc
        refine (percent_Unquery_walk a0 w hs he (by omega)).mono fun e w' ⟨v, h1, h2⟩ => ?_
        cases hq : percent_Unquery_all (Q.splitL 38 a0.data.toList) with
        | none => rw [hq] at h h1; cases h; exact ⟨v, h1.1, h1.2, h2⟩
        | some l => rw [hq] at h h1; cases h; exact ⟨v, h1.1, h1.2, h2⟩
  · cases h

end Go.Proofs.YtfagmfmpiicggaaDoor.Hq
