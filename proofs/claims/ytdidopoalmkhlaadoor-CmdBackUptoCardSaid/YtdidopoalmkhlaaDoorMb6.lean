/- Merged of several texts of this session's by merge.py. -/
import Derived.Test.YtdidopoalmkhlaaDoorMb3
import Derived.Lib.Hide
import Derived.IntWalk
import Derived.Deep.QuietTactic
import Derived.BigQuiet
import Derived.OwnWalk
import Derived.Test.YtdidopoalmkhlaaDoorMb5
import Derived.Test.YtdidopoalmkhlaaDoorMb2
import Derived.Lib.Walk
import Derived.Deep.RegionWith
section
namespace Go.Proofs.YtdidopoalmkhlaaDoor.Ob
open Go.RowKit Go.Proofs.YtdidopoalmkhlaaDoorW.PrintWords Go.Proofs.YtdidopoalmkhlaaDoorW.PrintLast Go.Proofs.YtdidopoalmkhlaaDoorW.PrintMore
attribute [local go_sem] max2_int min2_int max_two min_two max_three min_three max_four min_four
set_option linter.unusedVariables false
set_option linter.unusedSimpArgs false
def octet_Number.l0 : Nat → Int → List Int → Option (ByteArray)
 | 0, _, _ => none
 | k + 1, x0, x3 => if x0 ≥ 128 then (if x3.length < 140737488355328 then (octet_Number.l0 k (x0 / 128) (x3 ++ [Go.bits .or .u8 ((x0) % 256) 128])) else (none)) else (if x3.length < 140737488355328 then (some (strOfNums (x3 ++ [(x0) % 256]))) else (none))
def octet_Number.f (k : Nat) (a0 : Int) : Option (ByteArray) := octet_Number.l0 k a0 ([] : List Int)
theorem octet_Number.mono_l : ∀ k, (∀ y0 y1, LeO (octet_Number.l0 k y0 y1) (octet_Number.l0 (k + 1) y0 y1))
 | 0 => fun _ _ r h => by simp [octet_Number.l0] at h
 | k + 1 => by
  have ih0 := octet_Number.mono_l k
  ·
   intro y0 y1
   unfold octet_Number.l0
   repeat' (with_reducible first | exact ih0 _ _ | exact LeO.refl _ | exact LeO.none _ | refine LeO.ite ?_ ?_ | refine LeO.bind ?_ (fun _ => ?_))
theorem octet_Number.mono : ∀ a0 k, LeO (octet_Number.f k a0) (octet_Number.f (k + 1) a0) := by
 intro a0 k
 have ih0 := octet_Number.mono_l k
 unfold octet_Number.f
 repeat' (with_reducible first | exact ih0 _ _ | exact LeO.refl _ | exact LeO.none _ | refine LeO.ite ?_ ?_ | refine LeO.bind ?_ (fun _ => ?_))
set_option maxHeartbeats 8000000 in
set_option maxRecDepth 100000 in
theorem octet_Number.calls (k : Nat) (a0 : Int) (r : ByteArray) (w : World) (h : octet_Number.f k a0 = some r) :
  Calls Tryd.prog 57 #[.int .u64 a0] w fun e w' => e = .returned (.string r) ∧ Below w.heap.size w w' := by
 have HB := am (Below.refl w.heap.size w)
 have H := h
 clear h
 unfold octet_Number.f at H
 have H' := am H
 clear H
 go_enter Tryd.func57, Tryd.ntmps57
 go_wp2
 go_loopg [0, 3] k (fun kq v0 v3 w' => ∃ (x0_1 : Int) (x3_1 : List Int), v0 = .int .u64 x0_1 ∧ Aside0 (octet_Number.l0 kq x0_1 x3_1 = some r) ∧ Aside0 (kq ≤ k) ∧ Aside0 (Kd.R (Kd.int .u8) 5 w' w.heap.size (fun _ => True) v3 x3_1) ∧ Aside0 (Below w.heap.size w w'))
 case atStart => exact ⟨(a0), (([] : List Int)), rs, H', ⟨Nat.le_refl _⟩, ⟨niR⟩, ⟨bw HB.out⟩⟩
 case round =>
  clear H'
  obtain ⟨x0_1, x3_1, rfl, HA, HK1, HO_3, HB⟩ := hrel
  cases gk with
  | zero => exact absurd HA.out (by simp [octet_Number.l0])
  | succ k1 =>
   have H := HA.out
   clear HA
   simp only [octet_Number.l0] at H
   by_cases c2 : x0_1 ≥ 128
   ·
    rw [if_pos c2] at H
    have c2b0 := decide_eq_true c2
    clear c2
    by_cases c3 : x3_1.length < 140737488355328
    ·
     rw [if_pos c3] at H
     have LMc3 := am c3
     clear c3
     obtain ⟨y148, hy148⟩ : ∃ y_ : List Int, y_ = (x3_1 ++ [Go.bits .or .u8 ((x0_1) % 256) 128]) := ⟨_, rfl⟩
     replace H : (octet_Number.l0 k1 (x0_1 / 128) y148) = some r := by first | (rw [hy148]; with_reducible exact H) | (have H2_ := (Option.bind_some _ _).symm.trans H; rw [hy148]; with_reducible exact H2_) | (have H2_ := (Option.bind_some _ _).symm.trans H; with_reducible exact H2_) | with_reducible exact H | (rw [hy148]; exact H) | exact H
     have Ny148 := am hy148
     clear hy148
     have H' := am H
     clear H
     go_wp2_with (first | ((with_reducible refine gate_builtin (b := .append) (xs := #[.tmp 6, .tmp 10]) rfl ?_); at_builtin; refine Kd.R_append (Kd.int .u8) (w0 := w) w.heap.size rfl (.tmp 6) (.tmp 10) 101 5 (.int .u8 0) 1 rfl Tryd.underlying101 info5 rfl (by decide) (by omega) u3 x3_1 (Go.bits .or .u8 ((x0_1) % 256) 128) [.int .u8 (Go.bits .or .u8 ((x0_1) % 256) 128)] (fun _ => True) (fun _ => False) rfl rfl ?aP (fun _ hk => hk.elim) ?aF ?aO ?aB ?aS ?aL ?_; (case aP => exact rfl); (case aB => exact (bw HB.out)); (case aF => exact (fun _ _ => trivial)); (case aO => exact (kR HO_3.out)); (case aS => exact (below_size (bw HB.out))); (case aL => have := LMc3.out; omega); intro v149 w4 ho hb hg hat; rw [← Ny148.out] at ho; have n0_ := am (hb); have n1_ := am (ho); clear HB; clear HO_3; have HB := n0_; have HO150 := n1_; clear n0_ n1_; clear ho hb hg hat))
     go_roundg k1
     case measure => have := HK1.out; omega
     case rel => exact ⟨(x0_1 / 128), (y148), rs, H', ⟨by have := HK1.out; omega⟩, ⟨kR HO150.out⟩, ⟨bw HB.out⟩⟩
    ·
     rw [if_neg c3] at H
     exact absurd H (by simp)
   ·
    rw [if_neg c2] at H
    have c2b0 := decide_eq_false c2
    clear c2
    by_cases c5 : x3_1.length < 140737488355328
    ·
     rw [if_pos c5] at H
     have LMc5 := am c5
     clear c5
     obtain ⟨y151, hy151⟩ : ∃ y_ : List Int, y_ = (x3_1 ++ [(x0_1) % 256]) := ⟨_, rfl⟩
     replace H : (some (strOfNums y151)) = some r := by first | (rw [hy151]; with_reducible exact H) | (have H2_ := (Option.bind_some _ _).symm.trans H; rw [hy151]; with_reducible exact H2_) | (have H2_ := (Option.bind_some _ _).symm.trans H; with_reducible exact H2_) | with_reducible exact H | (rw [hy151]; exact H) | exact H
     have Ny151 := am hy151
     clear hy151
     obtain rfl := Option.some.inj H
     go_wp2_with (first | ((with_reducible refine gate_builtin (b := .append) (xs := #[.tmp 14, .tmp 17]) rfl ?_); at_builtin; refine Kd.R_append (Kd.int .u8) (w0 := w) w.heap.size rfl (.tmp 14) (.tmp 17) 101 5 (.int .u8 0) 1 rfl Tryd.underlying101 info5 rfl (by decide) (by omega) u3 x3_1 ((x0_1) % 256) [.int .u8 ((x0_1) % 256)] (fun _ => True) (fun _ => False) rfl rfl ?aP (fun _ hk => hk.elim) ?aF ?aO ?aB ?aS ?aL ?_; (case aP => exact rfl); (case aB => exact (bw HB.out)); (case aF => exact (fun _ _ => trivial)); (case aO => exact (kR HO_3.out)); (case aS => exact (below_size (bw HB.out))); (case aL => have := LMc5.out; omega); intro v152 w6 ho hb hg hat; rw [← Ny151.out] at ho; have n0_ := am (hb); have n1_ := am (ho); clear HB; clear HO_3; have HB := n0_; have HO153 := n1_; clear n0_ n1_; clear ho hb hg hat; have hcv7 := own_string (P := Tryd.prog) Tryd.underlying101 Tryd.underlying5 Tryd.underlying9 (Kd.own_of_R HO153.out)))
     go_ret
     exact ⟨rf, bw HB.out⟩
    ·
     rw [if_neg c5] at H
     exact absurd H (by simp)
def octet_Text.f (k : Nat) (a0 : ByteArray) : Option (ByteArray) := (octet_Number.f k (IntKind.u64.wrap ((a0.size : Int)))).bind fun t154 => (if t154.size + a0.size ≤ 9223372036854775807 then (some (t154 ++ a0)) else (none))
theorem octet_Text.mono : ∀ a0 k, LeO (octet_Text.f k a0) (octet_Text.f (k + 1) a0) := by
 intro a0 k
 unfold octet_Text.f
 repeat' (with_reducible first | exact octet_Number.mono _ _ | exact LeO.refl _ | exact LeO.none _ | refine LeO.ite ?_ ?_ | refine LeO.bind ?_ (fun _ => ?_))
set_option maxHeartbeats 8000000 in
set_option maxRecDepth 100000 in
theorem octet_Text.calls (k : Nat) (a0 : ByteArray) (r : ByteArray) (w : World) (h : octet_Text.f k a0 = some r) :
  Calls Tryd.prog 58 #[.string a0] w fun e w' => e = .returned (.string r) ∧ Below w.heap.size w w' := by
 have HB := am (Below.refl w.heap.size w)
 have H := h
 clear h
 unfold octet_Text.f at H
 replace H := obE H
 obtain ⟨t154, A2, H⟩ := H
 by_cases c3 : t154.size + a0.size ≤ 9223372036854775807
 ·
  rw [if_pos c3] at H
  have c3b0 := eq_true c3
  have c3b1 := decide_eq_true c3
  try have c3b2 : (9223372036854775807 < t154.size + a0.size) = False := eq_false (Nat.not_lt.2 c3)
  (try (have c3b3 := c3b2; simp only [ByteArray.size_append] at c3b3))
  obtain rfl := Option.some.inj H
  go_enter Tryd.func58, Tryd.ntmps58
  go_wp2_with (first | ((with_reducible refine gate_callee (f := 57) rfl ?_); refine goesL_ (some 6) rfl rfl Tryd.func57 (by kernel_rfl) rfl #[.int .u64 (IntKind.u64.wrap ((a0.size : Int)))] rfl gl ?_; (with_reducible refine (octet_Number.calls k (IntKind.u64.wrap ((a0.size : Int))) t154 _ A2.out).mono ?_); rintro e w4 ⟨rfl, hb⟩; refine ⟨_, rfl, ?_⟩; replace HB := am (below_step (bw HB.out) hb); (try clear hb)))
  go_ret
  exact ⟨rf, bw HB.out⟩
 ·
  rw [if_neg c3] at H
  exact absurd H (by simp)
def cmd_told_txt (k : Nat) (b : Bool) (s t : ByteArray) : Option ByteArray := if b = true then ((octet_Text.f k t).bind fun x => if s.size + x.size ≤ 9223372036854775807 then some (s ++ x) else none) else some s
def cmd_told_num (k : Nat) (b : Bool) (s : ByteArray) (n : Int) : Option ByteArray := if b = true then ((octet_Number.f k (IntKind.u64.wrap n)).bind fun x => if s.size + x.size ≤ 9223372036854775807 then some (s ++ x) else none) else some s
def cmd_told_l0 (k : Nat) : List (S82) → ByteArray → Option ByteArray
 | [], s => some s
 | y :: r, s => (octet_Text.f k y.f0).bind fun a => (octet_Number.f k (IntKind.u64.wrap y.f1)).bind fun b => if a.size + b.size ≤ 9223372036854775807 then (if s.size + (a ++ b).size ≤ 9223372036854775807 then cmd_told_l0 k r (s ++ (a ++ b)) else none) else none
def cmd_told_l1 (k : Nat) : List (S62) → ByteArray → Option ByteArray
 | [], s => some s
 | y :: r, s => (octet_Number.f k (IntKind.u64.wrap y.f0)).bind fun a => (octet_Text.f k y.f1).bind fun b => if a.size + b.size ≤ 9223372036854775807 then (if s.size + (a ++ b).size ≤ 9223372036854775807 then cmd_told_l1 k r (s ++ (a ++ b)) else none) else none
def cmd_told.f (k : Nat) (a0_0 : Int) (a0_1 : ByteArray) (a0_2 : ByteArray) (a0_3 : ByteArray) (a0_4 : Int) (a0_5 : Int) (a0_6 : ByteArray) (l0_7 : List (S82)) (l0_8 : List (S62)) : Option ByteArray :=
 (cmd_fields.f k a0_0).bind fun f => (octet_Number.f k (IntKind.u64.wrap a0_0)).bind fun s0 => (cmd_told_txt k (Go.bits .and .i64 f 1 != 0) s0 a0_1).bind fun s1 => (cmd_told_txt k (Go.bits .and .i64 f 2 != 0) s1 a0_2).bind fun s2 => (cmd_told_txt k (Go.bits .and .i64 f 4 != 0) s2 a0_3).bind fun s3 =>
  (cmd_told_num k (Go.bits .and .i64 f 8 != 0) s3 a0_4).bind fun s4 => (cmd_told_num k (Go.bits .and .i64 f 16 != 0) s4 a0_5).bind fun s5 => (cmd_told_txt k (Go.bits .and .i64 f 32 != 0) s5 a0_6).bind fun s6 => (cmd_told_num k (Go.bits .and .i64 f 64 != 0) s6 (l0_7.length : Int)).bind fun s7 => (cmd_told_l0 k l0_7 s7).bind fun s8 =>
  (cmd_told_num k (Go.bits .and .i64 f 128 != 0) s8 (l0_8.length : Int)).bind fun s9 => cmd_told_l1 k l0_8 s9
theorem cmd_told_txt_mono (k : Nat) (b : Bool) (s t : ByteArray) : LeO (cmd_told_txt k b s t) (cmd_told_txt (k + 1) b s t) := by
 unfold cmd_told_txt
 exact LeO.ite (LeO.bind (octet_Text.mono _ _) fun _ => LeO.refl _) (LeO.refl _)
theorem cmd_told_num_mono (k : Nat) (b : Bool) (s : ByteArray) (n : Int) : LeO (cmd_told_num k b s n) (cmd_told_num (k + 1) b s n) := by
 unfold cmd_told_num
 exact LeO.ite (LeO.bind (octet_Number.mono _ _) fun _ => LeO.refl _) (LeO.refl _)
theorem cmd_told_l0_mono (k : Nat) : ∀ l s, LeO (cmd_told_l0 k l s) (cmd_told_l0 (k + 1) l s)
 | [], _ => LeO.refl _
 | y :: r, s => by
  rw [cmd_told_l0, cmd_told_l0]
  exact LeO.bind (octet_Text.mono _ _) fun _ => LeO.bind (octet_Number.mono _ _) fun _ => LeO.ite (LeO.ite (cmd_told_l0_mono k r _) (LeO.refl _)) (LeO.refl _)
theorem cmd_told_l1_mono (k : Nat) : ∀ l s, LeO (cmd_told_l1 k l s) (cmd_told_l1 (k + 1) l s)
 | [], _ => LeO.refl _
 | y :: r, s => by
  rw [cmd_told_l1, cmd_told_l1]
  exact LeO.bind (octet_Number.mono _ _) fun _ => LeO.bind (octet_Text.mono _ _) fun _ => LeO.ite (LeO.ite (cmd_told_l1_mono k r _) (LeO.refl _)) (LeO.refl _)
theorem cmd_told.mono : ∀ a0 a1 a2 a3 a4 a5 a6 a7 a8 k, LeO (cmd_told.f k a0 a1 a2 a3 a4 a5 a6 a7 a8) (cmd_told.f (k + 1) a0 a1 a2 a3 a4 a5 a6 a7 a8) := by
 intro a0 a1 a2 a3 a4 a5 a6 a7 a8 k
 unfold cmd_told.f
 repeat' (with_reducible first | exact octet_Number.mono _ _ | exact cmd_told_txt_mono _ _ _ _ | exact cmd_told_num_mono _ _ _ _ | exact cmd_told_l0_mono _ _ _ | exact cmd_told_l1_mono _ _ _ | exact cmd_fields.mono _ _ | exact LeO.refl _ | refine LeO.bind ?_ (fun _ => ?_))
theorem cmd_told_t1 (k gf gs : Nat) (f bit : Int) (s t r : ByteArray) (w0 W : World) (hB : Below w0.heap.size w0 W) (hge : w0.heap.size ≤ gs) (hf : W.heap[gf]? = some (.cells #[.int .i64 f] 3 (0, 0))) (hs : W.heap[gs]? = some (.cells #[.string s] 9 (0, 0))) (h : cmd_told_txt k (Go.bits .and .i64 f bit != 0) s t = some r) :
  Calls Tryd.prog 61 #[.int .i64 bit, .string t, .pointer (some ⟨gf, 0, none⟩), .pointer (some ⟨gs, 0, none⟩)] W fun e W' => (∃ v, e = .returned v) ∧ W'.heap[gs]? = some (.cells #[.string r] 9 (0, 0)) ∧ Below w0.heap.size w0 W' ∧ KeepBut W W' gs none := by
 have HF := am hf
 have HS := am hs
 have HB := am hB
 obtain ⟨cf, ff⟩ := cz1 hf
 obtain ⟨cs, fs⟩ := cz1 hs
 clear hf hs hB
 unfold cmd_told_txt at h
 by_cases hb : (Go.bits .and .i64 f bit != 0) = true
 ·
  rw [if_pos hb] at h
  replace h := obE h
  obtain ⟨x, A, h⟩ := h
  split at h
  ·
   rename_i hsz
   cases h
   have h9 : (9223372036854775807 < s.size + x.size) = False := eq_false (Nat.not_lt.2 hsz)
   clear hsz
   go_enter Tryd.func61, Tryd.ntmps61
   go_wp2
   refine start_ (n := 5) (S := fun w' => w'.cell? ⟨gs, 0, none⟩ = some (.string s)) (ds := [4]) #[false, false, false, false, false] (by kernel_rfl) rfl rfl cs (fun hHeld => ?_)
   refine hp 1 (some 11) ?_
   refine ht 0 (some 10) hHeld ?_
   refine hcall 2 (some 12) 58 #[.string t] (octet_Text.calls k t x _ A.out) ?_
   rintro e w3 ⟨rfl, hb⟩
   have HS3 := bb (blk_drew HS.out) hb
   have c3 := (cz1 HS3.out).1
   have f3 := (cz1 HS3.out).2
   refine ⟨_, _, rfl, c3, by simp only [Act.put, List.setIfInBounds_toArray, List.set_cons_zero, List.set_cons_succ]; rfl, ?_⟩
   refine hp 3 (some 13) ?_
   refine hstore 4 ?_
   refine done_ (by kernel_rfl) ?_
   go_wp2
   go_end0
   exact ⟨⟨_, rfl⟩, bkp HS3.out, below_set (below_step HB.out.drew hb) hge, (KeepBut.of_below hb _ _).set_ 0 _⟩
  ·
   cases h
 ·
  rw [if_neg hb] at h
  cases h
  replace hb := Bool.eq_false_iff.mpr hb
  go_enter Tryd.func61, Tryd.ntmps61
  go_wp2
  go_end0
  exact ⟨⟨_, rfl⟩, HS.out, HB.out, KeepBut.refl _ _ _⟩
theorem cmd_told_t2 (k gf gs : Nat) (f bit : Int) (s : ByteArray) (n : Int) (r : ByteArray) (w0 W : World) (hB : Below w0.heap.size w0 W) (hge : w0.heap.size ≤ gs) (hf : W.heap[gf]? = some (.cells #[.int .i64 f] 3 (0, 0))) (hs : W.heap[gs]? = some (.cells #[.string s] 9 (0, 0))) (h : cmd_told_num k (Go.bits .and .i64 f bit != 0) s n = some r) :
  Calls Tryd.prog 62 #[.int .i64 bit, .int .i64 n, .pointer (some ⟨gf, 0, none⟩), .pointer (some ⟨gs, 0, none⟩)] W fun e W' => (∃ v, e = .returned v) ∧ W'.heap[gs]? = some (.cells #[.string r] 9 (0, 0)) ∧ Below w0.heap.size w0 W' ∧ KeepBut W W' gs none := by
 have HF := am hf
 have HS := am hs
 have HB := am hB
 obtain ⟨cf, ff⟩ := cz1 hf
 obtain ⟨cs, fs⟩ := cz1 hs
 clear hf hs hB
 unfold cmd_told_num at h
 by_cases hb : (Go.bits .and .i64 f bit != 0) = true
 ·
  rw [if_pos hb] at h
  replace h := obE h
  obtain ⟨x, A, h⟩ := h
  split at h
  ·
   rename_i hsz
   cases h
   have h9 : (9223372036854775807 < s.size + x.size) = False := eq_false (Nat.not_lt.2 hsz)
   clear hsz
   go_enter Tryd.func62, Tryd.ntmps62
   go_wp2
   refine start_ (n := 6) (S := fun w' => w'.cell? ⟨gs, 0, none⟩ = some (.string s)) (ds := [5]) #[false, false, false, false, false, false] (by kernel_rfl) rfl rfl cs (fun hHeld => ?_)
   refine hp 1 (some 11) ?_
   refine ht 0 (some 10) hHeld ?_
   refine hp 2 (some 12) ?_
   refine hcall 3 (some 13) 57 #[.int .u64 (IntKind.u64.wrap n)] (octet_Number.calls k _ x _ A.out) ?_
   rintro e w3 ⟨rfl, hb⟩
   have HS3 := bb (blk_drew HS.out) hb
   have c3 := (cz1 HS3.out).1
   have f3 := (cz1 HS3.out).2
   refine ⟨_, _, rfl, c3, by simp only [Act.put, List.setIfInBounds_toArray, List.set_cons_zero, List.set_cons_succ]; rfl, ?_⟩
   refine hp 4 (some 14) ?_
   refine hstore 5 ?_
   refine done_ (by kernel_rfl) ?_
   go_wp2
   go_end0
   exact ⟨⟨_, rfl⟩, bkp HS3.out, below_set (below_step HB.out.drew hb) hge, (KeepBut.of_below hb _ _).set_ 0 _⟩
  ·
   cases h
 ·
  rw [if_neg hb] at h
  cases h
  replace hb := Bool.eq_false_iff.mpr hb
  go_enter Tryd.func62, Tryd.ntmps62
  go_wp2
  go_end0
  exact ⟨⟨_, rfl⟩, HS.out, HB.out, KeepBut.refl _ _ _⟩
structure cmd_told_St (w : World) (gc gf gs : Nat) (cs : Array Value) (f : Int) (s : ByteArray) (W : World) : Prop where
 c : W.heap[gc]? = some (.cells cs 25 (0, 0))
 f : W.heap[gf]? = some (.cells #[.int .i64 f] 3 (0, 0))
 s : W.heap[gs]? = some (.cells #[.string s] 9 (0, 0))
 b : Below w.heap.size w W
 ge : w.heap.size ≤ gs
theorem cmd_told_St.step {w W W' : World} {gc gf gs : Nat} {cs : Array Value} {f : Int} {s r : ByteArray} (h : cmd_told_St w gc gf gs cs f s W) (hs : W'.heap[gs]? = some (.cells #[.string r] 9 (0, 0))) (hb : Below w.heap.size w W') (hk : KeepBut W W' gs none) : cmd_told_St w gc gf gs cs f r W' :=
 ⟨hk.blk h.c (blk_ne h.c h.s (by decide)) (by simp), hk.blk h.f (blk_ne h.f h.s (by decide)) (by simp), hs, hb, h.ge⟩
theorem cmd_told_St.below {w W W' : World} {gc gf gs : Nat} {cs : Array Value} {f : Int} {s : ByteArray} (h : cmd_told_St w gc gf gs cs f s W) (hb : Below W.heap.size W W') : cmd_told_St w gc gf gs cs f s W' := ⟨blk_below h.c hb, blk_below h.f hb, blk_below h.s hb, below_step h.b hb, h.ge⟩
theorem cmd_told_St.put {w W : World} {gc gf gs : Nat} {cs : Array Value} {f : Int} {s : ByteArray} (h : cmd_told_St w gc gf gs cs f s W) (r : ByteArray) : cmd_told_St w gc gf gs cs f r (W.setCell ⟨gs, 0, none⟩ (.string r)) :=
 h.step (blk_put h.s 0 _ rfl) (below_set h.b h.ge) ((KeepBut.refl _ _ _).set_ 0 _)
theorem cmd_told_u1 (k gc gf gs : Nat) (cs : Array Value) (f bit : Int) (s t r : ByteArray) (w W : World) (hS : cmd_told_St w gc gf gs cs f s W) (h : cmd_told_txt k (Go.bits .and .i64 f bit != 0) s t = some r) :
  Calls Tryd.prog 61 #[.int .i64 bit, .string t, .pointer (some ⟨gf, 0, none⟩), .pointer (some ⟨gs, 0, none⟩)] W fun e W' => (∃ v, e = .returned v) ∧ cmd_told_St w gc gf gs cs f r W' :=
 (cmd_told_t1 k gf gs f bit s t r w W hS.b hS.ge hS.f hS.s h).mono fun _ _ ⟨h1, h2, h3, h4⟩ => ⟨h1, hS.step h2 h3 h4⟩
theorem cmd_told_u2 (k gc gf gs : Nat) (cs : Array Value) (f bit : Int) (s : ByteArray) (n : Int) (r : ByteArray) (w W : World) (hS : cmd_told_St w gc gf gs cs f s W) (h : cmd_told_num k (Go.bits .and .i64 f bit != 0) s n = some r) :
  Calls Tryd.prog 62 #[.int .i64 bit, .int .i64 n, .pointer (some ⟨gf, 0, none⟩), .pointer (some ⟨gs, 0, none⟩)] W fun e W' => (∃ v, e = .returned v) ∧ cmd_told_St w gc gf gs cs f r W' :=
 (cmd_told_t2 k gf gs f bit s n r w W hS.b hS.ge hS.f hS.s h).mono fun _ _ ⟨h1, h2, h3, h4⟩ => ⟨h1, hS.step h2 h3 h4⟩
theorem cmd_told_c9 {W : World} {g : Nat} {t : TypeId} {CS : Array Value} {a0 a1 a2 a3 a4 a5 a6 a7 a8 : Value} (h : W.heap[g]? = some (.cells CS t (0, 0))) (e : Aside0 (CS = #[a0, a1, a2, a3, a4, a5, a6, a7, a8])) : W.cell? ⟨g, 0, none⟩ = some a0 ∧ W.cell? ⟨g, 1, none⟩ = some a1 ∧ W.cell? ⟨g, 2, none⟩ = some a2 ∧ W.cell? ⟨g, 3, none⟩ = some a3 ∧ W.cell? ⟨g, 4, none⟩ = some a4 ∧ W.cell? ⟨g, 5, none⟩ = some a5 ∧ W.cell? ⟨g, 6, none⟩ = some a6 ∧ W.cell? ⟨g, 7, none⟩ = some a7 ∧ W.cell? ⟨g, 8, none⟩ = some a8 := by
 rw [e.out] at h
 exact ⟨(blk_cell h 0).trans rfl, (blk_cell h 1).trans rfl, (blk_cell h 2).trans rfl, (blk_cell h 3).trans rfl, (blk_cell h 4).trans rfl, (blk_cell h 5).trans rfl, (blk_cell h 6).trans rfl, (blk_cell h 7).trans rfl, (blk_cell h 8).trans rfl⟩
theorem cmd_told_rd7 (l : List (S82)) (i : Nat) (h : i < l.length) : l.drop i = rd_T82 l (i : Int) :: l.drop (i + 1) := by
 rw [List.drop_eq_getElem_cons h]
 congr 1
 show l[i] = l.getD (i : Int).toNat _
 rw [Int.toNat_natCast, List.getD_eq_getElem?_getD, List.getElem?_eq_getElem h]
 rfl
theorem cmd_told_rd8 (l : List (S62)) (i : Nat) (h : i < l.length) : l.drop i = rd_T62 l (i : Int) :: l.drop (i + 1) := by
 rw [List.drop_eq_getElem_cons h]
 congr 1
 show l[i] = l.getD (i : Int).toNat _
 rw [Int.toNat_natCast, List.getD_eq_getElem?_getD, List.getElem?_eq_getElem h]
 rfl
set_option maxHeartbeats 8000000 in
set_option maxRecDepth 100000 in
theorem cmd_told.calls (k : Nat) (a0_0 : Int) (a0_1 : ByteArray) (a0_2 : ByteArray) (a0_3 : ByteArray) (a0_4 : Int) (a0_5 : Int) (a0_6 : ByteArray) (A0_7 : Option Addr) (c0_7 : Nat) (l0_7 : List (S82)) (A0_8 : Option Addr) (c0_8 : Nat) (l0_8 : List (S62)) (r : ByteArray) (w : World) (hr0_7 : Kd.C k82 w A0_7 l0_7.length l0_7) (hc0_7 : l0_7.length ≤ c0_7) (hr0_8 : Kd.C k62 w A0_8 l0_8.length l0_8) (hc0_8 : l0_8.length ≤ c0_8) (h : cmd_told.f k a0_0 a0_1 a0_2 a0_3 a0_4 a0_5 a0_6 l0_7 l0_8 = some r) :
  Calls Tryd.prog 23 #[.agg #[.int .i64 a0_0, .string a0_1, .string a0_2, .string a0_3, .int .i64 a0_4, .int .i64 a0_5, .string a0_6, .slice A0_7 l0_7.length c0_7, .slice A0_8 l0_8.length c0_8]] w fun e w' => e = .returned (.string r) ∧ Below w.heap.size w w' := by
 have HR7 := am hr0_7
 have HR8 := am hr0_8
 clear hr0_7 hr0_8 hc0_7 hc0_8
 have HB := am (Below.refl w.heap.size w)
 unfold cmd_told.f at h
 replace h := obE h
 obtain ⟨f, A0, h⟩ := h
 replace h := obE h
 obtain ⟨s0, A1, h⟩ := h
 replace h := obE h
 obtain ⟨s1, A2, h⟩ := h
 replace h := obE h
 obtain ⟨s2, A3, h⟩ := h
 replace h := obE h
 obtain ⟨s3, A4, h⟩ := h
 replace h := obE h
 obtain ⟨s4, A5, h⟩ := h
 replace h := obE h
 obtain ⟨s5, A6, h⟩ := h
 replace h := obE h
 obtain ⟨s6, A7, h⟩ := h
 replace h := obE h
 obtain ⟨s7, A8, h⟩ := h
 replace h := obE h
 obtain ⟨s8, A9, h⟩ := h
 replace h := obE h
 obtain ⟨s9, A10, h⟩ := h
 have A11 := am h
 clear h
 have hmf : ∀ (fn : Fn) (first cap : Array Value) (w : World), (Instr.makeFunc fn first cap).run Tryd.prog w = .ok (.func fn first cap) w := fun _ _ _ _ => rfl
 obtain ⟨CS, hCS⟩ : ∃ CS : Array Value, CS = #[.int .i64 a0_0, .string a0_1, .string a0_2, .string a0_3, .int .i64 a0_4, .int .i64 a0_5, .string a0_6, .slice A0_7 l0_7.length c0_7, .slice A0_8 l0_8.length c0_8] := ⟨_, rfl⟩
 have HCS := am hCS
 clear hCS
 go_enter Tryd.func23, Tryd.ntmps23
 go_wp2_with (first
  | ((with_reducible refine gate_dst (N := 1) rfl ?_); refine bx 1 #[.int .i64 a0_0, .string a0_1, .string a0_2, .string a0_3, .int .i64 a0_4, .int .i64 a0_5, .string a0_6, .slice A0_7 l0_7.length c0_7, .slice A0_8 l0_8.length c0_8] 25 ?_; intro gc hg w1 hbox hb; rw [← HCS.out] at hbox; have BC := am hbox; replace HB := am (below_step HB.out hb); clear hb hbox hg; obtain ⟨c0, c1, c2, c3, c4, c5, c6, c7, c8⟩ := cmd_told_c9 BC.out HCS)
  | (go_at_call 30; (with_reducible refine (cmd_fields.calls k a0_0 f _ A0.out).mono ?_); rintro e w2 ⟨rfl, hd⟩; obtain ⟨nd, rfl⟩ := hd.out; replace BC := am (blk_drewN BC.out nd); replace HB := am (pw_below_drewN HB.out nd); clear hd)
  | ((with_reducible refine gate_dst (N := 3) rfl ?_); refine bx 3 #[.int .i64 0] 3 ?_; intro gf hg w3 hbox hb; have BF := am hbox; have GF := gsz hg HB.out; have NCF := nlt (g := gc) hg BC.out; replace BC := bb BC.out hb; replace HB := am (below_step HB.out hb); clear hb hbox hg c0 c1 c2 c3 c4 c5 c6 c7 c8; obtain ⟨cf, ff⟩ := cz1 BF.out; obtain ⟨c0, c1, c2, c3, c4, c5, c6, c7, c8⟩ := cmd_told_c9 BC.out HCS; have hne := NCF.out; have hne2 := Ne.symm NCF.out)
  | (go_at_call 57; (with_reducible refine (octet_Number.calls k _ s0 _ A1.out).mono ?_); rintro e w4 ⟨rfl, hb⟩; replace BC := am (blk_below (g := gc) (o := .cells CS 25 (0, 0)) (bkf BC.out) hb); replace BF := am (blk_below (g := gf) (o := .cells #[.int .i64 f] 3 (0, 0)) (bkp BF.out) hb); replace HB := am (below_step (below_set HB.out GF.out) hb); clear hb cf ff c0 c1 c2 c3 c4 c5 c6 c7 c8 hne hne2)
  | ((with_reducible refine gate_dst (N := 4) rfl ?_); refine bx 4 #[.string ⟨#[]⟩] 9 ?_; intro gs hg w5 hbox hb; have BS := am hbox; have GS := gsz hg HB.out; have NCS := nlt (g := gc) hg BC.out; have NFS := nlt (g := gf) hg BF.out; replace BC := bb BC.out hb; replace BF := bb BF.out hb; replace HB := am (below_step HB.out hb); clear hb hbox hg; obtain ⟨cs, fs⟩ := cz1 BS.out; obtain ⟨c0, c1, c2, c3, c4, c5, c6, c7, c8⟩ := cmd_told_c9 BC.out HCS; have hne := NCS.out; have hne2 := Ne.symm NCS.out; have HS := am (show cmd_told_St w gc gf gs CS f s0 (w5.setCell ⟨gs, 0, none⟩ (.string s0)) from ⟨bkf BC.out, bkf BF.out, bkp BS.out, below_set HB.out GS.out, GS.out⟩); clear BC BF BS NCF NFS NCS HB)
  | (go_at_call 61; (with_reducible refine (cmd_told_u1 k gc gf gs CS f 1 s0 a0_1 s1 w _ HS.out A2.out).mono ?_); rintro e w6 ⟨⟨v, rfl⟩, hs⟩; replace HS := am hs; clear hs hne hne2 cs fs c0 c1 c2 c3 c4 c5 c6 c7 c8 A2; obtain ⟨c0, c1, c2, c3, c4, c5, c6, c7, c8⟩ := cmd_told_c9 HS.out.c HCS)
  | (go_at_call 61; (with_reducible refine (cmd_told_u1 k gc gf gs CS f 2 s1 a0_2 s2 w _ HS.out A3.out).mono ?_); rintro e w7 ⟨⟨v, rfl⟩, hs⟩; replace HS := am hs; clear hs c0 c1 c2 c3 c4 c5 c6 c7 c8 A3; obtain ⟨c0, c1, c2, c3, c4, c5, c6, c7, c8⟩ := cmd_told_c9 HS.out.c HCS)
  | (go_at_call 61; (with_reducible refine (cmd_told_u1 k gc gf gs CS f 4 s2 a0_3 s3 w _ HS.out A4.out).mono ?_); rintro e w8 ⟨⟨v, rfl⟩, hs⟩; replace HS := am hs; clear hs c0 c1 c2 c3 c4 c5 c6 c7 c8 A4; obtain ⟨c0, c1, c2, c3, c4, c5, c6, c7, c8⟩ := cmd_told_c9 HS.out.c HCS)
  | (go_at_call 62; (with_reducible refine (cmd_told_u2 k gc gf gs CS f 8 s3 a0_4 s4 w _ HS.out A5.out).mono ?_); rintro e w9 ⟨⟨v, rfl⟩, hs⟩; replace HS := am hs; clear hs c0 c1 c2 c3 c4 c5 c6 c7 c8 A5; obtain ⟨c0, c1, c2, c3, c4, c5, c6, c7, c8⟩ := cmd_told_c9 HS.out.c HCS)
  | (go_at_call 62; (with_reducible refine (cmd_told_u2 k gc gf gs CS f 16 s4 a0_5 s5 w _ HS.out A6.out).mono ?_); rintro e w10 ⟨⟨v, rfl⟩, hs⟩; replace HS := am hs; clear hs c0 c1 c2 c3 c4 c5 c6 c7 c8 A6; obtain ⟨c0, c1, c2, c3, c4, c5, c6, c7, c8⟩ := cmd_told_c9 HS.out.c HCS)
  | (go_at_call 61; (with_reducible refine (cmd_told_u1 k gc gf gs CS f 32 s5 a0_6 s6 w _ HS.out A7.out).mono ?_); rintro e w11 ⟨⟨v, rfl⟩, hs⟩; replace HS := am hs; clear hs c0 c1 c2 c3 c4 c5 c6 c7 c8 A7; obtain ⟨c0, c1, c2, c3, c4, c5, c6, c7, c8⟩ := cmd_told_c9 HS.out.c HCS)
  | (go_at_call 62; (with_reducible refine (cmd_told_u2 k gc gf gs CS f 64 s6 (l0_7.length : Int) s7 w _ HS.out A8.out).mono ?_); rintro e w12 ⟨⟨v, rfl⟩, hs⟩; replace HS := am hs; clear hs c0 c1 c2 c3 c4 c5 c6 c7 c8 A8; obtain ⟨c0, c1, c2, c3, c4, c5, c6, c7, c8⟩ := cmd_told_c9 HS.out.c HCS))
 clear c0 c1 c2 c3 c4 c5 c6 c7 c8
 go_loopg [52] l0_7.length (fun n v52 w' => ∃ (x : Int) (i : Nat) (s' : ByteArray), v52 = .int .i64 x ∧ Aside0 (x = (i : Int) ∧ i + n = l0_7.length) ∧ Aside0 (cmd_told_l0 k (l0_7.drop i) s' = some s8) ∧ Aside0 (cmd_told_St w gc gf gs CS f s' w'))
 case atStart => exact ⟨0, 0, s7, rfl, am ⟨rfl, by omega⟩, am (by rw [List.drop_zero]; exact A9.out), HS⟩
 case round =>
  obtain ⟨x, i, s', rfl, HN, HL, HS⟩ := hrel
  have hlen : l0_7.length ≤ 9223372036854775807 := HR7.out.2.1
  cases gk with
  | zero =>
   have e1 := HN.out.2
   have q1 : decide (x < (l0_7.length : Int)) = false := decide_eq_false (by rw [HN.out.1]; omega)
   have HL2 : Aside0 (s' = s8) := am (by have h1 := HL.out; rw [List.drop_of_length_le (by omega)] at h1; exact Option.some.inj h1)
   clear e1 hlen
   obtain ⟨c0, c1, c2, c3, c4, c5, c6, c7, c8⟩ := cmd_told_c9 HS.out.c HCS
   rw [HL2.out] at HS
   go_wp2_with (go_at_call 62; (with_reducible refine (cmd_told_u2 k gc gf gs CS f 128 s8 (l0_8.length : Int) s9 w _ HS.out A10.out).mono ?_); rintro e w13 ⟨⟨v, rfl⟩, hs⟩; replace HS := am hs; clear hs c0 c1 c2 c3 c4 c5 c6 c7 c8; obtain ⟨c0, c1, c2, c3, c4, c5, c6, c7, c8⟩ := cmd_told_c9 HS.out.c HCS)
   clear c0 c1 c2 c3 c4 c5 c6 c7 c8
   go_loopg [75] l0_8.length (fun n v75 w' => ∃ (x : Int) (i : Nat) (s' : ByteArray), v75 = .int .i64 x ∧ Aside0 (x = (i : Int) ∧ i + n = l0_8.length) ∧ Aside0 (cmd_told_l1 k (l0_8.drop i) s' = some r) ∧ Aside0 (cmd_told_St w gc gf gs CS f s' w'))
   case atStart => exact ⟨0, 0, s9, rfl, am ⟨rfl, by omega⟩, am (by rw [List.drop_zero]; exact A11.out), HS⟩
   case round =>
    obtain ⟨x, i, s', rfl, HN, HL, HS⟩ := hrel
    have hlen : l0_8.length ≤ 9223372036854775807 := HR8.out.2.1
    cases gk with
    | zero =>
     have e1 := HN.out.2
     have q1 : decide (x < (l0_8.length : Int)) = false := decide_eq_false (by rw [HN.out.1]; omega)
     have HL2 : Aside0 (s' = r) := am (by have h1 := HL.out; rw [List.drop_of_length_le (by omega)] at h1; exact Option.some.inj h1)
     clear e1 hlen
     obtain ⟨c0, c1, c2, c3, c4, c5, c6, c7, c8⟩ := cmd_told_c9 HS.out.c HCS
     rw [HL2.out] at HS
     have cs := (cz1 HS.out.s).1
     go_wp2
     go_ret
     exact ⟨rfl, HS.out.b⟩
    | succ m =>
     have e1 := HN.out.2
     have e2 := HN.out.1
     have p1 : (0 ≤ x) = True := eq_true (by omega)
     have q1 : (x < (l0_8.length : Int)) = True := eq_true (by omega)
     have q2 : decide (x < (l0_8.length : Int)) = true := decide_eq_true (by omega)
     have HX : Aside0 (wrap64 (x + 1) = ((i + 1 : Nat) : Int)) := am (by rw [IntWalk.wrap64_in _ (by omega)]; omega)
     have h1 := HL.out
     rw [cmd_told_rd8 _ i (by omega), cmd_told_l1, ← e2] at h1
     replace h1 := obE h1
     obtain ⟨t1, B1, h1⟩ := h1
     replace h1 := obE h1
     obtain ⟨t2, B2, h1⟩ := h1
     by_cases z1 : t1.size + t2.size ≤ 9223372036854775807
     ·
      rw [if_pos z1] at h1
      by_cases z2 : s'.size + (t1 ++ t2).size ≤ 9223372036854775807
      ·
       rw [if_pos z2] at h1
       have HL2 := am h1
       have z3 : (9223372036854775807 < t1.size + t2.size) = False := eq_false (Nat.not_lt.2 z1)
       have z4 : (9223372036854775807 < s'.size + (t1.size + t2.size)) = False := eq_false (Nat.not_lt.2 (by rw [ByteArray.size_append] at z2; exact z2))
       obtain ⟨ad, ea, x0, x1⟩ := at_T62 HR8.out x (of_eq_true p1) (of_eq_true q1)
       cases ea
       have y0 := bc HS.out.b x0
       have y1 := bc HS.out.b x1
       clear h1 z1 z2 HL e1 e2 hlen
       go_wp2_with ((with_reducible refine gate_dst (N := 10) rfl ?_); refine bx 10 #[.int .i64 0, .string ⟨#[]⟩] 62 ?_; intro gp hg wp hbox hb; have BP := am hbox; have GP := gsz hg HS.out.b; have NPS := nlt (g := gs) hg HS.out.s; replace HS := am (show cmd_told_St w gc gf gs CS f s' wp from ⟨blk_below HS.out.c hb, blk_below HS.out.f hb, blk_below HS.out.s hb, below_step HS.out.b hb, HS.out.ge⟩); clear hb hbox hg y0 y1; have y0 := bc HS.out.b x0; have y1 := bc HS.out.b x1; obtain ⟨cp0, cp1, fp0, fp1⟩ := cz2 BP.out)
       obtain ⟨W, hW⟩ : ∃ W, W = (wp.setCell ⟨gp, 0, none⟩ (.int .i64 (rd_T62 l0_8 x).f0)).setCell ⟨gp, 1, none⟩ (.string (rd_T62 l0_8 x).f1) := ⟨_, rfl⟩
       have BW : Aside0 (W.heap[gp]? = some (.cells #[.int .i64 (rd_T62 l0_8 x).f0, .string (rd_T62 l0_8 x).f1] 62 (0, 0))) := am (by rw [hW]; exact bkp BP.out)
       have HW : Aside0 (cmd_told_St w gc gf gs CS f s' W) := am (by
        have n1 := blk_ne HS.out.c BP.out (by decide)
        have n2 := blk_ne HS.out.f BP.out (by decide)
        have n3 := blk_ne HS.out.s BP.out (by decide)
        rw [hW]
        exact ⟨blk_far (blk_far HS.out.c n1 _) n1 _, blk_far (blk_far HS.out.f n2 _) n2 _, blk_far (blk_far HS.out.s n3 _) n3 _, below_set (below_set HS.out.b GP.out) GP.out, HS.out.ge⟩)
       clear y0 y1 x0 x1 cp0 cp1 fp0 fp1
       rw [← hW]
       clear hW HS BP NPS
       have cs := (cz1 HW.out.s).1
       obtain ⟨cp0, cp1, fp0, fp1⟩ := cz2 BW.out
       refine start_ (n := 11) (S := fun w' => w'.cell? ⟨gs, 0, none⟩ = some (.string s') ∧ w'.cell? ⟨gp, 0, none⟩ = some (.int .i64 (rd_T62 l0_8 x).f0) ∧ w'.cell? ⟨gp, 1, none⟩ = some (.string (rd_T62 l0_8 x).f1)) (ds := [10]) #[false, false, false, false, false, false, false, false, false, false, false] (by kernel_rfl) rfl rfl ⟨cs, cp0, cp1⟩ (fun hHeld => ?_)
       clear cs cp0 cp1 fp0 fp1
       replace HW := am (show cmd_told_St w gc gf gs CS f s' W.drew from ⟨blk_drew HW.out.c, blk_drew HW.out.f, blk_drew HW.out.s, HW.out.b.drew, HW.out.ge⟩)
       replace BW := am (blk_drew BW.out)
       generalize W.drew = W1 at HW BW hHeld ⊢
       refine hp 1 (some 80) ?_
       refine hp 5 (some 84) ?_
       refine ht 0 (some 79) hHeld ?_
       refine ht 2 (some 81) hHeld ?_
       refine hp 3 (some 82) ?_
       refine ht 6 (some 85) hHeld ?_
       refine hcall 4 (some 83) 57 #[.int .u64 (IntKind.u64.wrap (rd_T62 l0_8 x).f0)] (octet_Number.calls k _ t1 _ B1.out) ?_
       rintro e W2 ⟨rfl, hb⟩
       replace HW := am (HW.out.below hb)
       replace BW := bb BW.out hb
       clear hb hHeld
       have hHeld := And.intro (cz1 HW.out.s).1 (And.intro (cz2 BW.out).1 (cz2 BW.out).2.1)
       refine ⟨_, _, rfl, hHeld, by simp only [Act.put, List.setIfInBounds_toArray, List.set_cons_zero, List.set_cons_succ]; rfl, ?_⟩
       refine hcall 7 (some 86) 58 #[.string (rd_T62 l0_8 x).f1] (octet_Text.calls k _ t2 _ B2.out) ?_
       rintro e W3 ⟨rfl, hb⟩
       replace HW := am (HW.out.below hb)
       replace BW := bb BW.out hb
       clear hb hHeld
       have hHeld := And.intro (cz1 HW.out.s).1 (And.intro (cz2 BW.out).1 (cz2 BW.out).2.1)
       refine ⟨_, _, rfl, hHeld, by simp only [Act.put, List.setIfInBounds_toArray, List.set_cons_zero, List.set_cons_succ]; rfl, ?_⟩
       refine hp 8 (some 87) ?_
       refine hp 9 (some 88) ?_
       have fs := (cz1 HW.out.s).2
       have cs := (cz1 HW.out.s).1
       refine hstore 10 ?_
       refine done_ (by kernel_rfl) ?_
       replace HW := am (HW.out.put (s' ++ (t1 ++ t2)))
       clear cs fs hHeld
       go_wp2
       go_roundg m
       case measure => omega
       case rel => exact ⟨_, i + 1, _, rfl, am ⟨HX.out, by have := HN.out.2; omega⟩, HL2, HW⟩
      ·
       rw [if_neg z2] at h1
       cases h1
     ·
      rw [if_neg z1] at h1
      cases h1
  | succ m =>
   have e1 := HN.out.2
   have e2 := HN.out.1
   have p1 : (0 ≤ x) = True := eq_true (by omega)
   have q1 : (x < (l0_7.length : Int)) = True := eq_true (by omega)
   have q2 : decide (x < (l0_7.length : Int)) = true := decide_eq_true (by omega)
   have HX : Aside0 (wrap64 (x + 1) = ((i + 1 : Nat) : Int)) := am (by rw [IntWalk.wrap64_in _ (by omega)]; omega)
   have h1 := HL.out
   rw [cmd_told_rd7 _ i (by omega), cmd_told_l0, ← e2] at h1
   replace h1 := obE h1
   obtain ⟨t1, B1, h1⟩ := h1
   replace h1 := obE h1
   obtain ⟨t2, B2, h1⟩ := h1
   by_cases z1 : t1.size + t2.size ≤ 9223372036854775807
   ·
    rw [if_pos z1] at h1
    by_cases z2 : s'.size + (t1 ++ t2).size ≤ 9223372036854775807
    ·
     rw [if_pos z2] at h1
     have HL2 := am h1
     have z3 : (9223372036854775807 < t1.size + t2.size) = False := eq_false (Nat.not_lt.2 z1)
     have z4 : (9223372036854775807 < s'.size + (t1.size + t2.size)) = False := eq_false (Nat.not_lt.2 (by rw [ByteArray.size_append] at z2; exact z2))
     obtain ⟨ad, ea, x0, x1⟩ := at_T82 HR7.out x (of_eq_true p1) (of_eq_true q1)
     cases ea
     have y0 := bc HS.out.b x0
     have y1 := bc HS.out.b x1
     clear h1 z1 z2 HL e1 e2 hlen
     go_wp2_with ((with_reducible refine gate_dst (N := 8) rfl ?_); refine bx 8 #[.string ⟨#[]⟩, .int .i64 0] 82 ?_; intro gp hg wp hbox hb; have BP := am hbox; have GP := gsz hg HS.out.b; have NPS := nlt (g := gs) hg HS.out.s; replace HS := am (show cmd_told_St w gc gf gs CS f s' wp from ⟨blk_below HS.out.c hb, blk_below HS.out.f hb, blk_below HS.out.s hb, below_step HS.out.b hb, HS.out.ge⟩); clear hb hbox hg y0 y1; have y0 := bc HS.out.b x0; have y1 := bc HS.out.b x1; obtain ⟨cp0, cp1, fp0, fp1⟩ := cz2 BP.out)
     obtain ⟨W, hW⟩ : ∃ W, W = (wp.setCell ⟨gp, 0, none⟩ (.string (rd_T82 l0_7 x).f0)).setCell ⟨gp, 1, none⟩ (.int .i64 (rd_T82 l0_7 x).f1) := ⟨_, rfl⟩
     have BW : Aside0 (W.heap[gp]? = some (.cells #[.string (rd_T82 l0_7 x).f0, .int .i64 (rd_T82 l0_7 x).f1] 82 (0, 0))) := am (by rw [hW]; exact bkp BP.out)
     have HW : Aside0 (cmd_told_St w gc gf gs CS f s' W) := am (by
      have n1 := blk_ne HS.out.c BP.out (by decide)
      have n2 := blk_ne HS.out.f BP.out (by decide)
      have n3 := blk_ne HS.out.s BP.out (by decide)
      rw [hW]
      exact ⟨blk_far (blk_far HS.out.c n1 _) n1 _, blk_far (blk_far HS.out.f n2 _) n2 _, blk_far (blk_far HS.out.s n3 _) n3 _, below_set (below_set HS.out.b GP.out) GP.out, HS.out.ge⟩)
     clear y0 y1 x0 x1 cp0 cp1 fp0 fp1
     rw [← hW]
     clear hW HS BP NPS
     have cs := (cz1 HW.out.s).1
     obtain ⟨cp0, cp1, fp0, fp1⟩ := cz2 BW.out
     refine start_ (n := 11) (S := fun w' => w'.cell? ⟨gs, 0, none⟩ = some (.string s') ∧ w'.cell? ⟨gp, 0, none⟩ = some (.string (rd_T82 l0_7 x).f0) ∧ w'.cell? ⟨gp, 1, none⟩ = some (.int .i64 (rd_T82 l0_7 x).f1)) (ds := [10]) #[false, false, false, false, false, false, false, false, false, false, false] (by kernel_rfl) rfl rfl ⟨cs, cp0, cp1⟩ (fun hHeld => ?_)
     clear cs cp0 cp1 fp0 fp1
     replace HW := am (show cmd_told_St w gc gf gs CS f s' W.drew from ⟨blk_drew HW.out.c, blk_drew HW.out.f, blk_drew HW.out.s, HW.out.b.drew, HW.out.ge⟩)
     replace BW := am (blk_drew BW.out)
     generalize W.drew = W1 at HW BW hHeld ⊢
     refine hp 1 (some 57) ?_
     refine hp 4 (some 60) ?_
     refine ht 0 (some 56) hHeld ?_
     refine ht 2 (some 58) hHeld ?_
     refine ht 5 (some 61) hHeld ?_
     refine hp 6 (some 62) ?_
     refine hcall 3 (some 59) 58 #[.string (rd_T82 l0_7 x).f0] (octet_Text.calls k _ t1 _ B1.out) ?_
     rintro e W2 ⟨rfl, hb⟩
     replace HW := am (HW.out.below hb)
     replace BW := bb BW.out hb
     clear hb hHeld
     have hHeld := And.intro (cz1 HW.out.s).1 (And.intro (cz2 BW.out).1 (cz2 BW.out).2.1)
     refine ⟨_, _, rfl, hHeld, by simp only [Act.put, List.setIfInBounds_toArray, List.set_cons_zero, List.set_cons_succ]; rfl, ?_⟩
     refine hcall 7 (some 63) 57 #[.int .u64 (IntKind.u64.wrap (rd_T82 l0_7 x).f1)] (octet_Number.calls k _ t2 _ B2.out) ?_
     rintro e W3 ⟨rfl, hb⟩
     replace HW := am (HW.out.below hb)
     replace BW := bb BW.out hb
     clear hb hHeld
     have hHeld := And.intro (cz1 HW.out.s).1 (And.intro (cz2 BW.out).1 (cz2 BW.out).2.1)
     refine ⟨_, _, rfl, hHeld, by simp only [Act.put, List.setIfInBounds_toArray, List.set_cons_zero, List.set_cons_succ]; rfl, ?_⟩
     refine hp 8 (some 64) ?_
     refine hp 9 (some 65) ?_
     have fs := (cz1 HW.out.s).2
     have cs := (cz1 HW.out.s).1
     refine hstore 10 ?_
     refine done_ (by kernel_rfl) ?_
     replace HW := am (HW.out.put (s' ++ (t1 ++ t2)))
     clear cs fs hHeld
     go_wp2
     go_roundg m
     case measure => omega
     case rel => exact ⟨_, i + 1, _, rfl, am ⟨HX.out, by have := HN.out.2; omega⟩, HL2, HW⟩
    ·
     rw [if_neg z2] at h1
     cases h1
   ·
    rw [if_neg z1] at h1
    cases h1
def cmd_Encode.f (k : Nat) (a0_0 : Int) (a0_1 : ByteArray) (a0_2 : ByteArray) (a0_3 : ByteArray) (a0_4 : Int) (a0_5 : Int) (a0_6 : ByteArray) (l0_7 : List (S82)) (l0_8 : List (S62)) : Option (ByteArray × Int) := (cmd_Check.f k a0_0 a0_1 a0_2 a0_3 a0_4 a0_5 a0_6 l0_7 l0_8).bind fun t156 => (if t156 = 0 then ((cmd_told.f k a0_0 a0_1 a0_2 a0_3 a0_4 a0_5 a0_6 l0_7 l0_8).bind fun t157 => (some (t157, 0))) else (some ((⟨#[]⟩ : ByteArray), 1)))
theorem cmd_Encode.mono : ∀ a0 a1 a2 a3 a4 a5 a6 a7 a8 k, LeO (cmd_Encode.f k a0 a1 a2 a3 a4 a5 a6 a7 a8) (cmd_Encode.f (k + 1) a0 a1 a2 a3 a4 a5 a6 a7 a8) := by
 intro a0 a1 a2 a3 a4 a5 a6 a7 a8 k
 unfold cmd_Encode.f
 repeat' (with_reducible first | exact cmd_Check.mono _ _ _ _ _ _ _ _ _ _ | exact cmd_told.mono _ _ _ _ _ _ _ _ _ _ | exact LeO.refl _ | exact LeO.none _ | refine LeO.ite ?_ ?_ | refine LeO.bind ?_ (fun _ => ?_))
set_option maxHeartbeats 8000000 in
set_option maxRecDepth 100000 in
theorem cmd_Encode.calls (k : Nat) (a0_0 : Int) (a0_1 : ByteArray) (a0_2 : ByteArray) (a0_3 : ByteArray) (a0_4 : Int) (a0_5 : Int) (a0_6 : ByteArray) (A0_7 : Option Addr) (c0_7 : Nat) (l0_7 : List (S82)) (A0_8 : Option Addr) (c0_8 : Nat) (l0_8 : List (S62)) (r1 : ByteArray) (r2 : Int) (w : World) (hr0_7 : Kd.C k82 w A0_7 l0_7.length l0_7) (hc0_7 : l0_7.length ≤ c0_7) (hr0_8 : Kd.C k62 w A0_8 l0_8.length l0_8) (hc0_8 : l0_8.length ≤ c0_8) (h : cmd_Encode.f k a0_0 a0_1 a0_2 a0_3 a0_4 a0_5 a0_6 l0_7 l0_8 = some (r1, r2)) (hG : GG w) :
  Calls Tryd.prog 8 #[.agg #[.int .i64 a0_0, .string a0_1, .string a0_2, .string a0_3, .int .i64 a0_4, .int .i64 a0_5, .string a0_6, .slice A0_7 l0_7.length c0_7, .slice A0_8 l0_8.length c0_8]] w fun e w' => e = .returned (.tuple #[.string r1, .int .i64 r2]) ∧ Below w.heap.size w w' := by
 have HG := am hG
 clear hG
 have hu25 := Tryd.underlying25
 have HR0_7 := am hr0_7
 have HC0_7 := am hc0_7
 clear hr0_7 hc0_7
 have HR0_8 := am hr0_8
 have HC0_8 := am hc0_8
 clear hr0_8 hc0_8
 have HB := am (Below.refl w.heap.size w)
 have H := h
 clear h
 unfold cmd_Encode.f at H
 replace H := obE H
 obtain ⟨t156, A2, H⟩ := H
 by_cases c3 : t156 = 0
 ·
  rw [if_pos c3] at H
  have c3b0 := beq_iff_eq.mpr c3
  have c3b1 := bne_eq_false_iff_eq.mpr c3
  clear c3
  replace H := obE H
  obtain ⟨t157, A4, H⟩ := H
  simp only [Option.some.injEq, Prod.mk.injEq] at H
  obtain ⟨rfl, rfl⟩ := H
  go_enter Tryd.func8, Tryd.ntmps8
  go_wp2_with (first | ((with_reducible refine gate_dst (N := 1) rfl ?_); refine bx 1 #[.int .i64 a0_0, .string a0_1, .string a0_2, .string a0_3, .int .i64 a0_4, .int .i64 a0_5, .string a0_6, .slice A0_7 l0_7.length c0_7, .slice A0_8 l0_8.length c0_8] 25 ?_; intro gb155 hg w5 hbox hb; have BK155 := am (hbox); have GW155 := gsz hg HB.out; have GE155 := gsz hg HB.out; replace HB := am (below_step (bw HB.out) hb); clear hb hbox hg; have hcz6_0 : w5.cell? ⟨gb155, 0, none⟩ = some (.int .i64 a0_0) := (blk_cell BK155.out 0).trans rfl; have hcz6_1 : w5.cell? ⟨gb155, 1, none⟩ = some (.string a0_1) := (blk_cell BK155.out 1).trans rfl; have hcz6_2 : w5.cell? ⟨gb155, 2, none⟩ = some (.string a0_2) := (blk_cell BK155.out 2).trans rfl; have hcz6_3 : w5.cell? ⟨gb155, 3, none⟩ = some (.string a0_3) := (blk_cell BK155.out 3).trans rfl; have hcz6_4 : w5.cell? ⟨gb155, 4, none⟩ = some (.int .i64 a0_4) := (blk_cell BK155.out 4).trans rfl; have hcz6_5 : w5.cell? ⟨gb155, 5, none⟩ = some (.int .i64 a0_5) := (blk_cell BK155.out 5).trans rfl; have hcz6_6 : w5.cell? ⟨gb155, 6, none⟩ = some (.string a0_6) := (blk_cell BK155.out 6).trans rfl; have hcz6_7 : w5.cell? ⟨gb155, 7, none⟩ = some (.slice A0_7 l0_7.length c0_7) := (blk_cell BK155.out 7).trans rfl; have hcz6_8 : w5.cell? ⟨gb155, 8, none⟩ = some (.slice A0_8 l0_8.length c0_8) := (blk_cell BK155.out 8).trans rfl; have hfz6_0 := blk_frozen BK155.out 0; have hfz6_1 := blk_frozen BK155.out 1; have hfz6_2 := blk_frozen BK155.out 2; have hfz6_3 := blk_frozen BK155.out 3; have hfz6_4 := blk_frozen BK155.out 4; have hfz6_5 := blk_frozen BK155.out 5; have hfz6_6 := blk_frozen BK155.out 6; have hfz6_7 := blk_frozen BK155.out 7; have hfz6_8 := blk_frozen BK155.out 8) | ((with_reducible refine gate_callee (f := 14) rfl ?_); refine goesL_ (some 5) rfl rfl Tryd.func14 (by kernel_rfl) rfl #[.agg #[.int .i64 a0_0, .string a0_1, .string a0_2, .string a0_3, .int .i64 a0_4, .int .i64 a0_5, .string a0_6, .slice A0_7 l0_7.length c0_7, .slice A0_8 l0_8.length c0_8]] rfl gl ?_; (with_reducible refine (cmd_Check.calls k a0_0 a0_1 a0_2 a0_3 a0_4 a0_5 a0_6 _ _ l0_7 _ _ l0_8 t156 _ ?side1 ?side2 ?side3 ?side4 A2.out ?sideG).mono ?_); (case sideG => first | exact HG.out | exact gg_below HG.out (bws HB.out)); (case side1 => exact kC (Kd.C_below HR0_7.out HB.out)); (case side2 => exact HC0_7.out); (case side3 => exact kC (Kd.C_below HR0_8.out HB.out)); (case side4 => exact HC0_8.out); rintro e w7 ⟨rfl, hb⟩; refine ⟨_, rfl, ?_⟩; replace BK155 := bb BK155.out hb; replace HB := am (below_step (bws HB.out) hb); (try clear hb); have hcz8_0 : w7.cell? ⟨gb155, 0, none⟩ = some (.int .i64 a0_0) := (blk_cell BK155.out 0).trans rfl; have hcz8_1 : w7.cell? ⟨gb155, 1, none⟩ = some (.string a0_1) := (blk_cell BK155.out 1).trans rfl; have hcz8_2 : w7.cell? ⟨gb155, 2, none⟩ = some (.string a0_2) := (blk_cell BK155.out 2).trans rfl; have hcz8_3 : w7.cell? ⟨gb155, 3, none⟩ = some (.string a0_3) := (blk_cell BK155.out 3).trans rfl; have hcz8_4 : w7.cell? ⟨gb155, 4, none⟩ = some (.int .i64 a0_4) := (blk_cell BK155.out 4).trans rfl; have hcz8_5 : w7.cell? ⟨gb155, 5, none⟩ = some (.int .i64 a0_5) := (blk_cell BK155.out 5).trans rfl; have hcz8_6 : w7.cell? ⟨gb155, 6, none⟩ = some (.string a0_6) := (blk_cell BK155.out 6).trans rfl; have hcz8_7 : w7.cell? ⟨gb155, 7, none⟩ = some (.slice A0_7 l0_7.length c0_7) := (blk_cell BK155.out 7).trans rfl; have hcz8_8 : w7.cell? ⟨gb155, 8, none⟩ = some (.slice A0_8 l0_8.length c0_8) := (blk_cell BK155.out 8).trans rfl; have hfz8_0 := blk_frozen BK155.out 0; have hfz8_1 := blk_frozen BK155.out 1; have hfz8_2 := blk_frozen BK155.out 2; have hfz8_3 := blk_frozen BK155.out 3; have hfz8_4 := blk_frozen BK155.out 4; have hfz8_5 := blk_frozen BK155.out 5; have hfz8_6 := blk_frozen BK155.out 6; have hfz8_7 := blk_frozen BK155.out 7; have hfz8_8 := blk_frozen BK155.out 8) | ((with_reducible refine gate_callee (f := 23) rfl ?_); refine goesL_ (some 8) rfl rfl Tryd.func23 (by kernel_rfl) rfl #[.agg #[.int .i64 a0_0, .string a0_1, .string a0_2, .string a0_3, .int .i64 a0_4, .int .i64 a0_5, .string a0_6, .slice A0_7 l0_7.length c0_7, .slice A0_8 l0_8.length c0_8]] rfl gl ?_; (with_reducible refine (cmd_told.calls k a0_0 a0_1 a0_2 a0_3 a0_4 a0_5 a0_6 _ _ l0_7 _ _ l0_8 t157 _ ?side1 ?side2 ?side3 ?side4 A4.out).mono ?_); (case side1 => exact kC (Kd.C_below HR0_7.out HB.out)); (case side2 => exact HC0_7.out); (case side3 => exact kC (Kd.C_below HR0_8.out HB.out)); (case side4 => exact HC0_8.out); rintro e w9 ⟨rfl, hb⟩; refine ⟨_, rfl, ?_⟩; replace BK155 := bb BK155.out hb; replace HB := am (below_step (bws HB.out) hb); (try clear hb)))
  go_ret2
  exact ⟨rf, bws HB.out⟩
 ·
  rw [if_neg c3] at H
  have c3b0 := beq_eq_false_iff_ne.mpr c3
  have c3b1 := bne_iff_ne.mpr c3
  simp only [Option.some.injEq, Prod.mk.injEq] at H
  obtain ⟨rfl, rfl⟩ := H
  go_enter Tryd.func8, Tryd.ntmps8
  go_wp2_with (first | ((with_reducible refine gate_dst (N := 1) rfl ?_); refine bx 1 #[.int .i64 a0_0, .string a0_1, .string a0_2, .string a0_3, .int .i64 a0_4, .int .i64 a0_5, .string a0_6, .slice A0_7 l0_7.length c0_7, .slice A0_8 l0_8.length c0_8] 25 ?_; intro gb155 hg w10 hbox hb; have BK155 := am (hbox); have GW155 := gsz hg HB.out; have GE155 := gsz hg HB.out; replace HB := am (below_step (bw HB.out) hb); clear hb hbox hg; have hcz11_0 : w10.cell? ⟨gb155, 0, none⟩ = some (.int .i64 a0_0) := (blk_cell BK155.out 0).trans rfl; have hcz11_1 : w10.cell? ⟨gb155, 1, none⟩ = some (.string a0_1) := (blk_cell BK155.out 1).trans rfl; have hcz11_2 : w10.cell? ⟨gb155, 2, none⟩ = some (.string a0_2) := (blk_cell BK155.out 2).trans rfl; have hcz11_3 : w10.cell? ⟨gb155, 3, none⟩ = some (.string a0_3) := (blk_cell BK155.out 3).trans rfl; have hcz11_4 : w10.cell? ⟨gb155, 4, none⟩ = some (.int .i64 a0_4) := (blk_cell BK155.out 4).trans rfl; have hcz11_5 : w10.cell? ⟨gb155, 5, none⟩ = some (.int .i64 a0_5) := (blk_cell BK155.out 5).trans rfl; have hcz11_6 : w10.cell? ⟨gb155, 6, none⟩ = some (.string a0_6) := (blk_cell BK155.out 6).trans rfl; have hcz11_7 : w10.cell? ⟨gb155, 7, none⟩ = some (.slice A0_7 l0_7.length c0_7) := (blk_cell BK155.out 7).trans rfl; have hcz11_8 : w10.cell? ⟨gb155, 8, none⟩ = some (.slice A0_8 l0_8.length c0_8) := (blk_cell BK155.out 8).trans rfl; have hfz11_0 := blk_frozen BK155.out 0; have hfz11_1 := blk_frozen BK155.out 1; have hfz11_2 := blk_frozen BK155.out 2; have hfz11_3 := blk_frozen BK155.out 3; have hfz11_4 := blk_frozen BK155.out 4; have hfz11_5 := blk_frozen BK155.out 5; have hfz11_6 := blk_frozen BK155.out 6; have hfz11_7 := blk_frozen BK155.out 7; have hfz11_8 := blk_frozen BK155.out 8) | ((with_reducible refine gate_callee (f := 14) rfl ?_); refine goesL_ (some 5) rfl rfl Tryd.func14 (by kernel_rfl) rfl #[.agg #[.int .i64 a0_0, .string a0_1, .string a0_2, .string a0_3, .int .i64 a0_4, .int .i64 a0_5, .string a0_6, .slice A0_7 l0_7.length c0_7, .slice A0_8 l0_8.length c0_8]] rfl gl ?_; (with_reducible refine (cmd_Check.calls k a0_0 a0_1 a0_2 a0_3 a0_4 a0_5 a0_6 _ _ l0_7 _ _ l0_8 t156 _ ?side1 ?side2 ?side3 ?side4 A2.out ?sideG).mono ?_); (case sideG => first | exact HG.out | exact gg_below HG.out (bws HB.out)); (case side1 => exact kC (Kd.C_below HR0_7.out HB.out)); (case side2 => exact HC0_7.out); (case side3 => exact kC (Kd.C_below HR0_8.out HB.out)); (case side4 => exact HC0_8.out); rintro e w12 ⟨rfl, hb⟩; refine ⟨_, rfl, ?_⟩; replace BK155 := bb BK155.out hb; replace HB := am (below_step (bws HB.out) hb); (try clear hb)))
  go_ret2
  exact ⟨rf, bws HB.out⟩
def stowagelaw13_Piece.l0 : Nat → List (S82) → List (S95) → Int → Option ((List (S95)))
 | 0, _, _, _ => none
 | k + 1, x0, x3, x4 => if x4 < (x0.length : Int) then (if 0 ≤ x4 then (if x3.length < 5864062014805 then (stowagelaw13_Piece.l0 k x0 (x3 ++ [(⟨(rd_T82 x0 x4).f0, (rd_T82 x0 x4).f1⟩ : S95)]) (wrap64 (x4 + 1))) else (none)) else (none)) else (some x3)
def stowagelaw13_Piece.f (k : Nat) (l0 : List (S82)) : Option ((List (S95))) := stowagelaw13_Piece.l0 k l0 ([] : List (S95)) 0
theorem stowagelaw13_Piece.mono_l : ∀ k, (∀ y0 y1 y2, LeO (stowagelaw13_Piece.l0 k y0 y1 y2) (stowagelaw13_Piece.l0 (k + 1) y0 y1 y2))
 | 0 => fun _ _ _ r h => by simp [stowagelaw13_Piece.l0] at h
 | k + 1 => by
  have ih0 := stowagelaw13_Piece.mono_l k
  ·
   intro y0 y1 y2
   unfold stowagelaw13_Piece.l0
   repeat' (with_reducible first | exact ih0 _ _ _ | exact LeO.refl _ | exact LeO.none _ | refine LeO.ite ?_ ?_ | refine LeO.bind ?_ (fun _ => ?_))
theorem stowagelaw13_Piece.mono : ∀ a0 k, LeO (stowagelaw13_Piece.f k a0) (stowagelaw13_Piece.f (k + 1) a0) := by
 intro a0 k
 have ih0 := stowagelaw13_Piece.mono_l k
 unfold stowagelaw13_Piece.f
 repeat' (with_reducible first | exact ih0 _ _ _ | exact LeO.refl _ | exact LeO.none _ | refine LeO.ite ?_ ?_ | refine LeO.bind ?_ (fun _ => ?_))
set_option maxHeartbeats 8000000 in
set_option maxRecDepth 100000 in
theorem stowagelaw13_Piece.calls (k : Nat) (A0 : Option Addr) (c0 : Nat) (l0 : List (S82)) (r : List (S95)) (w : World) (hr0 : Kd.C k82 w A0 l0.length l0) (hc0 : l0.length ≤ c0) (h : stowagelaw13_Piece.f k l0 = some r) :
  Calls Tryd.prog 25 #[.slice A0 l0.length c0] w fun e w' => ∃ v0_ : Value, e = .returned (v0_) ∧ Kd.R k95 95 w' w.heap.size (fun _ => True) v0_ r ∧ Below w.heap.size w w' := by
 have hu82 := Tryd.underlying82
 have HR0 := am hr0
 have HC0 := am hc0
 clear hr0 hc0
 have HB := am (Below.refl w.heap.size w)
 have H := h
 clear h
 unfold stowagelaw13_Piece.f at H
 have H' := am H
 clear H
 go_enter Tryd.func25, Tryd.ntmps25
 go_wp2
 go_loopg [3, 4] k (fun kq v3 v4 w' => ∃ (x3_1 : List (S95)) (x4_1 : Int), v4 = .int .i64 x4_1 ∧ Aside0 (stowagelaw13_Piece.l0 kq l0 x3_1 x4_1 = some r) ∧ Aside0 (kq ≤ k) ∧ Aside0 (Kd.R k95 95 w' w.heap.size (fun _ => True) v3 x3_1) ∧ Aside0 (Below w.heap.size w w'))
 case atStart => exact ⟨(([] : List (S95))), (0), rs, H', ⟨Nat.le_refl _⟩, ⟨niR⟩, ⟨bw HB.out⟩⟩
 case round =>
  clear H'
  obtain ⟨x3_1, x4_1, rfl, HA, HK1, HO_3, HB⟩ := hrel
  cases gk with
  | zero => exact absurd HA.out (by simp [stowagelaw13_Piece.l0])
  | succ k1 =>
   have H := HA.out
   clear HA
   simp only [stowagelaw13_Piece.l0] at H
   replace H := iteD H
   rcases H with ⟨c2b0, H⟩ | ⟨c2b0, H⟩
   ·
    replace H := iteD H
    rcases H with ⟨c3b0, H⟩ | ⟨_, H⟩
    ·
     by_cases c4 : x3_1.length < 5864062014805
     ·
      rw [if_pos c4] at H
      have LMc4 := am c4
      clear c4
      obtain ⟨y159, hy159⟩ : ∃ y_ : List (S95), y_ = (x3_1 ++ [(⟨(rd_T82 l0 x4_1).f0, (rd_T82 l0 x4_1).f1⟩ : S95)]) := ⟨_, rfl⟩
      replace H : (stowagelaw13_Piece.l0 k1 l0 y159 (wrap64 (x4_1 + 1))) = some r := by first | (rw [hy159]; with_reducible exact H) | (have H2_ := (Option.bind_some _ _).symm.trans H; rw [hy159]; with_reducible exact H2_) | (have H2_ := (Option.bind_some _ _).symm.trans H; with_reducible exact H2_) | with_reducible exact H | (rw [hy159]; exact H) | exact H
      have Ny159 := am hy159
      clear hy159
      have H' := am H
      clear H
      have p158 := pz x4_1
      have q158 := pl x4_1 (l0.length : Int)
      obtain ⟨ad158, e158, hx158_0, hx158_1⟩ := at_T82 HR0.out x4_1 (of_eq_true p158) (of_eq_true q158)
      cases e158
      replace hx158_0 := bc HB.out hx158_0
      replace hx158_1 := bc HB.out hx158_1
      go_wp2_with (first | ((with_reducible refine gate_builtin (b := .append) (xs := #[.tmp 11, .tmp 16]) rfl ?_); at_builtin; refine Kd.R_append k95 (w0 := w) w.heap.size rfl (.tmp 11) (.tmp 16) 31 95 (.agg #[(.string ⟨#[]⟩), (.int .i64 0)]) 24 rfl Tryd.underlying31 info95 rfl (by decide) (by omega) u3 x3_1 (⟨(rd_T82 l0 x4_1).f0, (rd_T82 l0 x4_1).f1⟩ : S95) [.string ((rd_T82 l0 x4_1).f0), .int .i64 ((rd_T82 l0 x4_1).f1)] (fun _ => True) (fun _ => False) rfl rfl ?aP (fun _ hk => hk.elim) ?aF ?aO ?aB ?aS ?aL ?_; (case aP => exact k95_mkM _ _ _ (⟨(rd_T82 l0 x4_1).f0, (rd_T82 l0 x4_1).f1⟩ : S95)); (case aB => exact (bw HB.out)); (case aF => exact (fun _ _ => trivial)); (case aO => exact (kR HO_3.out)); (case aS => exact (below_size (bw HB.out))); (case aL => have := LMc4.out; omega); intro v160 w5 ho hb hg hat; rw [← Ny159.out] at ho; have n0_ := am (hb); have n1_ := am (ho); clear HB; clear HO_3; have HB := n0_; have HO161 := n1_; clear n0_ n1_; clear ho hb hg hat))
      go_roundg k1
      case measure => have := HK1.out; omega
      case rel => exact ⟨(y159), (wrap64 (x4_1 + 1)), rs, H', ⟨by have := HK1.out; omega⟩, ⟨kR HO161.out⟩, ⟨bw HB.out⟩⟩
     ·
      rw [if_neg c4] at H
      exact absurd H (by simp)
    ·
     exact absurd H (by simp)
   ·
    obtain rfl := Option.some.inj H
    go_wp2
    go_ret
    exact ⟨_, rf, kR HO_3.out, bw HB.out⟩
def stowagelaw16_Ref.l0 : Nat → List (S61) → Int → Int → ByteArray → ByteArray → ByteArray → Int → Int → ByteArray → List (S82) → List (S62) → Option (Int × ByteArray × ByteArray × ByteArray × Int × Int × ByteArray × (List (S95)) × (List (S61)))
 | 0, _, _, _, _, _, _, _, _, _, _, _ => none
 | k + 1, x3, x4, x163000, x163001, x163002, x163003, x163004, x163005, x163006, x163007, x163008 => if x4 < (x163008.length : Int) then (if 0 ≤ x4 then (if x3.length < 5864062014805 then (stowagelaw16_Ref.l0 k (x3 ++ [(⟨(rd_T62 x163008 x4).f0, (rd_T62 x163008 x4).f1⟩ : S61)]) (wrap64 (x4 + 1)) x163000 x163001 x163002 x163003 x163004 x163005 x163006 x163007 x163008) else (none)) else (none)) else ((stowagelaw13_Piece.f k x163007).bind fun t168 => (some (x163000, x163001, x163002, x163003, x163004, x163005, x163006, t168, x3)))
def stowagelaw16_Ref.f (k : Nat) (a0_0 : Int) (a0_1 : ByteArray) (a0_2 : ByteArray) (a0_3 : ByteArray) (a0_4 : Int) (a0_5 : Int) (a0_6 : ByteArray) (l0_7 : List (S82)) (l0_8 : List (S62)) : Option (Int × ByteArray × ByteArray × ByteArray × Int × Int × ByteArray × (List (S95)) × (List (S61))) := stowagelaw16_Ref.l0 k ([] : List (S61)) 0 a0_0 a0_1 a0_2 a0_3 a0_4 a0_5 a0_6 l0_7 l0_8
theorem stowagelaw16_Ref.mono_l : ∀ k, (∀ y0 y1 y2 y3 y4 y5 y6 y7 y8 y9 y10, LeO (stowagelaw16_Ref.l0 k y0 y1 y2 y3 y4 y5 y6 y7 y8 y9 y10) (stowagelaw16_Ref.l0 (k + 1) y0 y1 y2 y3 y4 y5 y6 y7 y8 y9 y10))
 | 0 => fun _ _ _ _ _ _ _ _ _ _ _ r h => by simp [stowagelaw16_Ref.l0] at h
 | k + 1 => by
  have ih0 := stowagelaw16_Ref.mono_l k
  ·
   intro y0 y1 y2 y3 y4 y5 y6 y7 y8 y9 y10
   unfold stowagelaw16_Ref.l0
   repeat' (with_reducible first | exact ih0 _ _ _ _ _ _ _ _ _ _ _ | exact stowagelaw13_Piece.mono _ _ | exact LeO.refl _ | exact LeO.none _ | refine LeO.ite ?_ ?_ | refine LeO.bind ?_ (fun _ => ?_))
theorem stowagelaw16_Ref.mono : ∀ a0 a1 a2 a3 a4 a5 a6 a7 a8 k, LeO (stowagelaw16_Ref.f k a0 a1 a2 a3 a4 a5 a6 a7 a8) (stowagelaw16_Ref.f (k + 1) a0 a1 a2 a3 a4 a5 a6 a7 a8) := by
 intro a0 a1 a2 a3 a4 a5 a6 a7 a8 k
 have ih0 := stowagelaw16_Ref.mono_l k
 unfold stowagelaw16_Ref.f
 repeat' (with_reducible first | exact ih0 _ _ _ _ _ _ _ _ _ _ _ | exact stowagelaw13_Piece.mono _ _ | exact LeO.refl _ | exact LeO.none _ | refine LeO.ite ?_ ?_ | refine LeO.bind ?_ (fun _ => ?_))
def stowagelaw16_Ref.T6 : Bool × List (List Nat × List Nat) := (true, [([], []), ([0], [0]), ([], []), ([2], [2]), ([], []), ([4], [4]), ([], []), ([6], [6]), ([], []), ([8], [8]), ([], []), ([10], [10]), ([], []), ([12], [12]), ([], []), ([14], [14]), ([15], [15]), ([], []), ([1, 3, 5, 7, 9, 11, 13, 16, 17], [1, 3, 5, 7, 9, 11, 13, 16, 17]), ([18, 16, 0, 1, 2, 3, 4, 5, 6, 7, 8, 9, 10, 11, 12, 13, 14, 15, 16, 17, 18], [18])])
def stowagelaw16_Ref.B6 : List Nat := [0, 1, 0, 4, 0, 16, 0, 64, 0, 256, 0, 1024, 0, 4096, 0, 16384, 49152, 0, 262143, 524287]
theorem stowagelaw16_Ref.tab6 : rtab .any (opsOf Tryd.f10 6) = stowagelaw16_Ref.T6 := by kernel_rfl
theorem stowagelaw16_Ref.bits6 : waitsOk stowagelaw16_Ref.T6.2 stowagelaw16_Ref.B6 = true := by kernel_rfl
set_option maxHeartbeats 8000000 in
set_option maxRecDepth 100000 in
theorem stowagelaw16_Ref.calls (k : Nat) (a0_0 : Int) (a0_1 : ByteArray) (a0_2 : ByteArray) (a0_3 : ByteArray) (a0_4 : Int) (a0_5 : Int) (a0_6 : ByteArray) (A0_7 : Option Addr) (c0_7 : Nat) (l0_7 : List (S82)) (A0_8 : Option Addr) (c0_8 : Nat) (l0_8 : List (S62)) (r1 : Int) (r2 : ByteArray) (r3 : ByteArray) (r4 : ByteArray) (r5 : Int) (r6 : Int) (r7 : ByteArray) (r8 : List (S95)) (r9 : List (S61)) (w : World) (hr0_7 : Kd.C k82 w A0_7 l0_7.length l0_7) (hc0_7 : l0_7.length ≤ c0_7) (hr0_8 : Kd.C k62 w A0_8 l0_8.length l0_8) (hc0_8 : l0_8.length ≤ c0_8) (h : stowagelaw16_Ref.f k a0_0 a0_1 a0_2 a0_3 a0_4 a0_5 a0_6 l0_7 l0_8 = some (r1, r2, r3, r4, r5, r6, r7, r8, r9)) :
  Calls Tryd.prog 10 #[.agg #[.int .i64 a0_0, .string a0_1, .string a0_2, .string a0_3, .int .i64 a0_4, .int .i64 a0_5, .string a0_6, .slice A0_7 l0_7.length c0_7, .slice A0_8 l0_8.length c0_8]] w fun e w' => ∃ v7_ v8_ : Value, e = .returned (.agg #[.int .i64 r1, .string r2, .string r3, .string r4, .int .i64 r5, .int .i64 r6, .string r7, v7_, v8_]) ∧ Kd.R k95 95 w' w.heap.size (fun _ => True) v7_ r8 ∧ Kd.R k61 61 w' w.heap.size (fun _ => True) v8_ r9 ∧ Below w.heap.size w w' := by
 have hu25 := Tryd.underlying25
 have hu34 := Tryd.underlying34
 have hu62 := Tryd.underlying62
 have HR0_7 := am hr0_7
 have HC0_7 := am hc0_7
 clear hr0_7 hc0_7
 have HR0_8 := am hr0_8
 have HC0_8 := am hc0_8
 clear hr0_8 hc0_8
 have HB := am (Below.refl w.heap.size w)
 have H := h
 clear h
 unfold stowagelaw16_Ref.f at H
 have H' := am H
 clear H
 go_enter Tryd.func10, Tryd.ntmps10
 go_wp2_with (first | ((with_reducible refine gate_dst (N := 1) rfl ?_); refine bx 1 #[.int .i64 a0_0, .string a0_1, .string a0_2, .string a0_3, .int .i64 a0_4, .int .i64 a0_5, .string a0_6, .slice A0_7 l0_7.length c0_7, .slice A0_8 l0_8.length c0_8] 25 ?_; intro gb162 hg w2 hbox hb; have BK162 := am (hbox); have GW162 := gsz hg HB.out; have GE162 := gsz hg HB.out; replace HB := am (below_step (bw HB.out) hb); clear hb hbox hg) | ((with_reducible refine gate_dst (N := 2) rfl ?_); refine bx 2 #[.int .i64 0, .string (⟨#[]⟩ : ByteArray), .string (⟨#[]⟩ : ByteArray), .string (⟨#[]⟩ : ByteArray), .int .i64 0, .int .i64 0, .string (⟨#[]⟩ : ByteArray), .slice none 0 0, .slice none 0 0] 34 ?_; intro gb163 hg w3 hbox hb; have BK163 := am (hbox); have GW163 := gsz hg HB.out; have GE163 := gsz hg HB.out; have NB162_163 := nlt (g := gb162) hg BK162.out; have NB163_162 := ngt (g := gb162) hg BK162.out; replace BK162 := bb BK162.out hb; replace HB := am (below_step (bws HB.out) hb); clear hb hbox hg))
 go_loopg [3, 4] k (fun kq v3 v4 w' => ∃ (x3_1 : List (S61)) (x4_1 : Int), v4 = .int .i64 x4_1 ∧ Aside0 (stowagelaw16_Ref.l0 kq x3_1 x4_1 a0_0 a0_1 a0_2 a0_3 a0_4 a0_5 a0_6 l0_7 l0_8 = some (r1, r2, r3, r4, r5, r6, r7, r8, r9)) ∧ Aside0 (kq ≤ k) ∧ Aside0 (Kd.R k61 61 w' w.heap.size (fun _ => True) v3 x3_1) ∧ Aside0 (w'.heap[gb162]? = some (.cells #[.int .i64 a0_0, .string a0_1, .string a0_2, .string a0_3, .int .i64 a0_4, .int .i64 a0_5, .string a0_6, (.slice A0_7 l0_7.length c0_7), (.slice A0_8 l0_8.length c0_8)] 25 (0, 0))) ∧ Aside0 (w'.heap[gb163]? = some (.cells #[.int .i64 0, .string (⟨#[]⟩ : ByteArray), .string (⟨#[]⟩ : ByteArray), .string (⟨#[]⟩ : ByteArray), .int .i64 0, .int .i64 0, .string (⟨#[]⟩ : ByteArray), (.slice none 0 0), (.slice none 0 0)] 34 (0, 0))) ∧ Aside0 (Below w.heap.size w w'))
 case atStart => exact ⟨(([] : List (S61))), (0), rs, H', ⟨Nat.le_refl _⟩, ⟨niR⟩, ⟨bk BK162.out⟩, ⟨bk BK163.out⟩, ⟨bws HB.out⟩⟩
 case round =>
  clear H'
  try clear c1
  try clear p2
  obtain ⟨x3_1, x4_1, rfl, HA, HK1, HO_3, BK162, BK163, HB⟩ := hrel
  cases gk with
  | zero => exact absurd HA.out (by simp [stowagelaw16_Ref.l0])
  | succ k1 =>
   have H := HA.out
   clear HA
   simp only [stowagelaw16_Ref.l0] at H
   replace H := iteD H
   rcases H with ⟨c4b0, H⟩ | ⟨c4b0, H⟩
   ·
    replace H := iteD H
    rcases H with ⟨c5b0, H⟩ | ⟨_, H⟩
    ·
     by_cases c6 : x3_1.length < 5864062014805
     ·
      rw [if_pos c6] at H
      have LMc6 := am c6
      clear c6
      obtain ⟨y165, hy165⟩ : ∃ y_ : List (S61), y_ = (x3_1 ++ [(⟨(rd_T62 l0_8 x4_1).f0, (rd_T62 l0_8 x4_1).f1⟩ : S61)]) := ⟨_, rfl⟩
      replace H : (stowagelaw16_Ref.l0 k1 y165 (wrap64 (x4_1 + 1)) a0_0 a0_1 a0_2 a0_3 a0_4 a0_5 a0_6 l0_7 l0_8) = some (r1, r2, r3, r4, r5, r6, r7, r8, r9) := by first | (rw [hy165]; with_reducible exact H) | (have H2_ := (Option.bind_some _ _).symm.trans H; rw [hy165]; with_reducible exact H2_) | (have H2_ := (Option.bind_some _ _).symm.trans H; with_reducible exact H2_) | with_reducible exact H | (rw [hy165]; exact H) | exact H
      have Ny165 := am hy165
      clear hy165
      have H' := am H
      clear H
      have hnb7 := NB162_163.out
      have hnc7 := NB163_162.out
      have hcz8_0 : wr.cell? ⟨gb162, 0, none⟩ = some (.int .i64 a0_0) := (blk_cell BK162.out 0).trans rfl
      have hcz8_1 : wr.cell? ⟨gb162, 1, none⟩ = some (.string a0_1) := (blk_cell BK162.out 1).trans rfl
      have hcz8_2 : wr.cell? ⟨gb162, 2, none⟩ = some (.string a0_2) := (blk_cell BK162.out 2).trans rfl
      have hcz8_3 : wr.cell? ⟨gb162, 3, none⟩ = some (.string a0_3) := (blk_cell BK162.out 3).trans rfl
      have hcz8_4 : wr.cell? ⟨gb162, 4, none⟩ = some (.int .i64 a0_4) := (blk_cell BK162.out 4).trans rfl
      have hcz8_5 : wr.cell? ⟨gb162, 5, none⟩ = some (.int .i64 a0_5) := (blk_cell BK162.out 5).trans rfl
      have hcz8_6 : wr.cell? ⟨gb162, 6, none⟩ = some (.string a0_6) := (blk_cell BK162.out 6).trans rfl
      have hcz8_7 : wr.cell? ⟨gb162, 7, none⟩ = some (.slice A0_7 l0_7.length c0_7) := (blk_cell BK162.out 7).trans rfl
      have hcz8_8 : wr.cell? ⟨gb162, 8, none⟩ = some (.slice A0_8 l0_8.length c0_8) := (blk_cell BK162.out 8).trans rfl
      have hfz8_0 := blk_frozen BK162.out 0
      have hfz8_1 := blk_frozen BK162.out 1
      have hfz8_2 := blk_frozen BK162.out 2
      have hfz8_3 := blk_frozen BK162.out 3
      have hfz8_4 := blk_frozen BK162.out 4
      have hfz8_5 := blk_frozen BK162.out 5
      have hfz8_6 := blk_frozen BK162.out 6
      have hfz8_7 := blk_frozen BK162.out 7
      have hfz8_8 := blk_frozen BK162.out 8
      have p164 := pz x4_1
      have q164 := pl x4_1 (l0_8.length : Int)
      obtain ⟨ad164, e164, hx164_0, hx164_1⟩ := at_T62 HR0_8.out x4_1 (of_eq_true p164) (of_eq_true q164)
      cases e164
      replace hx164_0 := bc HB.out hx164_0
      replace hx164_1 := bc HB.out hx164_1
      go_wp2_with (first | ((with_reducible refine gate_builtin (b := .append) (xs := #[.tmp 12, .tmp 18]) rfl ?_); at_builtin; refine Kd.R_append k61 (w0 := w) w.heap.size rfl (.tmp 12) (.tmp 18) 32 61 (.agg #[(.int .i64 0), (.string ⟨#[]⟩)]) 24 rfl Tryd.underlying32 info61 rfl (by decide) (by omega) u3 x3_1 (⟨(rd_T62 l0_8 x4_1).f0, (rd_T62 l0_8 x4_1).f1⟩ : S61) [.int .i64 ((rd_T62 l0_8 x4_1).f0), .string ((rd_T62 l0_8 x4_1).f1)] (fun _ => True) (fun _ => False) rfl rfl ?aP (fun _ hk => hk.elim) ?aF ?aO ?aB ?aS ?aL ?_; (case aP => exact k61_mkM _ _ _ (⟨(rd_T62 l0_8 x4_1).f0, (rd_T62 l0_8 x4_1).f1⟩ : S61)); (case aB => exact (bws HB.out)); (case aF => exact (fun _ _ => trivial)); (case aO => exact (kR HO_3.out)); (case aS => exact (below_size (bws HB.out))); (case aL => have := LMc6.out; omega); intro v166 w9 ho hb hg hat; rw [← Ny165.out] at ho; have n0_ := am (blk_grown (g := gb162) (o := .cells #[.int .i64 a0_0, .string a0_1, .string a0_2, .string a0_3, .int .i64 a0_4, .int .i64 a0_5, .string a0_6, .slice A0_7 l0_7.length c0_7, .slice (some ad164) l0_8.length c0_8] 25 (0, 0)) (bk BK162.out) hg (Kd.R_ne HO_3.out BK162.out (by decide))); have n1_ := am (blk_grown (g := gb163) (o := .cells #[.int .i64 0, .string (⟨#[]⟩ : ByteArray), .string (⟨#[]⟩ : ByteArray), .string (⟨#[]⟩ : ByteArray), .int .i64 0, .int .i64 0, .string (⟨#[]⟩ : ByteArray), .slice none 0 0, .slice none 0 0] 34 (0, 0)) (bk BK163.out) hg (Kd.R_ne HO_3.out BK163.out (by decide))); have n2_ := am (hb); have n3_ := am (ho); clear BK162; clear BK163; clear HB; clear HO_3; have BK162 := n0_; have BK163 := n1_; have HB := n2_; have HO167 := n3_; clear n0_ n1_ n2_ n3_; clear ho hb hg hat))
      go_roundg k1
      case measure => have := HK1.out; omega
      case rel => exact ⟨(y165), (wrap64 (x4_1 + 1)), rs, H', ⟨by have := HK1.out; omega⟩, ⟨kR HO167.out⟩, ⟨bk BK162.out⟩, ⟨bk BK163.out⟩, ⟨bws HB.out⟩⟩
     ·
      rw [if_neg c6] at H
      exact absurd H (by simp)
    ·
     exact absurd H (by simp)
   ·
    replace H := obE H
    obtain ⟨t168, A10, H⟩ := H
    simp only [Option.some.injEq, Prod.mk.injEq] at H
    obtain ⟨rfl, rfl, rfl, rfl, rfl, rfl, rfl, rfl, rfl⟩ := H
    have hnb11 := NB162_163.out
    have hnc11 := NB163_162.out
    have hcz12_0 : wr.cell? ⟨gb162, 0, none⟩ = some (.int .i64 a0_0) := (blk_cell BK162.out 0).trans rfl
    have hcz12_1 : wr.cell? ⟨gb162, 1, none⟩ = some (.string a0_1) := (blk_cell BK162.out 1).trans rfl
    have hcz12_2 : wr.cell? ⟨gb162, 2, none⟩ = some (.string a0_2) := (blk_cell BK162.out 2).trans rfl
    have hcz12_3 : wr.cell? ⟨gb162, 3, none⟩ = some (.string a0_3) := (blk_cell BK162.out 3).trans rfl
    have hcz12_4 : wr.cell? ⟨gb162, 4, none⟩ = some (.int .i64 a0_4) := (blk_cell BK162.out 4).trans rfl
    have hcz12_5 : wr.cell? ⟨gb162, 5, none⟩ = some (.int .i64 a0_5) := (blk_cell BK162.out 5).trans rfl
    have hcz12_6 : wr.cell? ⟨gb162, 6, none⟩ = some (.string a0_6) := (blk_cell BK162.out 6).trans rfl
    have hcz12_7 : wr.cell? ⟨gb162, 7, none⟩ = some (.slice A0_7 l0_7.length c0_7) := (blk_cell BK162.out 7).trans rfl
    have hcz12_8 : wr.cell? ⟨gb162, 8, none⟩ = some (.slice A0_8 l0_8.length c0_8) := (blk_cell BK162.out 8).trans rfl
    have hfz12_0 := blk_frozen BK162.out 0
    have hfz12_1 := blk_frozen BK162.out 1
    have hfz12_2 := blk_frozen BK162.out 2
    have hfz12_3 := blk_frozen BK162.out 3
    have hfz12_4 := blk_frozen BK162.out 4
    have hfz12_5 := blk_frozen BK162.out 5
    have hfz12_6 := blk_frozen BK162.out 6
    have hfz12_7 := blk_frozen BK162.out 7
    have hfz12_8 := blk_frozen BK162.out 8
    try go_wp2
    replace HO_3 := am (Kd.R_drew HO_3.out)
    replace BK162 := am (blk_drew BK162.out)
    replace BK163 := am (blk_drew BK163.out)
    replace HB := am (below_drew1 HB.out)
    refine start_ (n := 20) (S := fun w' => w'.cell? ⟨gb162, 0, none⟩ = some (.int .i64 a0_0) ∧ w'.cell? ⟨gb162, 1, none⟩ = some (.string a0_1) ∧ w'.cell? ⟨gb162, 2, none⟩ = some (.string a0_2) ∧ w'.cell? ⟨gb162, 3, none⟩ = some (.string a0_3) ∧ w'.cell? ⟨gb162, 4, none⟩ = some (.int .i64 a0_4) ∧ w'.cell? ⟨gb162, 5, none⟩ = some (.int .i64 a0_5) ∧ w'.cell? ⟨gb162, 6, none⟩ = some (.string a0_6) ∧ w'.cell? ⟨gb162, 7, none⟩ = some (.slice A0_7 l0_7.length c0_7) ∧ w'.cell? ⟨gb162, 8, none⟩ = some (.slice A0_8 l0_8.length c0_8)) (ds := []) #[false, false, false, false, false, false, false, false, false, false, false, false, false, false, false, false, false, false, false, false] (by kernel_rfl) rfl rfl ⟨(blk_cell BK162.out 0).trans rfl, (blk_cell BK162.out 1).trans rfl, (blk_cell BK162.out 2).trans rfl, (blk_cell BK162.out 3).trans rfl, (blk_cell BK162.out 4).trans rfl, (blk_cell BK162.out 5).trans rfl, (blk_cell BK162.out 6).trans rfl, (blk_cell BK162.out 7).trans rfl, (blk_cell BK162.out 8).trans rfl⟩ (fun hHeld => ?_); refine with_tabW stowagelaw16_Ref.tab6 stowagelaw16_Ref.bits6 (fun HT_ HW_ => ?_)
    generalize wr.drew = w13 at HO_3 BK162 BK163 HB hHeld ⊢
    refine pu 0 (some 20) HT_.out ?_
    refine pu 2 (some 22) HT_.out ?_
    refine pu 4 (some 24) HT_.out ?_
    refine pu 6 (some 26) HT_.out ?_
    refine pu 8 (some 28) HT_.out ?_
    refine pu 10 (some 30) HT_.out ?_
    refine pu 12 (some 32) HT_.out ?_
    refine pu 14 (some 34) HT_.out ?_
    refine pu 17 (some 37) HT_.out ?_
    refine tk 1 (some 21) HT_.out HW_.out hHeld ?_
    refine tk 3 (some 23) HT_.out HW_.out hHeld ?_
    refine tk 5 (some 25) HT_.out HW_.out hHeld ?_
    refine tk 7 (some 27) HT_.out HW_.out hHeld ?_
    refine tk 9 (some 29) HT_.out HW_.out hHeld ?_
    refine tk 11 (some 31) HT_.out HW_.out hHeld ?_
    refine tk 13 (some 33) HT_.out HW_.out hHeld ?_
    refine tk 15 (some 35) HT_.out HW_.out hHeld ?_
    refine one_ (i := 16) (N := some 36) #[true, true, true, true, true, true, true, true, true, true, true, true, true, true, true, true, true, true, false, false] rfl rfl (one_of HT_.out (by kernel_rfl)) (by decide) (fun K hK => ?_)
    refine goes_ Tryd.func25 (by kernel_rfl) rfl #[.slice A0_7 l0_7.length c0_7] (by rfl) rfl rfl gl ?_
    with_reducible refine (stowagelaw13_Piece.calls k1 _ _ l0_7 t168 _ ?side1 ?side2 A10.out).mono ?_
    (case side1 => exact kC (Kd.C_below HR0_7.out HB.out))
    (case side2 => exact HC0_7.out)
    rintro e w14 ⟨v169, rfl, ho0, hb⟩
    refine ⟨_, rfl, ?_⟩
    replace HO_3 := am (Kd.R_below (kR HO_3.out) hb)
    have HO170 := am (Kd.R_lower ho0 (below_size (bws HB.out)))
    replace BK162 := bb BK162.out hb
    replace BK163 := bb BK163.out hb
    replace HB := am (below_step (bws HB.out) hb)
    (try clear hb)
    (try clear hb2)
    (try clear hk)
    (try clear hi)
    (try clear ho0)
    obtain ⟨Ao15, co15, eo15⟩ := Kd.R_slice HO_3.out
    (first | subst eo15 | (injection eo15 with f1_ f2_ f3_; have f4_ := f1_.symm; have f5_ := f3_.symm; clear f1_ f2_ f3_; subst f4_; subst f5_))
    obtain ⟨Ao16, co16, eo16⟩ := Kd.R_slice HO170.out
    (first | subst eo16 | (injection eo16 with f1_ f2_ f3_; have f4_ := f1_.symm; have f5_ := f3_.symm; clear f1_ f2_ f3_; subst f4_; subst f5_))
    refine hK.out _ _ ⟨(blk_cell BK162.out 0).trans rfl, (blk_cell BK162.out 1).trans rfl, (blk_cell BK162.out 2).trans rfl, (blk_cell BK162.out 3).trans rfl, (blk_cell BK162.out 4).trans rfl, (blk_cell BK162.out 5).trans rfl, (blk_cell BK162.out 6).trans rfl, (blk_cell BK162.out 7).trans rfl, (blk_cell BK162.out 8).trans rfl⟩ (fun hHeld => ?_)
    clear hK K
    refine norm_ (a' := ?_) ?_ ?_
    rotate_left
    ·
     show Act.put _ (some 36) _ = _
     simp only [Act.put, List.setIfInBounds_toArray, List.set_cons_zero, List.set_cons_succ, i64_w, i32_w]
     rfl
    refine pu 18 (some 38) HT_.out ?_
    refine one_ (i := 19) (N := none) #[true, true, true, true, true, true, true, true, true, true, true, true, true, true, true, true, true, true, true, true] rfl rfl (one_of HT_.out (by kernel_rfl)) (by decide) (fun K hK => ?_)
    have hs17 : w14.cell? ⟨gb163, 0, none⟩ = some (.int .i64 0) := (blk_cell BK163.out 0).trans rfl
    have hfs17 := blk_frozen BK163.out 0
    have hns17_0 := NB162_163.out
    have hms17_0 := NB163_162.out
    have hs18 : w14.cell? ⟨gb163, 1, none⟩ = some (.string (⟨#[]⟩ : ByteArray)) := (blk_cell BK163.out 1).trans rfl
    have hfs18 := blk_frozen BK163.out 1
    have hns18_0 := NB162_163.out
    have hms18_0 := NB163_162.out
    have hs19 : w14.cell? ⟨gb163, 2, none⟩ = some (.string (⟨#[]⟩ : ByteArray)) := (blk_cell BK163.out 2).trans rfl
    have hfs19 := blk_frozen BK163.out 2
    have hns19_0 := NB162_163.out
    have hms19_0 := NB163_162.out
    have hs20 : w14.cell? ⟨gb163, 3, none⟩ = some (.string (⟨#[]⟩ : ByteArray)) := (blk_cell BK163.out 3).trans rfl
    have hfs20 := blk_frozen BK163.out 3
    have hns20_0 := NB162_163.out
    have hms20_0 := NB163_162.out
    have hs21 : w14.cell? ⟨gb163, 4, none⟩ = some (.int .i64 0) := (blk_cell BK163.out 4).trans rfl
    have hfs21 := blk_frozen BK163.out 4
    have hns21_0 := NB162_163.out
    have hms21_0 := NB163_162.out
    have hs22 : w14.cell? ⟨gb163, 5, none⟩ = some (.int .i64 0) := (blk_cell BK163.out 5).trans rfl
    have hfs22 := blk_frozen BK163.out 5
    have hns22_0 := NB162_163.out
    have hms22_0 := NB163_162.out
    have hs23 : w14.cell? ⟨gb163, 6, none⟩ = some (.string (⟨#[]⟩ : ByteArray)) := (blk_cell BK163.out 6).trans rfl
    have hfs23 := blk_frozen BK163.out 6
    have hns23_0 := NB162_163.out
    have hms23_0 := NB163_162.out
    have hs24 : w14.cell? ⟨gb163, 7, none⟩ = some (.slice none 0 0) := (blk_cell BK163.out 7).trans rfl
    have hfs24 := blk_frozen BK163.out 7
    have hns24_0 := NB162_163.out
    have hms24_0 := NB163_162.out
    have hs25 : w14.cell? ⟨gb163, 8, none⟩ = some (.slice none 0 0) := (blk_cell BK163.out 8).trans rfl
    have hfs25 := blk_frozen BK163.out 8
    have hns25_0 := NB162_163.out
    have hms25_0 := NB163_162.out
    refine skip_ (w1 := ?_) (by rfl) rfl ?_ ?_
    rotate_left
    ·
     go_simp
     rfl
    refine hK.out _ _ ⟨((cell_far (p := ⟨gb163, _, none⟩) NB162_163.out _).trans (((cell_far (p := ⟨gb163, _, none⟩) NB162_163.out _).trans (((cell_far (p := ⟨gb163, _, none⟩) NB162_163.out _).trans (((cell_far (p := ⟨gb163, _, none⟩) NB162_163.out _).trans (((cell_far (p := ⟨gb163, _, none⟩) NB162_163.out _).trans (((cell_far (p := ⟨gb163, _, none⟩) NB162_163.out _).trans (((cell_far (p := ⟨gb163, _, none⟩) NB162_163.out _).trans (((cell_far (p := ⟨gb163, _, none⟩) NB162_163.out _).trans (((cell_far (p := ⟨gb163, _, none⟩) NB162_163.out _).trans (hHeld.1)))))))))))))))))), ((cell_far (p := ⟨gb163, _, none⟩) NB162_163.out _).trans (((cell_far (p := ⟨gb163, _, none⟩) NB162_163.out _).trans (((cell_far (p := ⟨gb163, _, none⟩) NB162_163.out _).trans (((cell_far (p := ⟨gb163, _, none⟩) NB162_163.out _).trans (((cell_far (p := ⟨gb163, _, none⟩) NB162_163.out _).trans (((cell_far (p := ⟨gb163, _, none⟩) NB162_163.out _).trans (((cell_far (p := ⟨gb163, _, none⟩) NB162_163.out _).trans (((cell_far (p := ⟨gb163, _, none⟩) NB162_163.out _).trans (((cell_far (p := ⟨gb163, _, none⟩) NB162_163.out _).trans (hHeld.2.1)))))))))))))))))), ((cell_far (p := ⟨gb163, _, none⟩) NB162_163.out _).trans (((cell_far (p := ⟨gb163, _, none⟩) NB162_163.out _).trans (((cell_far (p := ⟨gb163, _, none⟩) NB162_163.out _).trans (((cell_far (p := ⟨gb163, _, none⟩) NB162_163.out _).trans (((cell_far (p := ⟨gb163, _, none⟩) NB162_163.out _).trans (((cell_far (p := ⟨gb163, _, none⟩) NB162_163.out _).trans (((cell_far (p := ⟨gb163, _, none⟩) NB162_163.out _).trans (((cell_far (p := ⟨gb163, _, none⟩) NB162_163.out _).trans (((cell_far (p := ⟨gb163, _, none⟩) NB162_163.out _).trans (hHeld.2.2.1)))))))))))))))))), ((cell_far (p := ⟨gb163, _, none⟩) NB162_163.out _).trans (((cell_far (p := ⟨gb163, _, none⟩) NB162_163.out _).trans (((cell_far (p := ⟨gb163, _, none⟩) NB162_163.out _).trans (((cell_far (p := ⟨gb163, _, none⟩) NB162_163.out _).trans (((cell_far (p := ⟨gb163, _, none⟩) NB162_163.out _).trans (((cell_far (p := ⟨gb163, _, none⟩) NB162_163.out _).trans (((cell_far (p := ⟨gb163, _, none⟩) NB162_163.out _).trans (((cell_far (p := ⟨gb163, _, none⟩) NB162_163.out _).trans (((cell_far (p := ⟨gb163, _, none⟩) NB162_163.out _).trans (hHeld.2.2.2.1)))))))))))))))))), ((cell_far (p := ⟨gb163, _, none⟩) NB162_163.out _).trans (((cell_far (p := ⟨gb163, _, none⟩) NB162_163.out _).trans (((cell_far (p := ⟨gb163, _, none⟩) NB162_163.out _).trans (((cell_far (p := ⟨gb163, _, none⟩) NB162_163.out _).trans (((cell_far (p := ⟨gb163, _, none⟩) NB162_163.out _).trans (((cell_far (p := ⟨gb163, _, none⟩) NB162_163.out _).trans (((cell_far (p := ⟨gb163, _, none⟩) NB162_163.out _).trans (((cell_far (p := ⟨gb163, _, none⟩) NB162_163.out _).trans (((cell_far (p := ⟨gb163, _, none⟩) NB162_163.out _).trans (hHeld.2.2.2.2.1)))))))))))))))))), ((cell_far (p := ⟨gb163, _, none⟩) NB162_163.out _).trans (((cell_far (p := ⟨gb163, _, none⟩) NB162_163.out _).trans (((cell_far (p := ⟨gb163, _, none⟩) NB162_163.out _).trans (((cell_far (p := ⟨gb163, _, none⟩) NB162_163.out _).trans (((cell_far (p := ⟨gb163, _, none⟩) NB162_163.out _).trans (((cell_far (p := ⟨gb163, _, none⟩) NB162_163.out _).trans (((cell_far (p := ⟨gb163, _, none⟩) NB162_163.out _).trans (((cell_far (p := ⟨gb163, _, none⟩) NB162_163.out _).trans (((cell_far (p := ⟨gb163, _, none⟩) NB162_163.out _).trans (hHeld.2.2.2.2.2.1)))))))))))))))))), ((cell_far (p := ⟨gb163, _, none⟩) NB162_163.out _).trans (((cell_far (p := ⟨gb163, _, none⟩) NB162_163.out _).trans (((cell_far (p := ⟨gb163, _, none⟩) NB162_163.out _).trans (((cell_far (p := ⟨gb163, _, none⟩) NB162_163.out _).trans (((cell_far (p := ⟨gb163, _, none⟩) NB162_163.out _).trans (((cell_far (p := ⟨gb163, _, none⟩) NB162_163.out _).trans (((cell_far (p := ⟨gb163, _, none⟩) NB162_163.out _).trans (((cell_far (p := ⟨gb163, _, none⟩) NB162_163.out _).trans (((cell_far (p := ⟨gb163, _, none⟩) NB162_163.out _).trans (hHeld.2.2.2.2.2.2.1)))))))))))))))))), ((cell_far (p := ⟨gb163, _, none⟩) NB162_163.out _).trans (((cell_far (p := ⟨gb163, _, none⟩) NB162_163.out _).trans (((cell_far (p := ⟨gb163, _, none⟩) NB162_163.out _).trans (((cell_far (p := ⟨gb163, _, none⟩) NB162_163.out _).trans (((cell_far (p := ⟨gb163, _, none⟩) NB162_163.out _).trans (((cell_far (p := ⟨gb163, _, none⟩) NB162_163.out _).trans (((cell_far (p := ⟨gb163, _, none⟩) NB162_163.out _).trans (((cell_far (p := ⟨gb163, _, none⟩) NB162_163.out _).trans (((cell_far (p := ⟨gb163, _, none⟩) NB162_163.out _).trans (hHeld.2.2.2.2.2.2.2.1)))))))))))))))))), ((cell_far (p := ⟨gb163, _, none⟩) NB162_163.out _).trans (((cell_far (p := ⟨gb163, _, none⟩) NB162_163.out _).trans (((cell_far (p := ⟨gb163, _, none⟩) NB162_163.out _).trans (((cell_far (p := ⟨gb163, _, none⟩) NB162_163.out _).trans (((cell_far (p := ⟨gb163, _, none⟩) NB162_163.out _).trans (((cell_far (p := ⟨gb163, _, none⟩) NB162_163.out _).trans (((cell_far (p := ⟨gb163, _, none⟩) NB162_163.out _).trans (((cell_far (p := ⟨gb163, _, none⟩) NB162_163.out _).trans (((cell_far (p := ⟨gb163, _, none⟩) NB162_163.out _).trans (hHeld.2.2.2.2.2.2.2.2))))))))))))))))))⟩ (fun hHeld => ?_)
    clear hK K
    refine done_ (done_of HT_.out (by kernel_rfl)) ?_
    try go_wp2
    refine bodyPost_ret (results_cell_row rfl _ _ gb163 34 #[.int .i64 a0_0, .string a0_1, .string a0_2, .string a0_3, .int .i64 a0_4, .int .i64 a0_5, .string a0_6, .slice Ao16 t168.length co16, .slice Ao15 x3_1.length co15] (0, 0) _ rfl (bkp BK163.out) Tryd.underlying34 rfl (by kernel_rfl)) rfl ?_
    exact ⟨_, _, rf, by (with_reducible repeat (first | apply Kd.R_alloc | apply Kd.R_drewN | apply Kd.R_drew)); exact Kd.R_mono (Kd.R_far (p := ⟨gb163, 8, none⟩) (Kd.R_far (p := ⟨gb163, 7, none⟩) (Kd.R_far (p := ⟨gb163, 6, none⟩) (Kd.R_far (p := ⟨gb163, 5, none⟩) (Kd.R_far (p := ⟨gb163, 4, none⟩) (Kd.R_far (p := ⟨gb163, 3, none⟩) (Kd.R_far (p := ⟨gb163, 2, none⟩) (Kd.R_far (p := ⟨gb163, 1, none⟩) (Kd.R_far (p := ⟨gb163, 0, none⟩) (Kd.R_types HO170.out BK163.out (by decide)) (fun _ hk => hk.2) (.int .i64 a0_0)) (fun _ hk => hk.2) (.string a0_1)) (fun _ hk => hk.2) (.string a0_2)) (fun _ hk => hk.2) (.string a0_3)) (fun _ hk => hk.2) (.int .i64 a0_4)) (fun _ hk => hk.2) (.int .i64 a0_5)) (fun _ hk => hk.2) (.string a0_6)) (fun _ hk => hk.2) (.slice Ao16 t168.length co16)) (fun _ hk => hk.2) (.slice Ao15 x3_1.length co15)) (fun _ hk => trivial), by (with_reducible repeat (first | apply Kd.R_alloc | apply Kd.R_drewN | apply Kd.R_drew)); exact Kd.R_mono (Kd.R_far (p := ⟨gb163, 8, none⟩) (Kd.R_far (p := ⟨gb163, 7, none⟩) (Kd.R_far (p := ⟨gb163, 6, none⟩) (Kd.R_far (p := ⟨gb163, 5, none⟩) (Kd.R_far (p := ⟨gb163, 4, none⟩) (Kd.R_far (p := ⟨gb163, 3, none⟩) (Kd.R_far (p := ⟨gb163, 2, none⟩) (Kd.R_far (p := ⟨gb163, 1, none⟩) (Kd.R_far (p := ⟨gb163, 0, none⟩) (Kd.R_types HO_3.out BK163.out (by decide)) (fun _ hk => hk.2) (.int .i64 a0_0)) (fun _ hk => hk.2) (.string a0_1)) (fun _ hk => hk.2) (.string a0_2)) (fun _ hk => hk.2) (.string a0_3)) (fun _ hk => hk.2) (.int .i64 a0_4)) (fun _ hk => hk.2) (.int .i64 a0_5)) (fun _ hk => hk.2) (.string a0_6)) (fun _ hk => hk.2) (.slice Ao16 t168.length co16)) (fun _ hk => hk.2) (.slice Ao15 x3_1.length co15)) (fun _ hk => trivial), bws HB.out⟩
def digest_Hex.f (a0 : ByteArray) : Option ByteArray := Sha.hexF a0
theorem digest_Hex.calls (a0 : ByteArray) (r : ByteArray) (w : World) (h : digest_Hex.f a0 = some r) :
  Calls Tryd.prog 26 #[.string a0] w fun e w' => e = .returned (.string r) ∧ Below w.heap.size w w' := by
 unfold digest_Hex.f Sha.hexF at h
 split at h
 ·
  rename_i hc
  cases h
  exact Sha.Hex a0 hc w
 ·
  cases h
def digest_Tagged.f (a0 : Int) (l1 : List ByteArray) : Option ByteArray := Sha.tagF a0 l1
theorem digest_Tagged.calls (a0 : Int) (A1 : Option Addr) (c1 : Nat) (l1 : List ByteArray) (r : ByteArray) (w : World) (hr1 : Kd.C Kd.string w A1 l1.length l1) (hc1 : l1.length ≤ c1) (h : digest_Tagged.f a0 l1 = some r) (hG : GG w) :
  Calls Tryd.prog 27 #[.int .u8 a0, .slice A1 l1.length c1] w fun e w' => e = .returned (.string r) ∧ Below w.heap.size w w' := by
 unfold digest_Tagged.f Sha.tagF at h
 split at h
 ·
  rename_i hc
  cases h
  rw [Sha.Y_int a0 hc.1 hc.2.1]
  exact Sha.Tagged _ A1 c1 l1 w hr1 hc1 hc.2.2 hG.1
 ·
  cases h
def cmd_Digest.f (k : Nat) (a0_0 : Int) (a0_1 : ByteArray) (a0_2 : ByteArray) (a0_3 : ByteArray) (a0_4 : Int) (a0_5 : Int) (a0_6 : ByteArray) (l0_7 : List (S82)) (l0_8 : List (S62)) : Option (ByteArray × Int) := (cmd_Check.f k a0_0 a0_1 a0_2 a0_3 a0_4 a0_5 a0_6 l0_7 l0_8).bind fun t172 => (if t172 = 0 then ((cmd_told.f k a0_0 (⟨#[]⟩ : ByteArray) a0_2 a0_3 a0_4 a0_5 a0_6 l0_7 l0_8).bind fun t173 => ((digest_Tagged.f 67 (([t173] : List ByteArray))).bind fun t177 => ((digest_Hex.f t177).bind fun t178 => (some (t178, 0))))) else (some ((⟨#[]⟩ : ByteArray), 1)))
theorem cmd_Digest.mono : ∀ a0 a1 a2 a3 a4 a5 a6 a7 a8 k, LeO (cmd_Digest.f k a0 a1 a2 a3 a4 a5 a6 a7 a8) (cmd_Digest.f (k + 1) a0 a1 a2 a3 a4 a5 a6 a7 a8) := by
 intro a0 a1 a2 a3 a4 a5 a6 a7 a8 k
 unfold cmd_Digest.f
 repeat' (with_reducible first | exact cmd_Check.mono _ _ _ _ _ _ _ _ _ _ | exact cmd_told.mono _ _ _ _ _ _ _ _ _ _ | exact LeO.refl _ | exact LeO.none _ | refine LeO.ite ?_ ?_ | refine LeO.bind ?_ (fun _ => ?_))
set_option maxHeartbeats 8000000 in
set_option maxRecDepth 100000 in
theorem cmd_Digest.calls (k : Nat) (a0_0 : Int) (a0_1 : ByteArray) (a0_2 : ByteArray) (a0_3 : ByteArray) (a0_4 : Int) (a0_5 : Int) (a0_6 : ByteArray) (A0_7 : Option Addr) (c0_7 : Nat) (l0_7 : List (S82)) (A0_8 : Option Addr) (c0_8 : Nat) (l0_8 : List (S62)) (r1 : ByteArray) (r2 : Int) (w : World) (hr0_7 : Kd.C k82 w A0_7 l0_7.length l0_7) (hc0_7 : l0_7.length ≤ c0_7) (hr0_8 : Kd.C k62 w A0_8 l0_8.length l0_8) (hc0_8 : l0_8.length ≤ c0_8) (h : cmd_Digest.f k a0_0 a0_1 a0_2 a0_3 a0_4 a0_5 a0_6 l0_7 l0_8 = some (r1, r2)) (hG : GG w) :
  Calls Tryd.prog 11 #[.agg #[.int .i64 a0_0, .string a0_1, .string a0_2, .string a0_3, .int .i64 a0_4, .int .i64 a0_5, .string a0_6, .slice A0_7 l0_7.length c0_7, .slice A0_8 l0_8.length c0_8]] w fun e w' => e = .returned (.tuple #[.string r1, .int .i64 r2]) ∧ Below w.heap.size w w' := by
 have HG := am hG
 clear hG
 have hu25 := Tryd.underlying25
 have HR0_7 := am hr0_7
 have HC0_7 := am hc0_7
 clear hr0_7 hc0_7
 have HR0_8 := am hr0_8
 have HC0_8 := am hc0_8
 clear hr0_8 hc0_8
 have HB := am (Below.refl w.heap.size w)
 have H := h
 clear h
 unfold cmd_Digest.f at H
 replace H := obE H
 obtain ⟨t172, A2, H⟩ := H
 by_cases c3 : t172 = 0
 ·
  rw [if_pos c3] at H
  have c3b0 := beq_iff_eq.mpr c3
  have c3b1 := bne_eq_false_iff_eq.mpr c3
  clear c3
  replace H := obE H
  obtain ⟨t173, A4, H⟩ := H
  obtain ⟨y174, hy174⟩ : ∃ y_ : List ByteArray, y_ = (([t173] : List ByteArray)) := ⟨_, rfl⟩
  replace H : ((digest_Tagged.f 67 y174).bind fun t177 => ((digest_Hex.f t177).bind fun t178 => (some (t178, 0)))) = some (r1, r2) := by first | (rw [hy174]; with_reducible exact H) | (have H2_ := (Option.bind_some _ _).symm.trans H; rw [hy174]; with_reducible exact H2_) | (have H2_ := (Option.bind_some _ _).symm.trans H; with_reducible exact H2_) | with_reducible exact H | (rw [hy174]; exact H) | exact H
  have Ny174 := am hy174
  clear hy174
  replace H := obE H
  obtain ⟨t177, A5, H⟩ := H
  replace H := obE H
  obtain ⟨t178, A6, H⟩ := H
  simp only [Option.some.injEq, Prod.mk.injEq] at H
  obtain ⟨rfl, rfl⟩ := H
  go_enter Tryd.func11, Tryd.ntmps11
  go_wp2_with (first | ((with_reducible refine gate_dst (N := 1) rfl ?_); refine bx 1 #[.int .i64 a0_0, .string a0_1, .string a0_2, .string a0_3, .int .i64 a0_4, .int .i64 a0_5, .string a0_6, .slice A0_7 l0_7.length c0_7, .slice A0_8 l0_8.length c0_8] 25 ?_; intro gb171 hg w7 hbox hb; have BK171 := am (hbox); have GW171 := gsz hg HB.out; have GE171 := gsz hg HB.out; replace HB := am (below_step (bw HB.out) hb); clear hb hbox hg; have hcz8_0 : w7.cell? ⟨gb171, 0, none⟩ = some (.int .i64 a0_0) := (blk_cell BK171.out 0).trans rfl; have hcz8_1 : w7.cell? ⟨gb171, 1, none⟩ = some (.string a0_1) := (blk_cell BK171.out 1).trans rfl; have hcz8_2 : w7.cell? ⟨gb171, 2, none⟩ = some (.string a0_2) := (blk_cell BK171.out 2).trans rfl; have hcz8_3 : w7.cell? ⟨gb171, 3, none⟩ = some (.string a0_3) := (blk_cell BK171.out 3).trans rfl; have hcz8_4 : w7.cell? ⟨gb171, 4, none⟩ = some (.int .i64 a0_4) := (blk_cell BK171.out 4).trans rfl; have hcz8_5 : w7.cell? ⟨gb171, 5, none⟩ = some (.int .i64 a0_5) := (blk_cell BK171.out 5).trans rfl; have hcz8_6 : w7.cell? ⟨gb171, 6, none⟩ = some (.string a0_6) := (blk_cell BK171.out 6).trans rfl; have hcz8_7 : w7.cell? ⟨gb171, 7, none⟩ = some (.slice A0_7 l0_7.length c0_7) := (blk_cell BK171.out 7).trans rfl; have hcz8_8 : w7.cell? ⟨gb171, 8, none⟩ = some (.slice A0_8 l0_8.length c0_8) := (blk_cell BK171.out 8).trans rfl; have hfz8_0 := blk_frozen BK171.out 0; have hfz8_1 := blk_frozen BK171.out 1; have hfz8_2 := blk_frozen BK171.out 2; have hfz8_3 := blk_frozen BK171.out 3; have hfz8_4 := blk_frozen BK171.out 4; have hfz8_5 := blk_frozen BK171.out 5; have hfz8_6 := blk_frozen BK171.out 6; have hfz8_7 := blk_frozen BK171.out 7; have hfz8_8 := blk_frozen BK171.out 8) | ((with_reducible refine gate_callee (f := 14) rfl ?_); refine goesL_ (some 5) rfl rfl Tryd.func14 (by kernel_rfl) rfl #[.agg #[.int .i64 a0_0, .string a0_1, .string a0_2, .string a0_3, .int .i64 a0_4, .int .i64 a0_5, .string a0_6, .slice A0_7 l0_7.length c0_7, .slice A0_8 l0_8.length c0_8]] rfl gl ?_; (with_reducible refine (cmd_Check.calls k a0_0 a0_1 a0_2 a0_3 a0_4 a0_5 a0_6 _ _ l0_7 _ _ l0_8 t172 _ ?side1 ?side2 ?side3 ?side4 A2.out ?sideG).mono ?_); (case sideG => first | exact HG.out | exact gg_below HG.out (bws HB.out)); (case side1 => exact kC (Kd.C_below HR0_7.out HB.out)); (case side2 => exact HC0_7.out); (case side3 => exact kC (Kd.C_below HR0_8.out HB.out)); (case side4 => exact HC0_8.out); rintro e w9 ⟨rfl, hb⟩; refine ⟨_, rfl, ?_⟩; replace BK171 := bb BK171.out hb; replace HB := am (below_step (bws HB.out) hb); (try clear hb); have hcz10_0 : w9.cell? ⟨gb171, 0, none⟩ = some (.int .i64 a0_0) := (blk_cell BK171.out 0).trans rfl; have hcz10_1 : w9.cell? ⟨gb171, 1, none⟩ = some (.string a0_1) := (blk_cell BK171.out 1).trans rfl; have hcz10_2 : w9.cell? ⟨gb171, 2, none⟩ = some (.string a0_2) := (blk_cell BK171.out 2).trans rfl; have hcz10_3 : w9.cell? ⟨gb171, 3, none⟩ = some (.string a0_3) := (blk_cell BK171.out 3).trans rfl; have hcz10_4 : w9.cell? ⟨gb171, 4, none⟩ = some (.int .i64 a0_4) := (blk_cell BK171.out 4).trans rfl; have hcz10_5 : w9.cell? ⟨gb171, 5, none⟩ = some (.int .i64 a0_5) := (blk_cell BK171.out 5).trans rfl; have hcz10_6 : w9.cell? ⟨gb171, 6, none⟩ = some (.string a0_6) := (blk_cell BK171.out 6).trans rfl; have hcz10_7 : w9.cell? ⟨gb171, 7, none⟩ = some (.slice A0_7 l0_7.length c0_7) := (blk_cell BK171.out 7).trans rfl; have hcz10_8 : w9.cell? ⟨gb171, 8, none⟩ = some (.slice A0_8 l0_8.length c0_8) := (blk_cell BK171.out 8).trans rfl; have hfz10_0 := blk_frozen BK171.out 0; have hfz10_1 := blk_frozen BK171.out 1; have hfz10_2 := blk_frozen BK171.out 2; have hfz10_3 := blk_frozen BK171.out 3; have hfz10_4 := blk_frozen BK171.out 4; have hfz10_5 := blk_frozen BK171.out 5; have hfz10_6 := blk_frozen BK171.out 6; have hfz10_7 := blk_frozen BK171.out 7; have hfz10_8 := blk_frozen BK171.out 8) | ((with_reducible refine gate_callee (f := 23) rfl ?_); refine goesL_ (some 9) rfl rfl Tryd.func23 (by kernel_rfl) rfl #[.agg #[.int .i64 a0_0, .string (⟨#[]⟩ : ByteArray), .string a0_2, .string a0_3, .int .i64 a0_4, .int .i64 a0_5, .string a0_6, .slice A0_7 l0_7.length c0_7, .slice A0_8 l0_8.length c0_8]] rfl gl ?_; (with_reducible refine (cmd_told.calls k a0_0 (⟨#[]⟩ : ByteArray) a0_2 a0_3 a0_4 a0_5 a0_6 _ _ l0_7 _ _ l0_8 t173 _ ?side1 ?side2 ?side3 ?side4 A4.out).mono ?_); (case side1 => exact Kd.C_below HR0_7.out (bws HB.out)); (case side2 => exact HC0_7.out); (case side3 => exact Kd.C_below HR0_8.out (bws HB.out)); (case side4 => exact HC0_8.out); rintro e w11 ⟨rfl, hb⟩; refine ⟨_, rfl, ?_⟩; replace BK171 := am (blk_below (g := gb171) (o := .cells #[.int .i64 a0_0, .string (⟨#[]⟩ : ByteArray), .string a0_2, .string a0_3, .int .i64 a0_4, .int .i64 a0_5, .string a0_6, .slice A0_7 l0_7.length c0_7, .slice A0_8 l0_8.length c0_8] 25 (0, 0)) (bkp BK171.out) hb); replace HB := am (below_step (bws HB.out) hb); (try clear hb)) | ((with_reducible refine gate_dst (N := 10) rfl ?_); refine Kd.R_lit Kd.string _ 9 ?hg (N := 10) ?hd (xs := ([t173] : List ByteArray)) (inner := [.string t173]) (ok := fun _ => True) (okp := fun _ => True) ?hr ?hp (fun _ hk => hk) trivial (Below.refl _ _) (Nat.le_refl _) (by simp) ?_; (case hd => rfl); (case hg => rfl); (case hr => first | (go_simp; done) | (go_simp; rfl)); (case hp => exact (Reps.one (show Kd.M Kd.string _ _ _ t173 [.string t173] from rfl) (Reps.none _ _))); intro v175 w12 ho13 hb hg_ hnew_; clear hg_ hnew_; (first | rw [← Ny174.out] at ho13 | (simp only [Int.reduceToNat] at ho13; rw [← Ny174.out] at ho13)); have HO176 := am (Kd.R_lower ho13 (below_size (bws HB.out))); replace BK171 := bb BK171.out hb; replace HB := am (below_step (bws HB.out) hb); clear hb ho13; obtain ⟨Ao14, co14, eo14⟩ := Kd.R_slice HO176.out; subst eo14) | ((with_reducible refine gate_callee (f := 27) rfl ?_); refine goesL_ (some 11) rfl rfl Tryd.func27 (by kernel_rfl) rfl #[.int .u8 67, .slice Ao14 y174.length co14] rfl gl ?_; (with_reducible refine (digest_Tagged.calls 67 _ _ y174 t177 _ ?side1 ?side2 A5.out ?sideG).mono ?_); (case sideG => first | exact HG.out | exact gg_below HG.out (bws HB.out)); (case side1 => repeat (first | exact (Kd.R_reads' HO176.out).2.2 | (with_reducible refine Kd.C_alloc ?_ _) | (with_reducible refine Kd.C_drewN ?_ _) | (with_reducible refine Kd.C_drew ?_))); (case side2 => exact (Kd.R_reads' HO176.out).2.1); rintro e w15 ⟨rfl, hb⟩; refine ⟨_, rfl, ?_⟩; replace HO176 := am (Kd.R_below (kR HO176.out) hb); replace BK171 := bb BK171.out hb; replace HB := am (below_step (bws HB.out) hb); (try clear hb)) | ((with_reducible refine gate_callee (f := 26) rfl ?_); refine goesL_ (some 12) rfl rfl Tryd.func26 (by kernel_rfl) rfl #[.string t177] rfl gl ?_; (with_reducible refine (digest_Hex.calls t177 t178 _ A6.out).mono ?_); rintro e w16 ⟨rfl, hb⟩; refine ⟨_, rfl, ?_⟩; replace HO176 := am (Kd.R_below (kR HO176.out) hb); replace BK171 := bb BK171.out hb; replace HB := am (below_step (bws HB.out) hb); (try clear hb)))
  go_ret2
  exact ⟨rf, bws HB.out⟩
 ·
  rw [if_neg c3] at H
  have c3b0 := beq_eq_false_iff_ne.mpr c3
  have c3b1 := bne_iff_ne.mpr c3
  simp only [Option.some.injEq, Prod.mk.injEq] at H
  obtain ⟨rfl, rfl⟩ := H
  go_enter Tryd.func11, Tryd.ntmps11
  go_wp2_with (first | ((with_reducible refine gate_dst (N := 1) rfl ?_); refine bx 1 #[.int .i64 a0_0, .string a0_1, .string a0_2, .string a0_3, .int .i64 a0_4, .int .i64 a0_5, .string a0_6, .slice A0_7 l0_7.length c0_7, .slice A0_8 l0_8.length c0_8] 25 ?_; intro gb171 hg w17 hbox hb; have BK171 := am (hbox); have GW171 := gsz hg HB.out; have GE171 := gsz hg HB.out; replace HB := am (below_step (bw HB.out) hb); clear hb hbox hg; have hcz18_0 : w17.cell? ⟨gb171, 0, none⟩ = some (.int .i64 a0_0) := (blk_cell BK171.out 0).trans rfl; have hcz18_1 : w17.cell? ⟨gb171, 1, none⟩ = some (.string a0_1) := (blk_cell BK171.out 1).trans rfl; have hcz18_2 : w17.cell? ⟨gb171, 2, none⟩ = some (.string a0_2) := (blk_cell BK171.out 2).trans rfl; have hcz18_3 : w17.cell? ⟨gb171, 3, none⟩ = some (.string a0_3) := (blk_cell BK171.out 3).trans rfl; have hcz18_4 : w17.cell? ⟨gb171, 4, none⟩ = some (.int .i64 a0_4) := (blk_cell BK171.out 4).trans rfl; have hcz18_5 : w17.cell? ⟨gb171, 5, none⟩ = some (.int .i64 a0_5) := (blk_cell BK171.out 5).trans rfl; have hcz18_6 : w17.cell? ⟨gb171, 6, none⟩ = some (.string a0_6) := (blk_cell BK171.out 6).trans rfl; have hcz18_7 : w17.cell? ⟨gb171, 7, none⟩ = some (.slice A0_7 l0_7.length c0_7) := (blk_cell BK171.out 7).trans rfl; have hcz18_8 : w17.cell? ⟨gb171, 8, none⟩ = some (.slice A0_8 l0_8.length c0_8) := (blk_cell BK171.out 8).trans rfl; have hfz18_0 := blk_frozen BK171.out 0; have hfz18_1 := blk_frozen BK171.out 1; have hfz18_2 := blk_frozen BK171.out 2; have hfz18_3 := blk_frozen BK171.out 3; have hfz18_4 := blk_frozen BK171.out 4; have hfz18_5 := blk_frozen BK171.out 5; have hfz18_6 := blk_frozen BK171.out 6; have hfz18_7 := blk_frozen BK171.out 7; have hfz18_8 := blk_frozen BK171.out 8) | ((with_reducible refine gate_callee (f := 14) rfl ?_); refine goesL_ (some 5) rfl rfl Tryd.func14 (by kernel_rfl) rfl #[.agg #[.int .i64 a0_0, .string a0_1, .string a0_2, .string a0_3, .int .i64 a0_4, .int .i64 a0_5, .string a0_6, .slice A0_7 l0_7.length c0_7, .slice A0_8 l0_8.length c0_8]] rfl gl ?_; (with_reducible refine (cmd_Check.calls k a0_0 a0_1 a0_2 a0_3 a0_4 a0_5 a0_6 _ _ l0_7 _ _ l0_8 t172 _ ?side1 ?side2 ?side3 ?side4 A2.out ?sideG).mono ?_); (case sideG => first | exact HG.out | exact gg_below HG.out (bws HB.out)); (case side1 => exact kC (Kd.C_below HR0_7.out HB.out)); (case side2 => exact HC0_7.out); (case side3 => exact kC (Kd.C_below HR0_8.out HB.out)); (case side4 => exact HC0_8.out); rintro e w19 ⟨rfl, hb⟩; refine ⟨_, rfl, ?_⟩; replace BK171 := bb BK171.out hb; replace HB := am (below_step (bws HB.out) hb); (try clear hb)))
  go_ret2
  exact ⟨rf, bws HB.out⟩
def IsS119 (w0 W : World) (g : Nat) (f0 : ByteArray) (f1 : Int) (f2 : Int) : Prop := W.heap[g]? = some (.cells #[.string f0, .int .i64 f1, .int .i64 f2] 119 (0, 0)) ∧ w0.heap.size ≤ g
theorem IsS119.grown {w0 W : World} {g : Nat} {f0 : ByteArray} {f1 : Int} {f2 : Int} {W1 : World} {row : Option Nat} (h : IsS119 w0 W g f0 f1 f2) (hw : W.grownBy W1 row) (hne : some g ≠ row) : IsS119 w0 W1 g f0 f1 f2 := by
 obtain ⟨hb, hg⟩ := h
 exact ⟨blk_grown hb hw hne, hg⟩
theorem IsS119.own_neN {w0 W : World} {g : Nat} {f0 : ByteArray} {f1 : Int} {f2 : Int} {α : Type} {d : Kd α} {e : Nat} {base : Nat} {ok : Nat → Prop} {v : Value} {xs : List α} (h : IsS119 w0 W g f0 f1 f2) (ho : Kd.N d e W base ok v xs) (ht : e ≠ 119) : some g ≠ v.ownBlock := by
 obtain ⟨hb, hg⟩ := h
 exact Kd.N_ne ho hb ht
theorem IsS119.fresh {w0 W : World} {g : Nat} {f0 : ByteArray} {f1 : Int} {f2 : Int} (h : IsS119 w0 W g f0 f1 f2) : ∀ k, W.heap.size ≤ k → k ≠ g := by
 obtain ⟨hb, hg⟩ := h
 exact Kd.freshB hb
theorem IsS119.kept {w0 W : World} {g : Nat} {f0 : ByteArray} {f1 : Int} {f2 : Int} {W1 : World} {S : Nat → Prop} (h : IsS119 w0 W g f0 f1 f2) (hk : Kept W W1 S) (hne : ¬ S g) : IsS119 w0 W1 g f0 f1 f2 := by
 obtain ⟨hb, hg⟩ := h
 exact ⟨blk_kept hb hk hne, hg⟩
theorem IsS119.below {w0 W : World} {g : Nat} {f0 : ByteArray} {f1 : Int} {f2 : Int} {W1 : World} (h : IsS119 w0 W g f0 f1 f2) (hw : Below W.heap.size W W1) : IsS119 w0 W1 g f0 f1 f2 := h.grown (grown_of_below hw none) (by simp)
theorem IsS119.alloc {w0 W : World} {g : Nat} {f0 : ByteArray} {f1 : Int} {f2 : Int} (h : IsS119 w0 W g f0 f1 f2) (o : Obj) : IsS119 w0 (W.alloc o) g f0 f1 f2 := h.below (below_alloc (Below.refl _ _) o)
theorem IsS119.drewN {w0 W : World} {g : Nat} {f0 : ByteArray} {f1 : Int} {f2 : Int} (h : IsS119 w0 W g f0 f1 f2) (m : Nat) : IsS119 w0 (W.drewN m) g f0 f1 f2 := h
theorem IsS119.drew {w0 W : World} {g : Nat} {f0 : ByteArray} {f1 : Int} {f2 : Int} (h : IsS119 w0 W g f0 f1 f2) : IsS119 w0 W.drew g f0 f1 f2 := h
theorem IsS119.at_ {w0 W : World} {g : Nat} {f0 : ByteArray} {f1 : Int} {f2 : Int} {w' : World} {m : Nat} (hq : W.drewN m = w') (h : IsS119 w0 W g f0 f1 f2) : IsS119 w0 w' g f0 f1 f2 := by subst hq; exact IsS119.drewN h m
theorem IsS119.apart {w0 W : World} {g : Nat} {f0 : ByteArray} {f1 : Int} {f2 : Int} {α : Type} {d : Kd α} {e : Nat} {base : Nat} {ok : Nat → Prop} {v : Value} {xs : List α} (h : IsS119 w0 W g f0 f1 f2) (ho : d.R e W base ok v xs) (ht : ∀ q, q ∈ e :: d.E → q ≠ 119) : d.R e W base (fun k => ok k ∧ k ≠ g) v xs := by
 obtain ⟨hb, hg⟩ := h
 exact Kd.R_types ho hb ht
theorem IsS119.own_ne {w0 W : World} {g : Nat} {f0 : ByteArray} {f1 : Int} {f2 : Int} {α : Type} {d : Kd α} {e : Nat} {base : Nat} {ok : Nat → Prop} {v : Value} {xs : List α} (h : IsS119 w0 W g f0 f1 f2) (ho : d.R e W base ok v xs) (ht : e ≠ 119) : some g ≠ v.ownBlock := by
 obtain ⟨hb, hg⟩ := h
 exact Kd.R_ne ho hb ht
theorem IsS119.apartQ {w0 W : World} {g : Nat} {f0 : ByteArray} {f1 : Int} {f2 : Int} {α : Type} {d : Kd α} {e : Nat} {base : Nat} {ok : Nat → Prop} {v : Value} {xs : List α} (h : IsS119 w0 W g f0 f1 f2) (ho : d.Q e W base ok v xs) (ht : ∀ q, q ∈ e :: d.E → q ≠ 119) : d.Q e W base (fun k => ok k ∧ k ≠ g) v xs := by
 obtain ⟨hb, hg⟩ := h
 exact Kd.Q_types ho hb ht
theorem IsS119.own_neQ {w0 W : World} {g : Nat} {f0 : ByteArray} {f1 : Int} {f2 : Int} {α : Type} {d : Kd α} {e : Nat} {base : Nat} {ok : Nat → Prop} {v : Value} {xs : List α} (h : IsS119 w0 W g f0 f1 f2) (ho : d.Q e W base ok v xs) (ht : e ≠ 119) : some g ≠ v.ownBlock := by
 obtain ⟨hb, hg⟩ := h
 exact Kd.Q_ne ho hb ht
theorem IsS119.apartS {w0 W : World} {g : Nat} {f0 : ByteArray} {f1 : Int} {f2 : Int} {α : Type} {d : Kd α} {e : Nat} {base : Nat} {ok : Nat → Prop} {v : Value} {xs : List α} (h : IsS119 w0 W g f0 f1 f2) (ho : d.S e W base ok v xs) (ht : ∀ q, q ∈ e :: d.E → q ≠ 119) : d.S e W base (fun k => ok k ∧ k ≠ g) v xs := by
 obtain ⟨hb, hg⟩ := h
 exact Kd.S_types ho hb ht
theorem IsS119.own_neS {w0 W : World} {g : Nat} {f0 : ByteArray} {f1 : Int} {f2 : Int} {α : Type} {d : Kd α} {e : Nat} {base : Nat} {ok : Nat → Prop} {v : Value} {xs : List α} (h : IsS119 w0 W g f0 f1 f2) (ho : d.S e W base ok v xs) (ht : e ≠ 119) : some g ≠ v.ownBlock := by
 obtain ⟨hb, hg⟩ := h
 exact Kd.S_ne ho hb ht
theorem IsS119.lt {w0 W : World} {g : Nat} {f0 : ByteArray} {f1 : Int} {f2 : Int} (h : IsS119 w0 W g f0 f1 f2) : g < W.heap.size := by
 obtain ⟨hb, hg⟩ := h
 exact blk_lt hb
theorem IsS119.ge {w0 W : World} {g : Nat} {f0 : ByteArray} {f1 : Int} {f2 : Int} (h : IsS119 w0 W g f0 f1 f2) : w0.heap.size ≤ g := by
 obtain ⟨hb, hg⟩ := h
 exact hg
theorem IsS119.ne_blk {w0 W : World} {g : Nat} {f0 : ByteArray} {f1 : Int} {f2 : Int} {a : Nat} {cs : Array Value} {t : TypeId} {fr : Nat × Nat} (h : IsS119 w0 W g f0 f1 f2) (hb2 : W.heap[a]? = some (.cells cs t fr)) (ht : t ≠ 119) : g ≠ a := by
 obtain ⟨hb, hg⟩ := h
 rintro rfl
 rw [hb] at hb2
 injection hb2 with hb2
 injection hb2 with _ ht2
 exact ht ht2.symm
theorem IsS119.far {w0 W : World} {g : Nat} {f0 : ByteArray} {f1 : Int} {f2 : Int} {p : Addr} (h : IsS119 w0 W g f0 f1 f2) (hne : g ≠ p.block) (u : Value) : IsS119 w0 (W.setCell p u) g f0 f1 f2 := by
 obtain ⟨hb, hg⟩ := h
 exact ⟨blk_far hb hne u, hg⟩
theorem cellS119_0 {W : World} {g : Nat} {f0 : ByteArray} {f1 : Int} {f2 : Int} (h : W.heap[g]? = some (.cells #[.string f0, .int .i64 f1, .int .i64 f2] 119 (0, 0))) : W.cell? ⟨g, 0, none⟩ = some (.string f0) := (blk_cell h 0).trans rfl
theorem IsS119.set_0 {w0 W : World} {g : Nat} {f0 : ByteArray} {f1 : Int} {f2 : Int} (h : IsS119 w0 W g f0 f1 f2) (x : ByteArray) : IsS119 w0 (W.setCell ⟨g, 0, none⟩ (.string x)) g x f1 f2 := by
 obtain ⟨hb, hg⟩ := h
 exact ⟨by simpa using blk_set hb 0 (.string x), hg⟩
theorem cellS119_1 {W : World} {g : Nat} {f0 : ByteArray} {f1 : Int} {f2 : Int} (h : W.heap[g]? = some (.cells #[.string f0, .int .i64 f1, .int .i64 f2] 119 (0, 0))) : W.cell? ⟨g, 1, none⟩ = some (.int .i64 f1) := (blk_cell h 1).trans rfl
theorem IsS119.set_1 {w0 W : World} {g : Nat} {f0 : ByteArray} {f1 : Int} {f2 : Int} (h : IsS119 w0 W g f0 f1 f2) (x : Int) : IsS119 w0 (W.setCell ⟨g, 1, none⟩ (.int .i64 x)) g f0 x f2 := by
 obtain ⟨hb, hg⟩ := h
 exact ⟨by simpa using blk_set hb 1 (.int .i64 x), hg⟩
theorem cellS119_2 {W : World} {g : Nat} {f0 : ByteArray} {f1 : Int} {f2 : Int} (h : W.heap[g]? = some (.cells #[.string f0, .int .i64 f1, .int .i64 f2] 119 (0, 0))) : W.cell? ⟨g, 2, none⟩ = some (.int .i64 f2) := (blk_cell h 2).trans rfl
theorem IsS119.set_2 {w0 W : World} {g : Nat} {f0 : ByteArray} {f1 : Int} {f2 : Int} (h : IsS119 w0 W g f0 f1 f2) (x : Int) : IsS119 w0 (W.setCell ⟨g, 2, none⟩ (.int .i64 x)) g f0 f1 x := by
 obtain ⟨hb, hg⟩ := h
 exact ⟨by simpa using blk_set hb 2 (.int .i64 x), hg⟩
theorem IsS119.new (w0 W : World) (f0 : ByteArray) (f1 : Int) (f2 : Int) (hB : Below w0.heap.size w0 W) : IsS119 w0 (W.alloc (.cells #[.string f0, .int .i64 f1, .int .i64 f2] 119)) W.heap.size f0 f1 f2 := ⟨by simpa using heap_alloc_new W _, hB.size⟩
def octet_NewReader.f (a0 : ByteArray) : Option (ByteArray × Int × Int) := some (a0, 0, 0)
set_option maxHeartbeats 8000000 in
set_option maxRecDepth 100000 in
theorem octet_NewReader.calls (a0 : ByteArray) (r1 : ByteArray) (r2 : Int) (r3 : Int) (w0 w : World) (hB : Below w0.heap.size w0 w) (h : octet_NewReader.f a0 = some (r1, r2, r3)) :
  Calls Tryd.prog 46 #[.string a0] w fun e w' => ∃ g_ : Nat, e = .returned (.pointer (some ⟨g_, 0, none⟩)) ∧ IsS119 w0 w' g_ r1 r2 r3 ∧ Below w0.heap.size w0 w' ∧ Below w.heap.size w w' := by
 have hu119 := Tryd.underlying119
 have HBW := am (Below.refl w.heap.size w)
 have HW0 := am hB.size
 have HB := am hB
 clear hB
 have H := h
 clear h
 unfold octet_NewReader.f at H
 simp only [Option.some.injEq, Prod.mk.injEq] at H
 obtain ⟨rfl, rfl, rfl⟩ := H
 go_enter Tryd.func46, Tryd.ntmps46
 go_wp2_with (first | ((with_reducible refine gate_dst (N := 5) rfl ?_); refine bx 5 #[.string a0, .int .i64 0, .int .i64 0] 119 ?_; intro gb179 hg w2 hbox hb; have BK179 := am (hbox); have GW179 := gsz hg HBW.out; have GE179 := am ((Nat.le_trans HW0.out (by rw [hg]; exact (below_size (bw HBW.out)) : w.heap.size ≤ gb179) : w0.heap.size ≤ gb179)); replace HBW := am (below_step HBW.out hb); replace HB := am (below_step (bw HB.out) hb); clear hb hbox hg))
 go_ret
 exact ⟨_, rfl, (show IsS119 w0 _ gb179 a0 0 0 from ⟨by (with_reducible repeat (first | refine blk_drewN ?_ _ | refine blk_drew ?_ | refine blk_alloc ?_ _)); exact BK179.out, GE179.out⟩), bws HB.out, by repeat (first | (with_reducible first | exact HBW.out | apply below_alloc | apply pw_below_drewN | apply below_drew1 | refine below_set ?_ GW179.out) | exact HBW.out)⟩
def octet_Reader_Err.f (s0_0 : ByteArray) (s0_1 : Int) (s0_2 : Int) : Option (Int × ByteArray × Int × Int) := some (s0_2, s0_0, s0_1, s0_2)
set_option maxHeartbeats 8000000 in
set_option maxRecDepth 100000 in
theorem octet_Reader_Err.calls (g : Nat) (s0_0 : ByteArray) (s0_1 : Int) (s0_2 : Int) (r1 : Int) (r2 : ByteArray) (r3 : Int) (r4 : Int) (w0 w : World) (hI : IsS119 w0 w g s0_0 s0_1 s0_2) (hB : Below w0.heap.size w0 w) (h : octet_Reader_Err.f s0_0 s0_1 s0_2 = some (r1, r2, r3, r4)) :
  Calls Tryd.prog 77 #[.pointer (some ⟨g, 0, none⟩)] w fun e w' => e = .returned (.int .i64 r1) ∧ IsS119 w0 w' g r2 r3 r4 ∧ Below w0.heap.size w0 w' ∧ KeepBut w w' g none := by
 have HI0 := am hI
 have HK := am (KeepBut.refl w g none)
 have HL := am hB.size
 clear hI
 have HW0 := am hB.size
 have HB := am hB
 clear hB
 have H := h
 clear h
 unfold octet_Reader_Err.f at H
 simp only [Option.some.injEq, Prod.mk.injEq] at H
 obtain ⟨rfl, rfl, rfl, rfl⟩ := H
 obtain ⟨HGz2, hgz2⟩ := HI0.out
 have hcz2_0 := cellS119_0 HGz2
 have hcz2_1 := cellS119_1 HGz2
 have hcz2_2 := cellS119_2 HGz2
 have hfz2_0 := blk_frozen HGz2 0
 have hfz2_1 := blk_frozen HGz2 1
 have hfz2_2 := blk_frozen HGz2 2
 clear HGz2 hgz2
 go_enter Tryd.func77, Tryd.ntmps77
 go_wp2
 go_ret
 exact ⟨rf, by repeat (first | (with_reducible first | exact HI0.out | apply IsS119.alloc | apply IsS119.drewN | apply IsS119.drew | apply IsS119.set_0 | apply IsS119.set_1 | apply IsS119.set_2) | exact HI0.out), by repeat (first | (with_reducible first | exact HB.out | apply below_alloc | apply pw_below_drewN | apply below_drew1 | refine below_set ?_ (IsS119.ge HI0.out)) | exact HB.out), by repeat (first | (with_reducible first | exact HK.out | apply KeepBut.set_ | apply keep_drewN | apply keep_drew | apply keep_alloc) | exact HK.out)⟩
mutual
def octet_ReadNumber.j0 : Nat → ByteArray → Int → Bool → Option (Int × Int × Int)
 | 0, _, _, _ => none
 | k + 1, x0, x1, x17 => if x17 = true then (some (0, 0, 1)) else (octet_ReadNumber.l0 k x0 x1 0 0)
def octet_ReadNumber.l0 : Nat → ByteArray → Int → Int → Int → Option (Int × Int × Int)
 | 0, _, _, _, _ => none
 | k + 1, x0, x1, x7, x18 => if x18 < 10 then (if (wrap64 (x1 + x18)) ≥ (x0.size : Int) then (some (0, 0, 5)) else (if 0 ≤ (wrap64 (x1 + x18)) then (if (wrap64 (x1 + x18)) < (x0.size : Int) then (if x18 = 9 then (if (bt x0 (wrap64 (x1 + x18))) > 1 then (octet_ReadNumber.j2 k x0 x1 x7 x18 (bt x0 (wrap64 (x1 + x18))) x18 true) else (if x18 > 0 then (octet_ReadNumber.j2 k x0 x1 x7 x18 (bt x0 (wrap64 (x1 + x18))) x18 ((bt x0 (wrap64 (x1 + x18))) == 0)) else (octet_ReadNumber.j2 k x0 x1 x7 x18 (bt x0 (wrap64 (x1 + x18))) x18 false))) else (if x18 > 0 then (octet_ReadNumber.j2 k x0 x1 x7 x18 (bt x0 (wrap64 (x1 + x18))) x18 ((bt x0 (wrap64 (x1 + x18))) == 0)) else (octet_ReadNumber.j2 k x0 x1 x7 x18 (bt x0 (wrap64 (x1 + x18))) x18 false))) else (none)) else (none))) else (some (0, 0, 3))
def octet_ReadNumber.j2 : Nat → ByteArray → Int → Int → Int → Int → Int → Bool → Option (Int × Int × Int)
 | 0, _, _, _, _, _, _, _ => none
 | k + 1, x0, x1, x7, x8, x9, x18, x45 => if x45 = true then (some (0, 0, 3)) else (if 0 ≤ (wrap64 (7 * x8)) then (if x9 < 128 then (some (Go.bits .or .u64 x7 (shl .u64 (IntKind.u64.wrap (Go.bits .and .u8 x9 127)) (wrap64 (7 * x8))), wrap64 ((wrap64 (x1 + x8)) + 1), 0)) else (octet_ReadNumber.l0 k x0 x1 (Go.bits .or .u64 x7 (shl .u64 (IntKind.u64.wrap (Go.bits .and .u8 x9 127)) (wrap64 (7 * x8)))) (wrap64 (x18 + 1)))) else (none))
end
def octet_ReadNumber.f (k : Nat) (a0 : ByteArray) (a1 : Int) : Option (Int × Int × Int) := if a1 < 0 then (octet_ReadNumber.j0 k a0 a1 true) else (octet_ReadNumber.j0 k a0 a1 (decide (a1 > (a0.size : Int))))
theorem octet_ReadNumber.mono_l : ∀ k, (∀ y0 y1 y2, LeO (octet_ReadNumber.j0 k y0 y1 y2) (octet_ReadNumber.j0 (k + 1) y0 y1 y2)) ∧ (∀ y0 y1 y2 y3, LeO (octet_ReadNumber.l0 k y0 y1 y2 y3) (octet_ReadNumber.l0 (k + 1) y0 y1 y2 y3)) ∧ (∀ y0 y1 y2 y3 y4 y5 y6, LeO (octet_ReadNumber.j2 k y0 y1 y2 y3 y4 y5 y6) (octet_ReadNumber.j2 (k + 1) y0 y1 y2 y3 y4 y5 y6))
 | 0 => ⟨fun _ _ _ r h => by simp [octet_ReadNumber.j0] at h, fun _ _ _ _ r h => by simp [octet_ReadNumber.l0] at h, fun _ _ _ _ _ _ _ r h => by simp [octet_ReadNumber.j2] at h⟩
 | k + 1 => by
  obtain ⟨ih0, ih1, ih2⟩ := octet_ReadNumber.mono_l k
  refine ⟨?_, ?_, ?_⟩
  all_goals intros
  all_goals first | unfold octet_ReadNumber.j0 | unfold octet_ReadNumber.l0 | unfold octet_ReadNumber.j2
  all_goals repeat' (with_reducible first | exact ih0 _ _ _ | exact ih1 _ _ _ _ | exact ih2 _ _ _ _ _ _ _ | exact LeO.refl _ | exact LeO.none _ | refine LeO.ite ?_ ?_ | refine LeO.bind ?_ (fun _ => ?_))
theorem octet_ReadNumber.mono : ∀ a0 a1 k, LeO (octet_ReadNumber.f k a0 a1) (octet_ReadNumber.f (k + 1) a0 a1) := by
 intro a0 a1 k
 obtain ⟨ih0, ih1, ih2⟩ := octet_ReadNumber.mono_l k
 unfold octet_ReadNumber.f
 repeat' (with_reducible first | exact ih0 _ _ _ | exact ih1 _ _ _ _ | exact ih2 _ _ _ _ _ _ _ | exact LeO.refl _ | exact LeO.none _ | refine LeO.ite ?_ ?_ | refine LeO.bind ?_ (fun _ => ?_))
set_option maxHeartbeats 8000000 in
set_option maxRecDepth 100000 in
theorem octet_ReadNumber.calls (k : Nat) (a0 : ByteArray) (a1 : Int) (r1 : Int) (r2 : Int) (r3 : Int) (w : World) (h : octet_ReadNumber.f k a0 a1 = some (r1, r2, r3)) :
  Calls Tryd.prog 78 #[.string a0, .int .i64 a1] w fun e w' => e = .returned (.tuple #[.int .u64 r1, .int .i64 r2, .int .i64 r3]) ∧ Drawn0 w w' := by
 have H := h
 clear h
 unfold octet_ReadNumber.f at H
 have HC3 := am H
 clear H
 go_enter Tryd.func78, Tryd.ntmps78
 go_upto_region 1 with (fail)
 go_cut [17] (fun v17 wc => ∃ (kq : Nat) (x17_2 : Bool), v17 = .bool x17_2 ∧ Aside0 (octet_ReadNumber.j0 kq a0 a1 x17_2 = some (r1, r2, r3)) ∧ Aside0 (kq ≤ k) ∧ Drawn0 w wc)
 case first =>
  have H := HC3.out
  clear HC3
  replace H := iteD H
  rcases H with ⟨c4b0, H⟩ | ⟨c4b0, H⟩
  ·
   (first | rw [c4b0] | (simp only [i64_w, i32_w]; rw [c4b0]) | skip)
   have H' := am H
   clear H
   go_wp2
   go_meet
   case rel => exact ⟨_, (true), rs, H', ⟨om⟩, by repeat (first | exact Drawn0.refl _ | apply Drawn0.step)⟩
  ·
   (first | rw [c4b0] | (simp only [i64_w, i32_w]; rw [c4b0]) | skip)
   have H' := am H
   clear H
   go_wp2
   go_meet
   case rel => exact ⟨_, (decide (a1 > (a0.size : Int))), rs, H', ⟨om⟩, by repeat (first | exact Drawn0.refl _ | apply Drawn0.step)⟩
 case rest =>
  clear HC3
  try clear p2
  try clear c4
  try clear c4b0
  obtain ⟨kq, x17_2, rfl, HA, HJ2, ⟨mc2, rfl⟩⟩ := hcut
  cases kq with
  | zero => exact absurd HA.out (by simp [octet_ReadNumber.j0])
  | succ kj2 =>
   have H := HA.out
   clear HA
   simp only [octet_ReadNumber.j0] at H
   by_cases c5 : x17_2 = true
   ·
    subst c5
    rw [if_pos rfl] at H
    simp only [Option.some.injEq, Prod.mk.injEq] at H
    obtain ⟨rfl, rfl, rfl⟩ := H
    go_wp2
    go_ret3
    exact ⟨by first | rfl | (simp; done) | (simp [*]; done), by repeat (first | exact Drawn0.refl _ | apply Drawn0.step)⟩
   ·
    replace c5 := Bool.eq_false_iff.mpr c5
    subst c5
    rw [if_neg (show ¬ (false = true) by decide)] at H
    have H' := am H
    clear H
    go_wp2
    go_loopg [7, 18] kj2 (fun kq v7 v18 w' => ∃ (x7_2 : Int) (x18_2 : Int), v7 = .int .u64 x7_2 ∧ v18 = .int .i64 x18_2 ∧ Aside0 (octet_ReadNumber.l0 kq a0 a1 x7_2 x18_2 = some (r1, r2, r3)) ∧ Aside0 (kq ≤ kj2) ∧ Drawn0 w w')
    case atStart => exact ⟨(0), (0), rs, rs, H', ⟨Nat.le_refl _⟩, by repeat (first | exact Drawn0.refl _ | apply Drawn0.step)⟩
    case round =>
     clear H'
     try clear c2
     try clear p2
     try clear c4
     try clear c4b0
     try clear c5
     try clear p2
     obtain ⟨x7_2, x18_2, rfl, rfl, HA, HK2, ⟨m2, rfl⟩⟩ := hrel
     cases gk with
     | zero => exact absurd HA.out (by simp [octet_ReadNumber.l0])
     | succ k2 =>
      have H := HA.out
      clear HA
      simp only [octet_ReadNumber.l0] at H
      replace H := iteD H
      rcases H with ⟨c6b0, H⟩ | ⟨c6b0, H⟩
      ·
       replace H := iteD H
       rcases H with ⟨c7b0, H⟩ | ⟨c7b0, H⟩
       ·
        simp only [Option.some.injEq, Prod.mk.injEq] at H
        obtain ⟨rfl, rfl, rfl⟩ := H
        go_wp2
        go_ret3
        exact ⟨by first | rfl | (simp; done) | (simp [*]; done), by repeat (first | exact Drawn0.refl _ | apply Drawn0.step)⟩
       ·
        obtain ⟨ji8, hji8⟩ : ∃ j_ : Int, (wrap64 (a1 + x18_2)) = j_ := ⟨_, rfl⟩
        replace H : (if 0 ≤ (ji8) then (if (ji8) < (a0.size : Int) then (if x18_2 = 9 then (if (bt a0 (ji8)) > 1 then (octet_ReadNumber.j2 k2 a0 a1 x7_2 x18_2 (bt a0 (ji8)) x18_2 true) else (if x18_2 > 0 then (octet_ReadNumber.j2 k2 a0 a1 x7_2 x18_2 (bt a0 (ji8)) x18_2 ((bt a0 (ji8)) == 0)) else (octet_ReadNumber.j2 k2 a0 a1 x7_2 x18_2 (bt a0 (ji8)) x18_2 false))) else (if x18_2 > 0 then (octet_ReadNumber.j2 k2 a0 a1 x7_2 x18_2 (bt a0 (ji8)) x18_2 ((bt a0 (ji8)) == 0)) else (octet_ReadNumber.j2 k2 a0 a1 x7_2 x18_2 (bt a0 (ji8)) x18_2 false))) else (none)) else (none)) = some (r1, r2, r3) := by first | (rw [hji8] at H; exact H) | (simp only [hji8] at H ⊢; exact H)
        (try rw [hji8] at c7b0)
        have hji8w : (IntKind.i64.wrap (a1 + x18_2)) = ji8 := (i64_w _).trans hji8
        replace H := iteD H
        rcases H with ⟨c9b0, H⟩ | ⟨_, H⟩
        ·
         replace H := iteD H
         rcases H with ⟨c10b0, H⟩ | ⟨_, H⟩
         ·
          have HC12 := am H
          clear H
          have p11 := pz (ji8)
          have q11 := pl (ji8) (a0.size : Int)
          have hx11 := bt_at a0 (ji8)
          go_upto_region 10 with (fail)
          go_cut [45] (fun v45 wc => ∃ (kq : Nat) (x45_11 : Bool), v45 = .bool x45_11 ∧ Aside0 (octet_ReadNumber.j2 kq a0 a1 x7_2 x18_2 (bt a0 (ji8)) x18_2 x45_11 = some (r1, r2, r3)) ∧ Aside0 (kq ≤ k2) ∧ Drawn0 w wc)
          case first =>
           have H := HC12.out
           clear HC12
           by_cases c13 : x18_2 = 9
           ·
            rw [if_pos c13] at H
            have c13b0 := beq_iff_eq.mpr c13
            have c13b1 := bne_eq_false_iff_eq.mpr c13
            clear c13
            (first | rw [c13b0] | (simp only [i64_w, i32_w]; rw [c13b0]) | skip)
            replace H := iteD H
            rcases H with ⟨c14b0, H⟩ | ⟨c14b0, H⟩
            ·
             have H' := am H
             clear H
             go_wp2
             go_meet
             case rel => exact ⟨_, (true), rs, H', ⟨by have := HJ2.out; have := HK2.out; first | omega | exact Nat.le_refl _⟩, by repeat (first | exact Drawn0.refl _ | apply Drawn0.step)⟩
            ·
             replace H := iteD H
             rcases H with ⟨c15b0, H⟩ | ⟨c15b0, H⟩
             ·
              have H' := am H
              clear H
              go_wp2
              go_meet
              case rel => exact ⟨_, (((bt a0 (ji8)) == 0)), (by first | rfl | (simp; done) | (simp only [← hji8] <;> (first | rfl | simp)) | (simp [*]; done)), H', ⟨by have := HJ2.out; have := HK2.out; first | omega | exact Nat.le_refl _⟩, by repeat (first | exact Drawn0.refl _ | apply Drawn0.step)⟩
             ·
              have H' := am H
              clear H
              go_wp2
              go_meet
              case rel => exact ⟨_, (false), rs, H', ⟨by have := HJ2.out; have := HK2.out; first | omega | exact Nat.le_refl _⟩, by repeat (first | exact Drawn0.refl _ | apply Drawn0.step)⟩
           ·
            rw [if_neg c13] at H
            have c13b0 := beq_eq_false_iff_ne.mpr c13
            have c13b1 := bne_iff_ne.mpr c13
            (first | rw [c13b0] | (simp only [i64_w, i32_w]; rw [c13b0]) | skip)
            replace H := iteD H
            rcases H with ⟨c16b0, H⟩ | ⟨c16b0, H⟩
            ·
             have H' := am H
             clear H
             go_wp2
             go_meet
             case rel => exact ⟨_, (((bt a0 (ji8)) == 0)), (by first | rfl | (simp; done) | (simp only [← hji8] <;> (first | rfl | simp)) | (simp [*]; done)), H', ⟨by have := HJ2.out; have := HK2.out; first | omega | exact Nat.le_refl _⟩, by repeat (first | exact Drawn0.refl _ | apply Drawn0.step)⟩
            ·
             have H' := am H
             clear H
             go_wp2
             go_meet
             case rel => exact ⟨_, (false), rs, H', ⟨by have := HJ2.out; have := HK2.out; first | omega | exact Nat.le_refl _⟩, by repeat (first | exact Drawn0.refl _ | apply Drawn0.step)⟩
          case rest =>
           clear HC12
           try clear c1
           try clear p1
           try clear q1
           try clear hx1
           try clear c2
           try clear p2
           try clear c4
           try clear c4b0
           try clear c5
           try clear c6
           try clear c6b0
           try clear p6
           try clear c7
           try clear c7b0
           try clear c9
           try clear c9b0
           try clear c10
           try clear c10b0
           try clear p11
           try clear q11
           try clear hx11
           try clear c13
           try clear c13b0
           try clear c13b1
           try clear c14
           try clear c14b0
           try clear c15
           try clear c15b0
           try clear c16
           try clear c16b0
           try clear p11
           try clear p2
           try clear q11
           obtain ⟨kq, x45_11, rfl, HA, HJ11, ⟨mc11, rfl⟩⟩ := hcut
           cases kq with
           | zero => exact absurd HA.out (by simp [octet_ReadNumber.j2])
           | succ kj11 =>
            have H := HA.out
            clear HA
            simp only [octet_ReadNumber.j2] at H
            by_cases c17 : x45_11 = true
            ·
             subst c17
             rw [if_pos rfl] at H
             simp only [Option.some.injEq, Prod.mk.injEq] at H
             obtain ⟨rfl, rfl, rfl⟩ := H
             go_wp2
             go_ret3
             exact ⟨by first | rfl | (simp; done) | (simp only [← hji8] <;> (first | rfl | simp)) | (simp [*]; done), by repeat (first | exact Drawn0.refl _ | apply Drawn0.step)⟩
            ·
             replace c17 := Bool.eq_false_iff.mpr c17
             subst c17
             rw [if_neg (show ¬ (false = true) by decide)] at H
             obtain ⟨ji18, hji18⟩ : ∃ j_ : Int, (wrap64 (7 * x18_2)) = j_ := ⟨_, rfl⟩
             replace H : (if 0 ≤ (ji18) then (if (bt a0 (ji8)) < 128 then (some (Go.bits .or .u64 x7_2 (shl .u64 (IntKind.u64.wrap (Go.bits .and .u8 (bt a0 (ji8)) 127)) (ji18)), wrap64 ((wrap64 (a1 + x18_2)) + 1), 0)) else (octet_ReadNumber.l0 kj11 a0 a1 (Go.bits .or .u64 x7_2 (shl .u64 (IntKind.u64.wrap (Go.bits .and .u8 (bt a0 (ji8)) 127)) (ji18))) (wrap64 (x18_2 + 1)))) else (none)) = some (r1, r2, r3) := by first | (rw [hji18] at H; exact H) | (simp only [hji18] at H ⊢; exact H)
             have hji18w : (IntKind.i64.wrap (7 * x18_2)) = ji18 := (i64_w _).trans hji18
             by_cases c19 : 0 ≤ (ji18)
             ·
              rw [if_pos c19] at H
              have c19b0 := eq_true c19
              have c19b1 := decide_eq_true c19
              clear c19
              obtain ⟨ji20, hji20⟩ : ∃ j_ : Int, (shl .u64 (IntKind.u64.wrap (Go.bits .and .u8 (bt a0 (ji8)) 127)) (ji18)) = j_ := ⟨_, rfl⟩
              replace H : (if (bt a0 (ji8)) < 128 then (some (Go.bits .or .u64 x7_2 (ji20), wrap64 ((wrap64 (a1 + x18_2)) + 1), 0)) else (octet_ReadNumber.l0 kj11 a0 a1 (Go.bits .or .u64 x7_2 (ji20)) (wrap64 (x18_2 + 1)))) = some (r1, r2, r3) := by first | (rw [hji20] at H; exact H) | (simp only [hji20] at H ⊢; exact H)
              have hji20_ : (IntKind.u64.wrap ((IntKind.u64.wrap (Go.bits .and .u8 (bt a0 (ji8)) 127)) * 2 ^ min (ji18).toNat 64)) = ji20 := hji20
              have hji20z : (ji18) ≤ 64 → (IntKind.u64.wrap ((IntKind.u64.wrap (Go.bits .and .u8 (bt a0 (ji8)) 127)) * 2 ^ (ji18).toNat)) = ji20 := shl_small hji20
              replace H := iteD H
              rcases H with ⟨c21b0, H⟩ | ⟨c21b0, H⟩
              ·
               simp only [Option.some.injEq, Prod.mk.injEq] at H
               obtain ⟨rfl, rfl, rfl⟩ := H
               go_wp2
               go_ret3
               exact ⟨by first | rfl | (simp; done) | (simp only [← hji8, ← hji18, ← hji20] <;> (first | rfl | simp)) | (simp [*]; done), by repeat (first | exact Drawn0.refl _ | apply Drawn0.step)⟩
              ·
               have H' := am H
               clear H
               go_wp2
               go_roundg kj11
               case measure => have := HJ2.out; have := HK2.out; have := HJ11.out; omega
               case rel => exact ⟨(Go.bits .or .u64 x7_2 (ji20)), (wrap64 (x18_2 + 1)), (by first | rfl | (simp; done) | (simp only [← hji20] <;> (first | rfl | simp)) | (simp [*]; done)), rs, H', ⟨by have := HJ2.out; have := HK2.out; have := HJ11.out; omega⟩, by repeat (first | exact Drawn0.refl _ | apply Drawn0.step)⟩
             ·
              rw [if_neg c19] at H
              exact absurd H (by simp)
         ·
          exact absurd H (by simp)
        ·
         exact absurd H (by simp)
      ·
       simp only [Option.some.injEq, Prod.mk.injEq] at H
       obtain ⟨rfl, rfl, rfl⟩ := H
       go_wp2
       go_ret3
       exact ⟨by first | rfl | (simp; done) | (simp [*]; done), by repeat (first | exact Drawn0.refl _ | apply Drawn0.step)⟩
def octet_Reader_Number.j0 : Nat → Int → Int → Int → Bool → ByteArray → Int → Int → Option (Int × ByteArray × Int × Int)
 | 0, _, _, _, _, _, _, _ => none
 | k + 1, x5, x6, x7, x30, x1000, x1001, x1002 => if x30 = true then (if 2 = 0 then (some (x5, x1000, x6, x1002)) else (some (0, x1000, x1001, 2))) else (if x7 = 0 then (some (x5, x1000, x6, x1002)) else (some (0, x1000, x1001, x7)))
def octet_Reader_Number.f (k : Nat) (s0_0 : ByteArray) (s0_1 : Int) (s0_2 : Int) (a1 : Int) : Option (Int × ByteArray × Int × Int) := (octet_Reader_Err.f s0_0 s0_1 s0_2).bind fun bt180 => (if bt180.1 = 0 then ((octet_ReadNumber.f k bt180.2.1 bt180.2.2.1).bind fun bt184 => (if bt184.2.2 = 0 then (octet_Reader_Number.j0 k bt184.1 bt184.2.1 bt184.2.2 (decide (bt184.1 > a1)) bt180.2.1 bt180.2.2.1 bt180.2.2.2) else (octet_Reader_Number.j0 k bt184.1 bt184.2.1 bt184.2.2 false bt180.2.1 bt180.2.2.1 bt180.2.2.2))) else (some (0, bt180.2.1, bt180.2.2.1, bt180.2.2.2)))
theorem octet_Reader_Number.mono_l : ∀ k, (∀ y0 y1 y2 y3 y4 y5 y6, LeO (octet_Reader_Number.j0 k y0 y1 y2 y3 y4 y5 y6) (octet_Reader_Number.j0 (k + 1) y0 y1 y2 y3 y4 y5 y6))
 | 0 => fun _ _ _ _ _ _ _ r h => by simp [octet_Reader_Number.j0] at h
 | k + 1 => by
  have ih0 := octet_Reader_Number.mono_l k
  ·
   intro y0 y1 y2 y3 y4 y5 y6
   unfold octet_Reader_Number.j0
   repeat' (with_reducible first | exact ih0 _ _ _ _ _ _ _ | exact octet_ReadNumber.mono _ _ _ | exact LeO.refl _ | exact LeO.none _ | refine LeO.ite ?_ ?_ | refine LeO.bind ?_ (fun _ => ?_))
theorem octet_Reader_Number.mono : ∀ a0 a1 a2 a3 k, LeO (octet_Reader_Number.f k a0 a1 a2 a3) (octet_Reader_Number.f (k + 1) a0 a1 a2 a3) := by
 intro a0 a1 a2 a3 k
 have ih0 := octet_Reader_Number.mono_l k
 unfold octet_Reader_Number.f
 repeat' (with_reducible first | exact ih0 _ _ _ _ _ _ _ | exact octet_ReadNumber.mono _ _ _ | exact LeO.refl _ | exact LeO.none _ | refine LeO.ite ?_ ?_ | refine LeO.bind ?_ (fun _ => ?_))
set_option maxHeartbeats 8000000 in
set_option maxRecDepth 100000 in
theorem octet_Reader_Number.calls (k : Nat) (g : Nat) (s0_0 : ByteArray) (s0_1 : Int) (s0_2 : Int) (a1 : Int) (r1 : Int) (r2 : ByteArray) (r3 : Int) (r4 : Int) (w0 w : World) (hI : IsS119 w0 w g s0_0 s0_1 s0_2) (hB : Below w0.heap.size w0 w) (h : octet_Reader_Number.f k s0_0 s0_1 s0_2 a1 = some (r1, r2, r3, r4)) :
  Calls Tryd.prog 79 #[.pointer (some ⟨g, 0, none⟩), .int .u64 a1] w fun e w' => e = .returned (.int .u64 r1) ∧ IsS119 w0 w' g r2 r3 r4 ∧ Below w0.heap.size w0 w' ∧ KeepBut w w' g none := by
 have HI0 := am hI
 have HK := am (KeepBut.refl w g none)
 have HL := am hB.size
 clear hI
 have HW0 := am hB.size
 have HB := am hB
 clear hB
 have H := h
 clear h
 unfold octet_Reader_Number.f at H
 replace H := obE H
 obtain ⟨⟨t180, t181, t182, t183⟩, A3, H⟩ := H
 try dsimp only at H
 by_cases c4 : t180 = 0
 ·
  rw [if_pos c4] at H
  have c4b0 := beq_iff_eq.mpr c4
  have c4b1 := bne_eq_false_iff_eq.mpr c4
  clear c4
  replace H := obE H
  obtain ⟨⟨t184, t185, t186⟩, A5, H⟩ := H
  try dsimp only at H
  have HC6 := am H
  clear H
  go_enter Tryd.func79, Tryd.ntmps79
  go_upto_region 4 with (first | (go_at_call 77; (with_reducible refine (octet_Reader_Err.calls g s0_0 s0_1 s0_2 t180 t181 t182 t183 w0 _ ?side1 ?side2 A3.out).mono ?_); (case side1 => repeat (first | (with_reducible first | exact HI0.out | apply IsS119.alloc | apply IsS119.drewN | apply IsS119.drew | apply IsS119.set_0 | apply IsS119.set_1 | apply IsS119.set_2) | exact HI0.out)); (case side2 => repeat (first | (with_reducible first | exact HB.out | apply below_alloc | apply pw_below_drewN | apply below_drew1 | refine below_set ?_ (IsS119.ge HI0.out)) | exact HB.out)); rintro e w7 ⟨rfl, hi, hb, hk⟩; replace HK := am (KeepBut.trans (by repeat (first | (with_reducible first | exact HK.out | apply KeepBut.set_ | apply keep_drewN | apply keep_drew | apply keep_alloc) | exact HK.out)) hk (.inl rfl)); replace HB := am (hb); replace HI0 := am (hi); (try clear hb); (try clear hk); (try clear hi); obtain ⟨HGz8, hgz8⟩ := HI0.out; have hcz8_0 := cellS119_0 HGz8; have hcz8_1 := cellS119_1 HGz8; have hcz8_2 := cellS119_2 HGz8; have hfz8_0 := blk_frozen HGz8 0; have hfz8_1 := blk_frozen HGz8 1; have hfz8_2 := blk_frozen HGz8 2; clear HGz8 hgz8) | (go_at_call 78; (with_reducible refine (octet_ReadNumber.calls k t181 t182 t184 t185 t186 _ A5.out).mono ?_); rintro e w' ⟨rfl, ⟨nd, rfl⟩⟩; (try first | exact ⟨rfl, _, World.drewN_drewN _ _ _⟩ | exact ⟨rfl, _, Eq.trans (World.drewN_drewN _ _ _) (congrArg (World.drewN _) (Nat.add_assoc _ _ _))⟩)))
  repeat (go_quiet (first | (go_at_call 77; (with_reducible refine (octet_Reader_Err.calls g s0_0 s0_1 s0_2 t180 t181 t182 t183 w0 _ ?side1 ?side2 A3.out).mono ?_); (case side1 => repeat (first | (with_reducible first | exact HI0.out | apply IsS119.alloc | apply IsS119.drewN | apply IsS119.drew | apply IsS119.set_0 | apply IsS119.set_1 | apply IsS119.set_2) | exact HI0.out)); (case side2 => repeat (first | (with_reducible first | exact HB.out | apply below_alloc | apply pw_below_drewN | apply below_drew1 | refine below_set ?_ (IsS119.ge HI0.out)) | exact HB.out)); rintro e w7 ⟨rfl, hi, hb, hk⟩; replace HK := am (KeepBut.trans (by repeat (first | (with_reducible first | exact HK.out | apply KeepBut.set_ | apply keep_drewN | apply keep_drew | apply keep_alloc) | exact HK.out)) hk (.inl rfl)); replace HB := am (hb); replace HI0 := am (hi); (try clear hb); (try clear hk); (try clear hi); obtain ⟨HGz8, hgz8⟩ := HI0.out; have hcz8_0 := cellS119_0 HGz8; have hcz8_1 := cellS119_1 HGz8; have hcz8_2 := cellS119_2 HGz8; have hfz8_0 := blk_frozen HGz8 0; have hfz8_1 := blk_frozen HGz8 1; have hfz8_2 := blk_frozen HGz8 2; clear HGz8 hgz8; clear A3) | (go_at_call 78; (with_reducible refine (octet_ReadNumber.calls k t181 t182 t184 t185 t186 _ A5.out).mono ?_); rintro e w' ⟨rfl, ⟨nd, rfl⟩⟩; (try first | exact ⟨rfl, _, World.drewN_drewN _ _ _⟩ | exact ⟨rfl, _, Eq.trans (World.drewN_drewN _ _ _) (congrArg (World.drewN _) (Nat.add_assoc _ _ _))⟩); clear A5)); go_upto_region 4 with (first | (go_at_call 77; (with_reducible refine (octet_Reader_Err.calls g s0_0 s0_1 s0_2 t180 t181 t182 t183 w0 _ ?side1 ?side2 A3.out).mono ?_); (case side1 => repeat (first | (with_reducible first | exact HI0.out | apply IsS119.alloc | apply IsS119.drewN | apply IsS119.drew | apply IsS119.set_0 | apply IsS119.set_1 | apply IsS119.set_2) | exact HI0.out)); (case side2 => repeat (first | (with_reducible first | exact HB.out | apply below_alloc | apply pw_below_drewN | apply below_drew1 | refine below_set ?_ (IsS119.ge HI0.out)) | exact HB.out)); rintro e w7 ⟨rfl, hi, hb, hk⟩; replace HK := am (KeepBut.trans (by repeat (first | (with_reducible first | exact HK.out | apply KeepBut.set_ | apply keep_drewN | apply keep_drew | apply keep_alloc) | exact HK.out)) hk (.inl rfl)); replace HB := am (hb); replace HI0 := am (hi); (try clear hb); (try clear hk); (try clear hi); obtain ⟨HGz8, hgz8⟩ := HI0.out; have hcz8_0 := cellS119_0 HGz8; have hcz8_1 := cellS119_1 HGz8; have hcz8_2 := cellS119_2 HGz8; have hfz8_0 := blk_frozen HGz8 0; have hfz8_1 := blk_frozen HGz8 1; have hfz8_2 := blk_frozen HGz8 2; clear HGz8 hgz8; clear A3) | (go_at_call 78; (with_reducible refine (octet_ReadNumber.calls k t181 t182 t184 t185 t186 _ A5.out).mono ?_); rintro e w' ⟨rfl, ⟨nd, rfl⟩⟩; (try first | exact ⟨rfl, _, World.drewN_drewN _ _ _⟩ | exact ⟨rfl, _, Eq.trans (World.drewN_drewN _ _ _) (congrArg (World.drewN _) (Nat.add_assoc _ _ _))⟩); clear A5)))
  (try simp only [Act.put, List.setIfInBounds_toArray, List.set_cons_zero, List.set_cons_succ])
  go_cut [30] (fun v30 wc => ∃ (kq : Nat) (x30_5 : Bool), v30 = .bool x30_5 ∧ Aside0 (octet_Reader_Number.j0 kq t184 t185 t186 x30_5 t181 t182 t183 = some (r1, r2, r3, r4)) ∧ Aside0 (kq ≤ k) ∧ Aside0 (IsS119 w0 wc g t181 t182 t183) ∧ Aside0 (KeepBut w wc g none) ∧ Aside0 (Below w0.heap.size w0 wc))
  case first =>
   have H := HC6.out
   clear HC6
   by_cases c9 : t186 = 0
   ·
    rw [if_pos c9] at H
    have c9b0 := beq_iff_eq.mpr c9
    have c9b1 := bne_eq_false_iff_eq.mpr c9
    clear c9
    (first | rw [c9b0] | (simp only [i64_w, i32_w]; rw [c9b0]) | skip)
    have H' := am H
    clear H
    go_wp2
    repeat (go_quiet (fail); try go_wp2)
    go_meet
    case rel => exact ⟨_, (decide (t184 > a1)), rs, H', ⟨om⟩, ⟨by repeat (first | (with_reducible first | exact HI0.out | apply IsS119.alloc | apply IsS119.drewN | apply IsS119.drew | apply IsS119.set_0 | apply IsS119.set_1 | apply IsS119.set_2) | exact HI0.out)⟩, ⟨by repeat (first | (with_reducible first | exact HK.out | apply KeepBut.set_ | apply keep_drewN | apply keep_drew | apply keep_alloc) | exact HK.out)⟩, ⟨by repeat (first | (with_reducible first | exact HB.out | apply below_alloc | apply pw_below_drewN | apply below_drew1 | refine below_set ?_ (IsS119.ge HI0.out)) | exact HB.out)⟩⟩
   ·
    rw [if_neg c9] at H
    have c9b0 := beq_eq_false_iff_ne.mpr c9
    have c9b1 := bne_iff_ne.mpr c9
    (first | rw [c9b0] | (simp only [i64_w, i32_w]; rw [c9b0]) | skip)
    have H' := am H
    clear H
    go_wp2
    repeat (go_quiet (fail); try go_wp2)
    go_meet
    case rel => exact ⟨_, (false), rs, H', ⟨om⟩, ⟨by repeat (first | (with_reducible first | exact HI0.out | apply IsS119.alloc | apply IsS119.drewN | apply IsS119.drew | apply IsS119.set_0 | apply IsS119.set_1 | apply IsS119.set_2) | exact HI0.out)⟩, ⟨by repeat (first | (with_reducible first | exact HK.out | apply KeepBut.set_ | apply keep_drewN | apply keep_drew | apply keep_alloc) | exact HK.out)⟩, ⟨by repeat (first | (with_reducible first | exact HB.out | apply below_alloc | apply pw_below_drewN | apply below_drew1 | refine below_set ?_ (IsS119.ge HI0.out)) | exact HB.out)⟩⟩
  case rest =>
   clear HC6
   try clear p2
   try clear c4
   try clear c4b0
   try clear c4b1
   try clear c7
   try clear c9
   try clear c9b0
   try clear c9b1
   try clear hcz8_0 hcz8_1 hcz8_2 hfz8_0 hfz8_1 hfz8_2
   obtain ⟨kq, x30_5, rfl, HA, HJ5, HI0, HK, HB⟩ := hcut
   cases kq with
   | zero => exact absurd HA.out (by simp [octet_Reader_Number.j0])
   | succ kj5 =>
    have H := HA.out
    clear HA
    simp only [octet_Reader_Number.j0] at H
    by_cases c10 : x30_5 = true
    ·
     subst c10
     rw [if_pos rfl] at H
     by_cases c11 : 2 = 0
     ·
      exact absurd c11 (by decide)
     ·
      rw [if_neg c11] at H
      have c11b0 := beq_eq_false_iff_ne.mpr c11
      have c11b1 := bne_iff_ne.mpr c11
      simp only [Option.some.injEq, Prod.mk.injEq] at H
      obtain ⟨rfl, rfl, rfl, rfl⟩ := H
      obtain ⟨HGz13, hgz13⟩ := HI0.out
      have hcz13_0 := cellS119_0 HGz13
      have hcz13_1 := cellS119_1 HGz13
      have hcz13_2 := cellS119_2 HGz13
      have hfz13_0 := blk_frozen HGz13 0
      have hfz13_1 := blk_frozen HGz13 1
      have hfz13_2 := blk_frozen HGz13 2
      clear HGz13 hgz13
      go_wp2
      repeat (go_quiet (fail); try go_wp2)
      go_ret
      exact ⟨rf, by repeat (first | (with_reducible first | exact HI0.out | apply IsS119.alloc | apply IsS119.drewN | apply IsS119.drew | apply IsS119.set_0 | apply IsS119.set_1 | apply IsS119.set_2) | exact HI0.out), by repeat (first | (with_reducible first | exact HB.out | apply below_alloc | apply pw_below_drewN | apply below_drew1 | refine below_set ?_ (IsS119.ge HI0.out)) | exact HB.out), by repeat (first | (with_reducible first | exact HK.out | apply KeepBut.set_ | apply keep_drewN | apply keep_drew | apply keep_alloc) | exact HK.out)⟩
    ·
     replace c10 := Bool.eq_false_iff.mpr c10
     subst c10
     rw [if_neg (show ¬ (false = true) by decide)] at H
     by_cases c14 : t186 = 0
     ·
      rw [if_pos c14] at H
      have c14b0 := beq_iff_eq.mpr c14
      have c14b1 := bne_eq_false_iff_eq.mpr c14
      clear c14
      simp only [Option.some.injEq, Prod.mk.injEq] at H
      obtain ⟨rfl, rfl, rfl, rfl⟩ := H
      obtain ⟨HGz15, hgz15⟩ := HI0.out
      have hcz15_0 := cellS119_0 HGz15
      have hcz15_1 := cellS119_1 HGz15
      have hcz15_2 := cellS119_2 HGz15
      have hfz15_0 := blk_frozen HGz15 0
      have hfz15_1 := blk_frozen HGz15 1
      have hfz15_2 := blk_frozen HGz15 2
      clear HGz15 hgz15
      go_wp2
      repeat (go_quiet (fail); try go_wp2)
      go_ret
      exact ⟨rf, by repeat (first | (with_reducible first | exact HI0.out | apply IsS119.alloc | apply IsS119.drewN | apply IsS119.drew | apply IsS119.set_0 | apply IsS119.set_1 | apply IsS119.set_2) | exact HI0.out), by repeat (first | (with_reducible first | exact HB.out | apply below_alloc | apply pw_below_drewN | apply below_drew1 | refine below_set ?_ (IsS119.ge HI0.out)) | exact HB.out), by repeat (first | (with_reducible first | exact HK.out | apply KeepBut.set_ | apply keep_drewN | apply keep_drew | apply keep_alloc) | exact HK.out)⟩
     ·
      rw [if_neg c14] at H
      have c14b0 := beq_eq_false_iff_ne.mpr c14
      have c14b1 := bne_iff_ne.mpr c14
      simp only [Option.some.injEq, Prod.mk.injEq] at H
      obtain ⟨rfl, rfl, rfl, rfl⟩ := H
      obtain ⟨HGz16, hgz16⟩ := HI0.out
      have hcz16_0 := cellS119_0 HGz16
      have hcz16_1 := cellS119_1 HGz16
      have hcz16_2 := cellS119_2 HGz16
      have hfz16_0 := blk_frozen HGz16 0
      have hfz16_1 := blk_frozen HGz16 1
      have hfz16_2 := blk_frozen HGz16 2
      clear HGz16 hgz16
      go_wp2
      repeat (go_quiet (fail); try go_wp2)
      go_ret
      exact ⟨rf, by repeat (first | (with_reducible first | exact HI0.out | apply IsS119.alloc | apply IsS119.drewN | apply IsS119.drew | apply IsS119.set_0 | apply IsS119.set_1 | apply IsS119.set_2) | exact HI0.out), by repeat (first | (with_reducible first | exact HB.out | apply below_alloc | apply pw_below_drewN | apply below_drew1 | refine below_set ?_ (IsS119.ge HI0.out)) | exact HB.out), by repeat (first | (with_reducible first | exact HK.out | apply KeepBut.set_ | apply keep_drewN | apply keep_drew | apply keep_alloc) | exact HK.out)⟩
 ·
  rw [if_neg c4] at H
  have c4b0 := beq_eq_false_iff_ne.mpr c4
  have c4b1 := bne_iff_ne.mpr c4
  simp only [Option.some.injEq, Prod.mk.injEq] at H
  obtain ⟨rfl, rfl, rfl, rfl⟩ := H
  go_enter Tryd.func79, Tryd.ntmps79
  go_wp2_with (first | (go_at_call 77; (with_reducible refine (octet_Reader_Err.calls g s0_0 s0_1 s0_2 t180 t181 t182 t183 w0 _ ?side1 ?side2 A3.out).mono ?_); (case side1 => repeat (first | (with_reducible first | exact HI0.out | apply IsS119.alloc | apply IsS119.drewN | apply IsS119.drew | apply IsS119.set_0 | apply IsS119.set_1 | apply IsS119.set_2) | exact HI0.out)); (case side2 => repeat (first | (with_reducible first | exact HB.out | apply below_alloc | apply pw_below_drewN | apply below_drew1 | refine below_set ?_ (IsS119.ge HI0.out)) | exact HB.out)); rintro e w17 ⟨rfl, hi, hb, hk⟩; replace HK := am (KeepBut.trans (by repeat (first | (with_reducible first | exact HK.out | apply KeepBut.set_ | apply keep_drewN | apply keep_drew | apply keep_alloc) | exact HK.out)) hk (.inl rfl)); replace HB := am (hb); replace HI0 := am (hi); (try clear hb); (try clear hk); (try clear hi)))
  repeat (go_quiet (first | (go_at_call 77; (with_reducible refine (octet_Reader_Err.calls g s0_0 s0_1 s0_2 t180 t181 t182 t183 w0 _ ?side1 ?side2 A3.out).mono ?_); (case side1 => repeat (first | (with_reducible first | exact HI0.out | apply IsS119.alloc | apply IsS119.drewN | apply IsS119.drew | apply IsS119.set_0 | apply IsS119.set_1 | apply IsS119.set_2) | exact HI0.out)); (case side2 => repeat (first | (with_reducible first | exact HB.out | apply below_alloc | apply pw_below_drewN | apply below_drew1 | refine below_set ?_ (IsS119.ge HI0.out)) | exact HB.out)); rintro e w17 ⟨rfl, hi, hb, hk⟩; replace HK := am (KeepBut.trans (by repeat (first | (with_reducible first | exact HK.out | apply KeepBut.set_ | apply keep_drewN | apply keep_drew | apply keep_alloc) | exact HK.out)) hk (.inl rfl)); replace HB := am (hb); replace HI0 := am (hi); (try clear hb); (try clear hk); (try clear hi); clear A3)); try go_wp2_with (first | (go_at_call 77; (with_reducible refine (octet_Reader_Err.calls g s0_0 s0_1 s0_2 t180 t181 t182 t183 w0 _ ?side1 ?side2 A3.out).mono ?_); (case side1 => repeat (first | (with_reducible first | exact HI0.out | apply IsS119.alloc | apply IsS119.drewN | apply IsS119.drew | apply IsS119.set_0 | apply IsS119.set_1 | apply IsS119.set_2) | exact HI0.out)); (case side2 => repeat (first | (with_reducible first | exact HB.out | apply below_alloc | apply pw_below_drewN | apply below_drew1 | refine below_set ?_ (IsS119.ge HI0.out)) | exact HB.out)); rintro e w17 ⟨rfl, hi, hb, hk⟩; replace HK := am (KeepBut.trans (by repeat (first | (with_reducible first | exact HK.out | apply KeepBut.set_ | apply keep_drewN | apply keep_drew | apply keep_alloc) | exact HK.out)) hk (.inl rfl)); replace HB := am (hb); replace HI0 := am (hi); (try clear hb); (try clear hk); (try clear hi); clear A3)))
  go_ret
  exact ⟨rf, by repeat (first | (with_reducible first | exact HI0.out | apply IsS119.alloc | apply IsS119.drewN | apply IsS119.drew | apply IsS119.set_0 | apply IsS119.set_1 | apply IsS119.set_2) | exact HI0.out), by repeat (first | (with_reducible first | exact HB.out | apply below_alloc | apply pw_below_drewN | apply below_drew1 | refine below_set ?_ (IsS119.ge HI0.out)) | exact HB.out), by repeat (first | (with_reducible first | exact HK.out | apply KeepBut.set_ | apply keep_drewN | apply keep_drew | apply keep_alloc) | exact HK.out)⟩
def octet_Reader_Int.f (k : Nat) (s0_0 : ByteArray) (s0_1 : Int) (s0_2 : Int) (a1 : Int) : Option (Int × ByteArray × Int × Int) := if a1 < 0 then ((octet_Reader_Err.f s0_0 s0_1 s0_2).bind fun bt187 => (if bt187.1 = 0 then ((octet_ReadNumber.f k bt187.2.1 bt187.2.2.1).bind fun bt191 => (if bt191.2.2 = 0 then (some (0, bt187.2.1, bt187.2.2.1, 2)) else (some (0, bt187.2.1, bt187.2.2.1, bt191.2.2)))) else (some (0, bt187.2.1, bt187.2.2.1, bt187.2.2.2)))) else ((octet_Reader_Number.f k s0_0 s0_1 s0_2 (IntKind.u64.wrap (a1))).bind fun bt194 => (some (wrap64 (bt194.1), bt194.2.1, bt194.2.2.1, bt194.2.2.2)))
theorem octet_Reader_Int.mono : ∀ a0 a1 a2 a3 k, LeO (octet_Reader_Int.f k a0 a1 a2 a3) (octet_Reader_Int.f (k + 1) a0 a1 a2 a3) := by
 intro a0 a1 a2 a3 k
 unfold octet_Reader_Int.f
 repeat' (with_reducible first | exact octet_ReadNumber.mono _ _ _ | exact octet_Reader_Number.mono _ _ _ _ _ | exact LeO.refl _ | exact LeO.none _ | refine LeO.ite ?_ ?_ | refine LeO.bind ?_ (fun _ => ?_))
set_option maxHeartbeats 8000000 in
set_option maxRecDepth 100000 in
theorem octet_Reader_Int.calls (k : Nat) (g : Nat) (s0_0 : ByteArray) (s0_1 : Int) (s0_2 : Int) (a1 : Int) (r1 : Int) (r2 : ByteArray) (r3 : Int) (r4 : Int) (w0 w : World) (hI : IsS119 w0 w g s0_0 s0_1 s0_2) (hB : Below w0.heap.size w0 w) (h : octet_Reader_Int.f k s0_0 s0_1 s0_2 a1 = some (r1, r2, r3, r4)) :
  Calls Tryd.prog 47 #[.pointer (some ⟨g, 0, none⟩), .int .i64 a1] w fun e w' => e = .returned (.int .i64 r1) ∧ IsS119 w0 w' g r2 r3 r4 ∧ Below w0.heap.size w0 w' ∧ KeepBut w w' g none := by
 have HI0 := am hI
 have HK := am (KeepBut.refl w g none)
 have HL := am hB.size
 clear hI
 have HW0 := am hB.size
 have HB := am hB
 clear hB
 have H := h
 clear h
 unfold octet_Reader_Int.f at H
 replace H := iteD H
 rcases H with ⟨c3b0, H⟩ | ⟨c3b0, H⟩
 ·
  replace H := obE H
  obtain ⟨⟨t187, t188, t189, t190⟩, A4, H⟩ := H
  try dsimp only at H
  by_cases c5 : t187 = 0
  ·
   rw [if_pos c5] at H
   have c5b0 := beq_iff_eq.mpr c5
   have c5b1 := bne_eq_false_iff_eq.mpr c5
   clear c5
   replace H := obE H
   obtain ⟨⟨t191, t192, t193⟩, A6, H⟩ := H
   try dsimp only at H
   by_cases c7 : t193 = 0
   ·
    rw [if_pos c7] at H
    have c7b0 := beq_iff_eq.mpr c7
    have c7b1 := bne_eq_false_iff_eq.mpr c7
    clear c7
    simp only [Option.some.injEq, Prod.mk.injEq] at H
    obtain ⟨rfl, rfl, rfl, rfl⟩ := H
    go_enter Tryd.func47, Tryd.ntmps47
    go_wp2_with (first | (go_at_call 77; (with_reducible refine (octet_Reader_Err.calls g s0_0 s0_1 s0_2 t187 t188 t189 t190 w0 _ ?side1 ?side2 A4.out).mono ?_); (case side1 => repeat (first | (with_reducible first | exact HI0.out | apply IsS119.alloc | apply IsS119.drewN | apply IsS119.drew | apply IsS119.set_0 | apply IsS119.set_1 | apply IsS119.set_2) | exact HI0.out)); (case side2 => repeat (first | (with_reducible first | exact HB.out | apply below_alloc | apply pw_below_drewN | apply below_drew1 | refine below_set ?_ (IsS119.ge HI0.out)) | exact HB.out)); rintro e w8 ⟨rfl, hi, hb, hk⟩; replace HK := am (KeepBut.trans (by repeat (first | (with_reducible first | exact HK.out | apply KeepBut.set_ | apply keep_drewN | apply keep_drew | apply keep_alloc) | exact HK.out)) hk (.inl rfl)); replace HB := am (hb); replace HI0 := am (hi); (try clear hb); (try clear hk); (try clear hi); obtain ⟨HGz9, hgz9⟩ := HI0.out; have hcz9_0 := cellS119_0 HGz9; have hcz9_1 := cellS119_1 HGz9; have hcz9_2 := cellS119_2 HGz9; have hfz9_0 := blk_frozen HGz9 0; have hfz9_1 := blk_frozen HGz9 1; have hfz9_2 := blk_frozen HGz9 2; clear HGz9 hgz9) | (go_at_call 78; (with_reducible refine (octet_ReadNumber.calls k t188 t189 t191 t192 t193 _ A6.out).mono ?_); rintro e w' ⟨rfl, ⟨nd, rfl⟩⟩; (try first | exact ⟨rfl, _, World.drewN_drewN _ _ _⟩ | exact ⟨rfl, _, Eq.trans (World.drewN_drewN _ _ _) (congrArg (World.drewN _) (Nat.add_assoc _ _ _))⟩)))
    repeat (go_quiet (first | (go_at_call 77; (with_reducible refine (octet_Reader_Err.calls g s0_0 s0_1 s0_2 t187 t188 t189 t190 w0 _ ?side1 ?side2 A4.out).mono ?_); (case side1 => repeat (first | (with_reducible first | exact HI0.out | apply IsS119.alloc | apply IsS119.drewN | apply IsS119.drew | apply IsS119.set_0 | apply IsS119.set_1 | apply IsS119.set_2) | exact HI0.out)); (case side2 => repeat (first | (with_reducible first | exact HB.out | apply below_alloc | apply pw_below_drewN | apply below_drew1 | refine below_set ?_ (IsS119.ge HI0.out)) | exact HB.out)); rintro e w8 ⟨rfl, hi, hb, hk⟩; replace HK := am (KeepBut.trans (by repeat (first | (with_reducible first | exact HK.out | apply KeepBut.set_ | apply keep_drewN | apply keep_drew | apply keep_alloc) | exact HK.out)) hk (.inl rfl)); replace HB := am (hb); replace HI0 := am (hi); (try clear hb); (try clear hk); (try clear hi); obtain ⟨HGz9, hgz9⟩ := HI0.out; have hcz9_0 := cellS119_0 HGz9; have hcz9_1 := cellS119_1 HGz9; have hcz9_2 := cellS119_2 HGz9; have hfz9_0 := blk_frozen HGz9 0; have hfz9_1 := blk_frozen HGz9 1; have hfz9_2 := blk_frozen HGz9 2; clear HGz9 hgz9; clear A4) | (go_at_call 78; (with_reducible refine (octet_ReadNumber.calls k t188 t189 t191 t192 t193 _ A6.out).mono ?_); rintro e w' ⟨rfl, ⟨nd, rfl⟩⟩; (try first | exact ⟨rfl, _, World.drewN_drewN _ _ _⟩ | exact ⟨rfl, _, Eq.trans (World.drewN_drewN _ _ _) (congrArg (World.drewN _) (Nat.add_assoc _ _ _))⟩); clear A6)); try go_wp2_with (first | (go_at_call 77; (with_reducible refine (octet_Reader_Err.calls g s0_0 s0_1 s0_2 t187 t188 t189 t190 w0 _ ?side1 ?side2 A4.out).mono ?_); (case side1 => repeat (first | (with_reducible first | exact HI0.out | apply IsS119.alloc | apply IsS119.drewN | apply IsS119.drew | apply IsS119.set_0 | apply IsS119.set_1 | apply IsS119.set_2) | exact HI0.out)); (case side2 => repeat (first | (with_reducible first | exact HB.out | apply below_alloc | apply pw_below_drewN | apply below_drew1 | refine below_set ?_ (IsS119.ge HI0.out)) | exact HB.out)); rintro e w8 ⟨rfl, hi, hb, hk⟩; replace HK := am (KeepBut.trans (by repeat (first | (with_reducible first | exact HK.out | apply KeepBut.set_ | apply keep_drewN | apply keep_drew | apply keep_alloc) | exact HK.out)) hk (.inl rfl)); replace HB := am (hb); replace HI0 := am (hi); (try clear hb); (try clear hk); (try clear hi); obtain ⟨HGz9, hgz9⟩ := HI0.out; have hcz9_0 := cellS119_0 HGz9; have hcz9_1 := cellS119_1 HGz9; have hcz9_2 := cellS119_2 HGz9; have hfz9_0 := blk_frozen HGz9 0; have hfz9_1 := blk_frozen HGz9 1; have hfz9_2 := blk_frozen HGz9 2; clear HGz9 hgz9; clear A4) | (go_at_call 78; (with_reducible refine (octet_ReadNumber.calls k t188 t189 t191 t192 t193 _ A6.out).mono ?_); rintro e w' ⟨rfl, ⟨nd, rfl⟩⟩; (try first | exact ⟨rfl, _, World.drewN_drewN _ _ _⟩ | exact ⟨rfl, _, Eq.trans (World.drewN_drewN _ _ _) (congrArg (World.drewN _) (Nat.add_assoc _ _ _))⟩); clear A6)))
    go_ret
    exact ⟨rf, by repeat (first | (with_reducible first | exact HI0.out | apply IsS119.alloc | apply IsS119.drewN | apply IsS119.drew | apply IsS119.set_0 | apply IsS119.set_1 | apply IsS119.set_2) | exact HI0.out), by repeat (first | (with_reducible first | exact HB.out | apply below_alloc | apply pw_below_drewN | apply below_drew1 | refine below_set ?_ (IsS119.ge HI0.out)) | exact HB.out), by repeat (first | (with_reducible first | exact HK.out | apply KeepBut.set_ | apply keep_drewN | apply keep_drew | apply keep_alloc) | exact HK.out)⟩
   ·
    rw [if_neg c7] at H
    have c7b0 := beq_eq_false_iff_ne.mpr c7
    have c7b1 := bne_iff_ne.mpr c7
    simp only [Option.some.injEq, Prod.mk.injEq] at H
    obtain ⟨rfl, rfl, rfl, rfl⟩ := H
    go_enter Tryd.func47, Tryd.ntmps47
    go_wp2_with (first | (go_at_call 77; (with_reducible refine (octet_Reader_Err.calls g s0_0 s0_1 s0_2 t187 t188 t189 t190 w0 _ ?side1 ?side2 A4.out).mono ?_); (case side1 => repeat (first | (with_reducible first | exact HI0.out | apply IsS119.alloc | apply IsS119.drewN | apply IsS119.drew | apply IsS119.set_0 | apply IsS119.set_1 | apply IsS119.set_2) | exact HI0.out)); (case side2 => repeat (first | (with_reducible first | exact HB.out | apply below_alloc | apply pw_below_drewN | apply below_drew1 | refine below_set ?_ (IsS119.ge HI0.out)) | exact HB.out)); rintro e w10 ⟨rfl, hi, hb, hk⟩; replace HK := am (KeepBut.trans (by repeat (first | (with_reducible first | exact HK.out | apply KeepBut.set_ | apply keep_drewN | apply keep_drew | apply keep_alloc) | exact HK.out)) hk (.inl rfl)); replace HB := am (hb); replace HI0 := am (hi); (try clear hb); (try clear hk); (try clear hi); obtain ⟨HGz11, hgz11⟩ := HI0.out; have hcz11_0 := cellS119_0 HGz11; have hcz11_1 := cellS119_1 HGz11; have hcz11_2 := cellS119_2 HGz11; have hfz11_0 := blk_frozen HGz11 0; have hfz11_1 := blk_frozen HGz11 1; have hfz11_2 := blk_frozen HGz11 2; clear HGz11 hgz11) | (go_at_call 78; (with_reducible refine (octet_ReadNumber.calls k t188 t189 t191 t192 t193 _ A6.out).mono ?_); rintro e w' ⟨rfl, ⟨nd, rfl⟩⟩; (try first | exact ⟨rfl, _, World.drewN_drewN _ _ _⟩ | exact ⟨rfl, _, Eq.trans (World.drewN_drewN _ _ _) (congrArg (World.drewN _) (Nat.add_assoc _ _ _))⟩)))
    repeat (go_quiet (first | (go_at_call 77; (with_reducible refine (octet_Reader_Err.calls g s0_0 s0_1 s0_2 t187 t188 t189 t190 w0 _ ?side1 ?side2 A4.out).mono ?_); (case side1 => repeat (first | (with_reducible first | exact HI0.out | apply IsS119.alloc | apply IsS119.drewN | apply IsS119.drew | apply IsS119.set_0 | apply IsS119.set_1 | apply IsS119.set_2) | exact HI0.out)); (case side2 => repeat (first | (with_reducible first | exact HB.out | apply below_alloc | apply pw_below_drewN | apply below_drew1 | refine below_set ?_ (IsS119.ge HI0.out)) | exact HB.out)); rintro e w10 ⟨rfl, hi, hb, hk⟩; replace HK := am (KeepBut.trans (by repeat (first | (with_reducible first | exact HK.out | apply KeepBut.set_ | apply keep_drewN | apply keep_drew | apply keep_alloc) | exact HK.out)) hk (.inl rfl)); replace HB := am (hb); replace HI0 := am (hi); (try clear hb); (try clear hk); (try clear hi); obtain ⟨HGz11, hgz11⟩ := HI0.out; have hcz11_0 := cellS119_0 HGz11; have hcz11_1 := cellS119_1 HGz11; have hcz11_2 := cellS119_2 HGz11; have hfz11_0 := blk_frozen HGz11 0; have hfz11_1 := blk_frozen HGz11 1; have hfz11_2 := blk_frozen HGz11 2; clear HGz11 hgz11; clear A4) | (go_at_call 78; (with_reducible refine (octet_ReadNumber.calls k t188 t189 t191 t192 t193 _ A6.out).mono ?_); rintro e w' ⟨rfl, ⟨nd, rfl⟩⟩; (try first | exact ⟨rfl, _, World.drewN_drewN _ _ _⟩ | exact ⟨rfl, _, Eq.trans (World.drewN_drewN _ _ _) (congrArg (World.drewN _) (Nat.add_assoc _ _ _))⟩); clear A6)); try go_wp2_with (first | (go_at_call 77; (with_reducible refine (octet_Reader_Err.calls g s0_0 s0_1 s0_2 t187 t188 t189 t190 w0 _ ?side1 ?side2 A4.out).mono ?_); (case side1 => repeat (first | (with_reducible first | exact HI0.out | apply IsS119.alloc | apply IsS119.drewN | apply IsS119.drew | apply IsS119.set_0 | apply IsS119.set_1 | apply IsS119.set_2) | exact HI0.out)); (case side2 => repeat (first | (with_reducible first | exact HB.out | apply below_alloc | apply pw_below_drewN | apply below_drew1 | refine below_set ?_ (IsS119.ge HI0.out)) | exact HB.out)); rintro e w10 ⟨rfl, hi, hb, hk⟩; replace HK := am (KeepBut.trans (by repeat (first | (with_reducible first | exact HK.out | apply KeepBut.set_ | apply keep_drewN | apply keep_drew | apply keep_alloc) | exact HK.out)) hk (.inl rfl)); replace HB := am (hb); replace HI0 := am (hi); (try clear hb); (try clear hk); (try clear hi); obtain ⟨HGz11, hgz11⟩ := HI0.out; have hcz11_0 := cellS119_0 HGz11; have hcz11_1 := cellS119_1 HGz11; have hcz11_2 := cellS119_2 HGz11; have hfz11_0 := blk_frozen HGz11 0; have hfz11_1 := blk_frozen HGz11 1; have hfz11_2 := blk_frozen HGz11 2; clear HGz11 hgz11; clear A4) | (go_at_call 78; (with_reducible refine (octet_ReadNumber.calls k t188 t189 t191 t192 t193 _ A6.out).mono ?_); rintro e w' ⟨rfl, ⟨nd, rfl⟩⟩; (try first | exact ⟨rfl, _, World.drewN_drewN _ _ _⟩ | exact ⟨rfl, _, Eq.trans (World.drewN_drewN _ _ _) (congrArg (World.drewN _) (Nat.add_assoc _ _ _))⟩); clear A6)))
    go_ret
    exact ⟨rf, by repeat (first | (with_reducible first | exact HI0.out | apply IsS119.alloc | apply IsS119.drewN | apply IsS119.drew | apply IsS119.set_0 | apply IsS119.set_1 | apply IsS119.set_2) | exact HI0.out), by repeat (first | (with_reducible first | exact HB.out | apply below_alloc | apply pw_below_drewN | apply below_drew1 | refine below_set ?_ (IsS119.ge HI0.out)) | exact HB.out), by repeat (first | (with_reducible first | exact HK.out | apply KeepBut.set_ | apply keep_drewN | apply keep_drew | apply keep_alloc) | exact HK.out)⟩
  ·
   rw [if_neg c5] at H
   have c5b0 := beq_eq_false_iff_ne.mpr c5
   have c5b1 := bne_iff_ne.mpr c5
   simp only [Option.some.injEq, Prod.mk.injEq] at H
   obtain ⟨rfl, rfl, rfl, rfl⟩ := H
   go_enter Tryd.func47, Tryd.ntmps47
   go_wp2_with (first | (go_at_call 77; (with_reducible refine (octet_Reader_Err.calls g s0_0 s0_1 s0_2 t187 t188 t189 t190 w0 _ ?side1 ?side2 A4.out).mono ?_); (case side1 => repeat (first | (with_reducible first | exact HI0.out | apply IsS119.alloc | apply IsS119.drewN | apply IsS119.drew | apply IsS119.set_0 | apply IsS119.set_1 | apply IsS119.set_2) | exact HI0.out)); (case side2 => repeat (first | (with_reducible first | exact HB.out | apply below_alloc | apply pw_below_drewN | apply below_drew1 | refine below_set ?_ (IsS119.ge HI0.out)) | exact HB.out)); rintro e w12 ⟨rfl, hi, hb, hk⟩; replace HK := am (KeepBut.trans (by repeat (first | (with_reducible first | exact HK.out | apply KeepBut.set_ | apply keep_drewN | apply keep_drew | apply keep_alloc) | exact HK.out)) hk (.inl rfl)); replace HB := am (hb); replace HI0 := am (hi); (try clear hb); (try clear hk); (try clear hi)))
   repeat (go_quiet (first | (go_at_call 77; (with_reducible refine (octet_Reader_Err.calls g s0_0 s0_1 s0_2 t187 t188 t189 t190 w0 _ ?side1 ?side2 A4.out).mono ?_); (case side1 => repeat (first | (with_reducible first | exact HI0.out | apply IsS119.alloc | apply IsS119.drewN | apply IsS119.drew | apply IsS119.set_0 | apply IsS119.set_1 | apply IsS119.set_2) | exact HI0.out)); (case side2 => repeat (first | (with_reducible first | exact HB.out | apply below_alloc | apply pw_below_drewN | apply below_drew1 | refine below_set ?_ (IsS119.ge HI0.out)) | exact HB.out)); rintro e w12 ⟨rfl, hi, hb, hk⟩; replace HK := am (KeepBut.trans (by repeat (first | (with_reducible first | exact HK.out | apply KeepBut.set_ | apply keep_drewN | apply keep_drew | apply keep_alloc) | exact HK.out)) hk (.inl rfl)); replace HB := am (hb); replace HI0 := am (hi); (try clear hb); (try clear hk); (try clear hi); clear A4)); try go_wp2_with (first | (go_at_call 77; (with_reducible refine (octet_Reader_Err.calls g s0_0 s0_1 s0_2 t187 t188 t189 t190 w0 _ ?side1 ?side2 A4.out).mono ?_); (case side1 => repeat (first | (with_reducible first | exact HI0.out | apply IsS119.alloc | apply IsS119.drewN | apply IsS119.drew | apply IsS119.set_0 | apply IsS119.set_1 | apply IsS119.set_2) | exact HI0.out)); (case side2 => repeat (first | (with_reducible first | exact HB.out | apply below_alloc | apply pw_below_drewN | apply below_drew1 | refine below_set ?_ (IsS119.ge HI0.out)) | exact HB.out)); rintro e w12 ⟨rfl, hi, hb, hk⟩; replace HK := am (KeepBut.trans (by repeat (first | (with_reducible first | exact HK.out | apply KeepBut.set_ | apply keep_drewN | apply keep_drew | apply keep_alloc) | exact HK.out)) hk (.inl rfl)); replace HB := am (hb); replace HI0 := am (hi); (try clear hb); (try clear hk); (try clear hi); clear A4)))
   go_ret
   exact ⟨rf, by repeat (first | (with_reducible first | exact HI0.out | apply IsS119.alloc | apply IsS119.drewN | apply IsS119.drew | apply IsS119.set_0 | apply IsS119.set_1 | apply IsS119.set_2) | exact HI0.out), by repeat (first | (with_reducible first | exact HB.out | apply below_alloc | apply pw_below_drewN | apply below_drew1 | refine below_set ?_ (IsS119.ge HI0.out)) | exact HB.out), by repeat (first | (with_reducible first | exact HK.out | apply KeepBut.set_ | apply keep_drewN | apply keep_drew | apply keep_alloc) | exact HK.out)⟩
 ·
  replace H := obE H
  obtain ⟨⟨t194, t195, t196, t197⟩, A13, H⟩ := H
  try dsimp only at H
  simp only [Option.some.injEq, Prod.mk.injEq] at H
  obtain ⟨rfl, rfl, rfl, rfl⟩ := H
  go_enter Tryd.func47, Tryd.ntmps47
  go_wp2_with (first | (go_at_call 79; (with_reducible refine (octet_Reader_Number.calls k g s0_0 s0_1 s0_2 (IntKind.u64.wrap (a1)) t194 t195 t196 t197 w0 _ ?side1 ?side2 A13.out).mono ?_); (case side1 => repeat (first | (with_reducible first | exact HI0.out | apply IsS119.alloc | apply IsS119.drewN | apply IsS119.drew | apply IsS119.set_0 | apply IsS119.set_1 | apply IsS119.set_2) | exact HI0.out)); (case side2 => repeat (first | (with_reducible first | exact HB.out | apply below_alloc | apply pw_below_drewN | apply below_drew1 | refine below_set ?_ (IsS119.ge HI0.out)) | exact HB.out)); rintro e w14 ⟨rfl, hi, hb, hk⟩; replace HK := am (KeepBut.trans (by repeat (first | (with_reducible first | exact HK.out | apply KeepBut.set_ | apply keep_drewN | apply keep_drew | apply keep_alloc) | exact HK.out)) hk (.inl rfl)); replace HB := am (hb); replace HI0 := am (hi); (try clear hb); (try clear hk); (try clear hi)))
  repeat (go_quiet (first | (go_at_call 79; (with_reducible refine (octet_Reader_Number.calls k g s0_0 s0_1 s0_2 (IntKind.u64.wrap (a1)) t194 t195 t196 t197 w0 _ ?side1 ?side2 A13.out).mono ?_); (case side1 => repeat (first | (with_reducible first | exact HI0.out | apply IsS119.alloc | apply IsS119.drewN | apply IsS119.drew | apply IsS119.set_0 | apply IsS119.set_1 | apply IsS119.set_2) | exact HI0.out)); (case side2 => repeat (first | (with_reducible first | exact HB.out | apply below_alloc | apply pw_below_drewN | apply below_drew1 | refine below_set ?_ (IsS119.ge HI0.out)) | exact HB.out)); rintro e w14 ⟨rfl, hi, hb, hk⟩; replace HK := am (KeepBut.trans (by repeat (first | (with_reducible first | exact HK.out | apply KeepBut.set_ | apply keep_drewN | apply keep_drew | apply keep_alloc) | exact HK.out)) hk (.inl rfl)); replace HB := am (hb); replace HI0 := am (hi); (try clear hb); (try clear hk); (try clear hi); clear A13)); try go_wp2_with (first | (go_at_call 79; (with_reducible refine (octet_Reader_Number.calls k g s0_0 s0_1 s0_2 (IntKind.u64.wrap (a1)) t194 t195 t196 t197 w0 _ ?side1 ?side2 A13.out).mono ?_); (case side1 => repeat (first | (with_reducible first | exact HI0.out | apply IsS119.alloc | apply IsS119.drewN | apply IsS119.drew | apply IsS119.set_0 | apply IsS119.set_1 | apply IsS119.set_2) | exact HI0.out)); (case side2 => repeat (first | (with_reducible first | exact HB.out | apply below_alloc | apply pw_below_drewN | apply below_drew1 | refine below_set ?_ (IsS119.ge HI0.out)) | exact HB.out)); rintro e w14 ⟨rfl, hi, hb, hk⟩; replace HK := am (KeepBut.trans (by repeat (first | (with_reducible first | exact HK.out | apply KeepBut.set_ | apply keep_drewN | apply keep_drew | apply keep_alloc) | exact HK.out)) hk (.inl rfl)); replace HB := am (hb); replace HI0 := am (hi); (try clear hb); (try clear hk); (try clear hi); clear A13)))
  go_ret
  exact ⟨rf, by repeat (first | (with_reducible first | exact HI0.out | apply IsS119.alloc | apply IsS119.drewN | apply IsS119.drew | apply IsS119.set_0 | apply IsS119.set_1 | apply IsS119.set_2) | exact HI0.out), by repeat (first | (with_reducible first | exact HB.out | apply below_alloc | apply pw_below_drewN | apply below_drew1 | refine below_set ?_ (IsS119.ge HI0.out)) | exact HB.out), by repeat (first | (with_reducible first | exact HK.out | apply KeepBut.set_ | apply keep_drewN | apply keep_drew | apply keep_alloc) | exact HK.out)⟩
end Go.Proofs.YtdidopoalmkhlaaDoor.Ob
end
section
namespace Go.Proofs.YtdidopoalmkhlaaDoor.Ob
open Go.RowKit Go.Proofs.YtdidopoalmkhlaaDoorW.PrintWords Go.Proofs.YtdidopoalmkhlaaDoorW.PrintLast Go.Proofs.YtdidopoalmkhlaaDoorW.PrintMore
attribute [local go_sem] max2_int min2_int max_two min_two max_three min_three max_four min_four
set_option linter.unusedVariables false
set_option linter.unusedSimpArgs false
def octet_ReadText.f (k : Nat) (a0 : ByteArray) (a1 : Int) : Option (ByteArray × Int × Int) := (octet_ReadNumber.f k a0 a1).bind fun bt198 => (if bt198.2.2 = 0 then (if bt198.1 > (IntKind.u64.wrap (wrap64 ((a0.size : Int) - bt198.2.1))) then (some ((⟨#[]⟩ : ByteArray), 0, 5)) else (if 0 ≤ bt198.2.1 then (if bt198.2.1 ≤ (wrap64 (bt198.2.1 + (wrap64 (bt198.1)))) then (if (wrap64 (bt198.2.1 + (wrap64 (bt198.1)))) ≤ (a0.size : Int) then (some (a0.extract (bt198.2.1 : Int).toNat ((wrap64 (bt198.2.1 + (wrap64 (bt198.1)))) : Int).toNat, wrap64 (bt198.2.1 + (wrap64 (bt198.1))), 0)) else (none)) else (none)) else (none))) else (some ((⟨#[]⟩ : ByteArray), 0, bt198.2.2)))
theorem octet_ReadText.mono : ∀ a0 a1 k, LeO (octet_ReadText.f k a0 a1) (octet_ReadText.f (k + 1) a0 a1) := by
 intro a0 a1 k
 unfold octet_ReadText.f
 repeat' (with_reducible first | exact octet_ReadNumber.mono _ _ _ | exact LeO.refl _ | exact LeO.none _ | refine LeO.ite ?_ ?_ | refine LeO.bind ?_ (fun _ => ?_))
set_option maxHeartbeats 8000000 in
set_option maxRecDepth 100000 in
theorem octet_ReadText.calls (k : Nat) (a0 : ByteArray) (a1 : Int) (r1 : ByteArray) (r2 : Int) (r3 : Int) (w : World) (h : octet_ReadText.f k a0 a1 = some (r1, r2, r3)) :
  Calls Tryd.prog 80 #[.string a0, .int .i64 a1] w fun e w' => e = .returned (.tuple #[.string r1, .int .i64 r2, .int .i64 r3]) ∧ Drawn0 w w' := by
 have H := h
 clear h
 unfold octet_ReadText.f at H
 replace H := obE H
 obtain ⟨⟨t198, t199, t200⟩, A3, H⟩ := H
 try dsimp only at H
 by_cases c4 : t200 = 0
 ·
  rw [if_pos c4] at H
  have c4b0 := beq_iff_eq.mpr c4
  have c4b1 := bne_eq_false_iff_eq.mpr c4
  clear c4
  replace H := iteD H
  rcases H with ⟨c5b0, H⟩ | ⟨c5b0, H⟩
  ·
   simp only [Option.some.injEq, Prod.mk.injEq] at H
   obtain ⟨rfl, rfl, rfl⟩ := H
   go_enter Tryd.func80, Tryd.ntmps80
   go_wp2_with (first | ((with_reducible refine gate_callee (f := 78) rfl ?_); refine goesL_ (some 13) rfl rfl Tryd.func78 (by kernel_rfl) rfl #[.string a0, .int .i64 a1] rfl gl ?_; (with_reducible refine (octet_ReadNumber.calls k a0 a1 t198 t199 t200 _ A3.out).mono ?_); rintro e w' ⟨rfl, ⟨nd, rfl⟩⟩; refine ⟨_, rfl, ?_⟩))
   go_ret3
   exact ⟨by first | rfl | (simp; done) | (simp [*]; done), by repeat (first | exact Drawn0.refl _ | apply Drawn0.step)⟩
  ·
   by_cases c6 : 0 ≤ t199
   ·
    rw [if_pos c6] at H
    have c6b0 := eq_true c6
    have c6b1 := decide_eq_true c6
    clear c6
    by_cases c7 : t199 ≤ (wrap64 (t199 + (wrap64 (t198))))
    ·
     rw [if_pos c7] at H
     have c7b0 := eq_true c7
     have c7b1 := decide_eq_true c7
     by_cases c8 : (wrap64 (t199 + (wrap64 (t198)))) ≤ (a0.size : Int)
     ·
      rw [if_pos c8] at H
      have c8b0 := eq_true c8
      have c8b1 := decide_eq_true c8
      simp only [Option.some.injEq, Prod.mk.injEq] at H
      obtain ⟨rfl, rfl, rfl⟩ := H
      go_enter Tryd.func80, Tryd.ntmps80
      go_wp2_with (first | ((with_reducible refine gate_callee (f := 78) rfl ?_); refine goesL_ (some 13) rfl rfl Tryd.func78 (by kernel_rfl) rfl #[.string a0, .int .i64 a1] rfl gl ?_; (with_reducible refine (octet_ReadNumber.calls k a0 a1 t198 t199 t200 _ A3.out).mono ?_); rintro e w' ⟨rfl, ⟨nd, rfl⟩⟩; refine ⟨_, rfl, ?_⟩))
      go_ret3
      exact ⟨by first | rfl | (simp; done) | (simp [*]; done), by repeat (first | exact Drawn0.refl _ | apply Drawn0.step)⟩
     ·
      rw [if_neg c8] at H
      exact absurd H (by simp)
    ·
     rw [if_neg c7] at H
     exact absurd H (by simp)
   ·
    rw [if_neg c6] at H
    exact absurd H (by simp)
 ·
  rw [if_neg c4] at H
  have c4b0 := beq_eq_false_iff_ne.mpr c4
  have c4b1 := bne_iff_ne.mpr c4
  simp only [Option.some.injEq, Prod.mk.injEq] at H
  obtain ⟨rfl, rfl, rfl⟩ := H
  go_enter Tryd.func80, Tryd.ntmps80
  go_wp2_with (first | ((with_reducible refine gate_callee (f := 78) rfl ?_); refine goesL_ (some 13) rfl rfl Tryd.func78 (by kernel_rfl) rfl #[.string a0, .int .i64 a1] rfl gl ?_; (with_reducible refine (octet_ReadNumber.calls k a0 a1 t198 t199 t200 _ A3.out).mono ?_); rintro e w' ⟨rfl, ⟨nd, rfl⟩⟩; refine ⟨_, rfl, ?_⟩))
  go_ret3
  exact ⟨by first | rfl | (simp; done) | (simp [*]; done), by repeat (first | exact Drawn0.refl _ | apply Drawn0.step)⟩
def octet_Reader_Text.j0 : Nat → ByteArray → Int → Int → Bool → ByteArray → Int → Int → Option (ByteArray × ByteArray × Int × Int)
 | 0, _, _, _, _, _, _, _ => none
 | k + 1, x5, x6, x7, x31, x1000, x1001, x1002 => if x31 = true then (if 2 = 0 then (some (x5, x1000, x6, x1002)) else (some ((⟨#[]⟩ : ByteArray), x1000, x1001, 2))) else (if x7 = 0 then (some (x5, x1000, x6, x1002)) else (some ((⟨#[]⟩ : ByteArray), x1000, x1001, x7)))
def octet_Reader_Text.f (k : Nat) (s0_0 : ByteArray) (s0_1 : Int) (s0_2 : Int) (a1 : Int) : Option (ByteArray × ByteArray × Int × Int) := (octet_Reader_Err.f s0_0 s0_1 s0_2).bind fun bt201 => (if bt201.1 = 0 then ((octet_ReadText.f k bt201.2.1 bt201.2.2.1).bind fun bt205 => (if bt205.2.2 = 0 then (octet_Reader_Text.j0 k bt205.1 bt205.2.1 bt205.2.2 (decide ((bt205.1.size : Int) > a1)) bt201.2.1 bt201.2.2.1 bt201.2.2.2) else (octet_Reader_Text.j0 k bt205.1 bt205.2.1 bt205.2.2 false bt201.2.1 bt201.2.2.1 bt201.2.2.2))) else (some ((⟨#[]⟩ : ByteArray), bt201.2.1, bt201.2.2.1, bt201.2.2.2)))
theorem octet_Reader_Text.mono_l : ∀ k, (∀ y0 y1 y2 y3 y4 y5 y6, LeO (octet_Reader_Text.j0 k y0 y1 y2 y3 y4 y5 y6) (octet_Reader_Text.j0 (k + 1) y0 y1 y2 y3 y4 y5 y6))
 | 0 => fun _ _ _ _ _ _ _ r h => by simp [octet_Reader_Text.j0] at h
 | k + 1 => by
  have ih0 := octet_Reader_Text.mono_l k
  ·
   intro y0 y1 y2 y3 y4 y5 y6
   unfold octet_Reader_Text.j0
   repeat' (with_reducible first | exact ih0 _ _ _ _ _ _ _ | exact octet_ReadText.mono _ _ _ | exact LeO.refl _ | exact LeO.none _ | refine LeO.ite ?_ ?_ | refine LeO.bind ?_ (fun _ => ?_))
theorem octet_Reader_Text.mono : ∀ a0 a1 a2 a3 k, LeO (octet_Reader_Text.f k a0 a1 a2 a3) (octet_Reader_Text.f (k + 1) a0 a1 a2 a3) := by
 intro a0 a1 a2 a3 k
 have ih0 := octet_Reader_Text.mono_l k
 unfold octet_Reader_Text.f
 repeat' (with_reducible first | exact ih0 _ _ _ _ _ _ _ | exact octet_ReadText.mono _ _ _ | exact LeO.refl _ | exact LeO.none _ | refine LeO.ite ?_ ?_ | refine LeO.bind ?_ (fun _ => ?_))
set_option maxHeartbeats 8000000 in
set_option maxRecDepth 100000 in
theorem octet_Reader_Text.calls (k : Nat) (g : Nat) (s0_0 : ByteArray) (s0_1 : Int) (s0_2 : Int) (a1 : Int) (r1 : ByteArray) (r2 : ByteArray) (r3 : Int) (r4 : Int) (w0 w : World) (hI : IsS119 w0 w g s0_0 s0_1 s0_2) (hB : Below w0.heap.size w0 w) (h : octet_Reader_Text.f k s0_0 s0_1 s0_2 a1 = some (r1, r2, r3, r4)) :
  Calls Tryd.prog 49 #[.pointer (some ⟨g, 0, none⟩), .int .i64 a1] w fun e w' => e = .returned (.string r1) ∧ IsS119 w0 w' g r2 r3 r4 ∧ Below w0.heap.size w0 w' ∧ KeepBut w w' g none := by
 have HI0 := am hI
 have HK := am (KeepBut.refl w g none)
 have HL := am hB.size
 clear hI
 have HW0 := am hB.size
 have HB := am hB
 clear hB
 have H := h
 clear h
 unfold octet_Reader_Text.f at H
 replace H := obE H
 obtain ⟨⟨t201, t202, t203, t204⟩, A3, H⟩ := H
 try dsimp only at H
 by_cases c4 : t201 = 0
 ·
  rw [if_pos c4] at H
  have c4b0 := beq_iff_eq.mpr c4
  have c4b1 := bne_eq_false_iff_eq.mpr c4
  clear c4
  replace H := obE H
  obtain ⟨⟨t205, t206, t207⟩, A5, H⟩ := H
  try dsimp only at H
  have HC6 := am H
  clear H
  go_enter Tryd.func49, Tryd.ntmps49
  go_upto_region 4 with (first | (go_at_call 77; (with_reducible refine (octet_Reader_Err.calls g s0_0 s0_1 s0_2 t201 t202 t203 t204 w0 _ ?side1 ?side2 A3.out).mono ?_); (case side1 => repeat (first | (with_reducible first | exact HI0.out | apply IsS119.alloc | apply IsS119.drewN | apply IsS119.drew | apply IsS119.set_0 | apply IsS119.set_1 | apply IsS119.set_2) | exact HI0.out)); (case side2 => repeat (first | (with_reducible first | exact HB.out | apply below_alloc | apply pw_below_drewN | apply below_drew1 | refine below_set ?_ (IsS119.ge HI0.out)) | exact HB.out)); rintro e w7 ⟨rfl, hi, hb, hk⟩; replace HK := am (KeepBut.trans (by repeat (first | (with_reducible first | exact HK.out | apply KeepBut.set_ | apply keep_drewN | apply keep_drew | apply keep_alloc) | exact HK.out)) hk (.inl rfl)); replace HB := am (hb); replace HI0 := am (hi); (try clear hb); (try clear hk); (try clear hi); obtain ⟨HGz8, hgz8⟩ := HI0.out; have hcz8_0 := cellS119_0 HGz8; have hcz8_1 := cellS119_1 HGz8; have hcz8_2 := cellS119_2 HGz8; have hfz8_0 := blk_frozen HGz8 0; have hfz8_1 := blk_frozen HGz8 1; have hfz8_2 := blk_frozen HGz8 2; clear HGz8 hgz8) | (go_at_call 80; (with_reducible refine (octet_ReadText.calls k t202 t203 t205 t206 t207 _ A5.out).mono ?_); rintro e w' ⟨rfl, ⟨nd, rfl⟩⟩; (try first | exact ⟨rfl, _, World.drewN_drewN _ _ _⟩ | exact ⟨rfl, _, Eq.trans (World.drewN_drewN _ _ _) (congrArg (World.drewN _) (Nat.add_assoc _ _ _))⟩)))
  repeat (go_quiet (first | (go_at_call 77; (with_reducible refine (octet_Reader_Err.calls g s0_0 s0_1 s0_2 t201 t202 t203 t204 w0 _ ?side1 ?side2 A3.out).mono ?_); (case side1 => repeat (first | (with_reducible first | exact HI0.out | apply IsS119.alloc | apply IsS119.drewN | apply IsS119.drew | apply IsS119.set_0 | apply IsS119.set_1 | apply IsS119.set_2) | exact HI0.out)); (case side2 => repeat (first | (with_reducible first | exact HB.out | apply below_alloc | apply pw_below_drewN | apply below_drew1 | refine below_set ?_ (IsS119.ge HI0.out)) | exact HB.out)); rintro e w7 ⟨rfl, hi, hb, hk⟩; replace HK := am (KeepBut.trans (by repeat (first | (with_reducible first | exact HK.out | apply KeepBut.set_ | apply keep_drewN | apply keep_drew | apply keep_alloc) | exact HK.out)) hk (.inl rfl)); replace HB := am (hb); replace HI0 := am (hi); (try clear hb); (try clear hk); (try clear hi); obtain ⟨HGz8, hgz8⟩ := HI0.out; have hcz8_0 := cellS119_0 HGz8; have hcz8_1 := cellS119_1 HGz8; have hcz8_2 := cellS119_2 HGz8; have hfz8_0 := blk_frozen HGz8 0; have hfz8_1 := blk_frozen HGz8 1; have hfz8_2 := blk_frozen HGz8 2; clear HGz8 hgz8; clear A3) | (go_at_call 80; (with_reducible refine (octet_ReadText.calls k t202 t203 t205 t206 t207 _ A5.out).mono ?_); rintro e w' ⟨rfl, ⟨nd, rfl⟩⟩; (try first | exact ⟨rfl, _, World.drewN_drewN _ _ _⟩ | exact ⟨rfl, _, Eq.trans (World.drewN_drewN _ _ _) (congrArg (World.drewN _) (Nat.add_assoc _ _ _))⟩); clear A5)); go_upto_region 4 with (first | (go_at_call 77; (with_reducible refine (octet_Reader_Err.calls g s0_0 s0_1 s0_2 t201 t202 t203 t204 w0 _ ?side1 ?side2 A3.out).mono ?_); (case side1 => repeat (first | (with_reducible first | exact HI0.out | apply IsS119.alloc | apply IsS119.drewN | apply IsS119.drew | apply IsS119.set_0 | apply IsS119.set_1 | apply IsS119.set_2) | exact HI0.out)); (case side2 => repeat (first | (with_reducible first | exact HB.out | apply below_alloc | apply pw_below_drewN | apply below_drew1 | refine below_set ?_ (IsS119.ge HI0.out)) | exact HB.out)); rintro e w7 ⟨rfl, hi, hb, hk⟩; replace HK := am (KeepBut.trans (by repeat (first | (with_reducible first | exact HK.out | apply KeepBut.set_ | apply keep_drewN | apply keep_drew | apply keep_alloc) | exact HK.out)) hk (.inl rfl)); replace HB := am (hb); replace HI0 := am (hi); (try clear hb); (try clear hk); (try clear hi); obtain ⟨HGz8, hgz8⟩ := HI0.out; have hcz8_0 := cellS119_0 HGz8; have hcz8_1 := cellS119_1 HGz8; have hcz8_2 := cellS119_2 HGz8; have hfz8_0 := blk_frozen HGz8 0; have hfz8_1 := blk_frozen HGz8 1; have hfz8_2 := blk_frozen HGz8 2; clear HGz8 hgz8; clear A3) | (go_at_call 80; (with_reducible refine (octet_ReadText.calls k t202 t203 t205 t206 t207 _ A5.out).mono ?_); rintro e w' ⟨rfl, ⟨nd, rfl⟩⟩; (try first | exact ⟨rfl, _, World.drewN_drewN _ _ _⟩ | exact ⟨rfl, _, Eq.trans (World.drewN_drewN _ _ _) (congrArg (World.drewN _) (Nat.add_assoc _ _ _))⟩); clear A5)))
  (try simp only [Act.put, List.setIfInBounds_toArray, List.set_cons_zero, List.set_cons_succ])
  go_cut [31] (fun v31 wc => ∃ (kq : Nat) (x31_5 : Bool), v31 = .bool x31_5 ∧ Aside0 (octet_Reader_Text.j0 kq t205 t206 t207 x31_5 t202 t203 t204 = some (r1, r2, r3, r4)) ∧ Aside0 (kq ≤ k) ∧ Aside0 (IsS119 w0 wc g t202 t203 t204) ∧ Aside0 (KeepBut w wc g none) ∧ Aside0 (Below w0.heap.size w0 wc))
  case first =>
   have H := HC6.out
   clear HC6
   by_cases c9 : t207 = 0
   ·
    rw [if_pos c9] at H
    have c9b0 := beq_iff_eq.mpr c9
    have c9b1 := bne_eq_false_iff_eq.mpr c9
    clear c9
    (first | rw [c9b0] | (simp only [i64_w, i32_w]; rw [c9b0]) | skip)
    have H' := am H
    clear H
    go_wp2
    repeat (go_quiet (fail); try go_wp2)
    go_meet
    case rel => exact ⟨_, (decide ((t205.size : Int) > a1)), rs, H', ⟨om⟩, ⟨by repeat (first | (with_reducible first | exact HI0.out | apply IsS119.alloc | apply IsS119.drewN | apply IsS119.drew | apply IsS119.set_0 | apply IsS119.set_1 | apply IsS119.set_2) | exact HI0.out)⟩, ⟨by repeat (first | (with_reducible first | exact HK.out | apply KeepBut.set_ | apply keep_drewN | apply keep_drew | apply keep_alloc) | exact HK.out)⟩, ⟨by repeat (first | (with_reducible first | exact HB.out | apply below_alloc | apply pw_below_drewN | apply below_drew1 | refine below_set ?_ (IsS119.ge HI0.out)) | exact HB.out)⟩⟩
   ·
    rw [if_neg c9] at H
    have c9b0 := beq_eq_false_iff_ne.mpr c9
    have c9b1 := bne_iff_ne.mpr c9
    (first | rw [c9b0] | (simp only [i64_w, i32_w]; rw [c9b0]) | skip)
    have H' := am H
    clear H
    go_wp2
    repeat (go_quiet (fail); try go_wp2)
    go_meet
    case rel => exact ⟨_, (false), rs, H', ⟨om⟩, ⟨by repeat (first | (with_reducible first | exact HI0.out | apply IsS119.alloc | apply IsS119.drewN | apply IsS119.drew | apply IsS119.set_0 | apply IsS119.set_1 | apply IsS119.set_2) | exact HI0.out)⟩, ⟨by repeat (first | (with_reducible first | exact HK.out | apply KeepBut.set_ | apply keep_drewN | apply keep_drew | apply keep_alloc) | exact HK.out)⟩, ⟨by repeat (first | (with_reducible first | exact HB.out | apply below_alloc | apply pw_below_drewN | apply below_drew1 | refine below_set ?_ (IsS119.ge HI0.out)) | exact HB.out)⟩⟩
  case rest =>
   clear HC6
   try clear p2
   try clear c4
   try clear c4b0
   try clear c4b1
   try clear c9
   try clear c9b0
   try clear c9b1
   try clear hcz8_0 hcz8_1 hcz8_2 hfz8_0 hfz8_1 hfz8_2
   obtain ⟨kq, x31_5, rfl, HA, HJ5, HI0, HK, HB⟩ := hcut
   cases kq with
   | zero => exact absurd HA.out (by simp [octet_Reader_Text.j0])
   | succ kj5 =>
    have H := HA.out
    clear HA
    simp only [octet_Reader_Text.j0] at H
    by_cases c10 : x31_5 = true
    ·
     subst c10
     rw [if_pos rfl] at H
     by_cases c11 : 2 = 0
     ·
      exact absurd c11 (by decide)
     ·
      rw [if_neg c11] at H
      have c11b0 := beq_eq_false_iff_ne.mpr c11
      have c11b1 := bne_iff_ne.mpr c11
      simp only [Option.some.injEq, Prod.mk.injEq] at H
      obtain ⟨rfl, rfl, rfl, rfl⟩ := H
      obtain ⟨HGz13, hgz13⟩ := HI0.out
      have hcz13_0 := cellS119_0 HGz13
      have hcz13_1 := cellS119_1 HGz13
      have hcz13_2 := cellS119_2 HGz13
      have hfz13_0 := blk_frozen HGz13 0
      have hfz13_1 := blk_frozen HGz13 1
      have hfz13_2 := blk_frozen HGz13 2
      clear HGz13 hgz13
      go_wp2
      repeat (go_quiet (fail); try go_wp2)
      go_ret
      exact ⟨rf, by repeat (first | (with_reducible first | exact HI0.out | apply IsS119.alloc | apply IsS119.drewN | apply IsS119.drew | apply IsS119.set_0 | apply IsS119.set_1 | apply IsS119.set_2) | exact HI0.out), by repeat (first | (with_reducible first | exact HB.out | apply below_alloc | apply pw_below_drewN | apply below_drew1 | refine below_set ?_ (IsS119.ge HI0.out)) | exact HB.out), by repeat (first | (with_reducible first | exact HK.out | apply KeepBut.set_ | apply keep_drewN | apply keep_drew | apply keep_alloc) | exact HK.out)⟩
    ·
     replace c10 := Bool.eq_false_iff.mpr c10
     subst c10
     rw [if_neg (show ¬ (false = true) by decide)] at H
     by_cases c14 : t207 = 0
     ·
      rw [if_pos c14] at H
      have c14b0 := beq_iff_eq.mpr c14
      have c14b1 := bne_eq_false_iff_eq.mpr c14
      clear c14
      simp only [Option.some.injEq, Prod.mk.injEq] at H
      obtain ⟨rfl, rfl, rfl, rfl⟩ := H
      obtain ⟨HGz15, hgz15⟩ := HI0.out
      have hcz15_0 := cellS119_0 HGz15
      have hcz15_1 := cellS119_1 HGz15
      have hcz15_2 := cellS119_2 HGz15
      have hfz15_0 := blk_frozen HGz15 0
      have hfz15_1 := blk_frozen HGz15 1
      have hfz15_2 := blk_frozen HGz15 2
      clear HGz15 hgz15
      go_wp2
      repeat (go_quiet (fail); try go_wp2)
      go_ret
      exact ⟨rf, by repeat (first | (with_reducible first | exact HI0.out | apply IsS119.alloc | apply IsS119.drewN | apply IsS119.drew | apply IsS119.set_0 | apply IsS119.set_1 | apply IsS119.set_2) | exact HI0.out), by repeat (first | (with_reducible first | exact HB.out | apply below_alloc | apply pw_below_drewN | apply below_drew1 | refine below_set ?_ (IsS119.ge HI0.out)) | exact HB.out), by repeat (first | (with_reducible first | exact HK.out | apply KeepBut.set_ | apply keep_drewN | apply keep_drew | apply keep_alloc) | exact HK.out)⟩
     ·
      rw [if_neg c14] at H
      have c14b0 := beq_eq_false_iff_ne.mpr c14
      have c14b1 := bne_iff_ne.mpr c14
      simp only [Option.some.injEq, Prod.mk.injEq] at H
      obtain ⟨rfl, rfl, rfl, rfl⟩ := H
      obtain ⟨HGz16, hgz16⟩ := HI0.out
      have hcz16_0 := cellS119_0 HGz16
      have hcz16_1 := cellS119_1 HGz16
      have hcz16_2 := cellS119_2 HGz16
      have hfz16_0 := blk_frozen HGz16 0
      have hfz16_1 := blk_frozen HGz16 1
      have hfz16_2 := blk_frozen HGz16 2
      clear HGz16 hgz16
      go_wp2
      repeat (go_quiet (fail); try go_wp2)
      go_ret
      exact ⟨rf, by repeat (first | (with_reducible first | exact HI0.out | apply IsS119.alloc | apply IsS119.drewN | apply IsS119.drew | apply IsS119.set_0 | apply IsS119.set_1 | apply IsS119.set_2) | exact HI0.out), by repeat (first | (with_reducible first | exact HB.out | apply below_alloc | apply pw_below_drewN | apply below_drew1 | refine below_set ?_ (IsS119.ge HI0.out)) | exact HB.out), by repeat (first | (with_reducible first | exact HK.out | apply KeepBut.set_ | apply keep_drewN | apply keep_drew | apply keep_alloc) | exact HK.out)⟩
 ·
  rw [if_neg c4] at H
  have c4b0 := beq_eq_false_iff_ne.mpr c4
  have c4b1 := bne_iff_ne.mpr c4
  simp only [Option.some.injEq, Prod.mk.injEq] at H
  obtain ⟨rfl, rfl, rfl, rfl⟩ := H
  go_enter Tryd.func49, Tryd.ntmps49
  go_wp2_with (first | (go_at_call 77; (with_reducible refine (octet_Reader_Err.calls g s0_0 s0_1 s0_2 t201 t202 t203 t204 w0 _ ?side1 ?side2 A3.out).mono ?_); (case side1 => repeat (first | (with_reducible first | exact HI0.out | apply IsS119.alloc | apply IsS119.drewN | apply IsS119.drew | apply IsS119.set_0 | apply IsS119.set_1 | apply IsS119.set_2) | exact HI0.out)); (case side2 => repeat (first | (with_reducible first | exact HB.out | apply below_alloc | apply pw_below_drewN | apply below_drew1 | refine below_set ?_ (IsS119.ge HI0.out)) | exact HB.out)); rintro e w17 ⟨rfl, hi, hb, hk⟩; replace HK := am (KeepBut.trans (by repeat (first | (with_reducible first | exact HK.out | apply KeepBut.set_ | apply keep_drewN | apply keep_drew | apply keep_alloc) | exact HK.out)) hk (.inl rfl)); replace HB := am (hb); replace HI0 := am (hi); (try clear hb); (try clear hk); (try clear hi)))
  repeat (go_quiet (first | (go_at_call 77; (with_reducible refine (octet_Reader_Err.calls g s0_0 s0_1 s0_2 t201 t202 t203 t204 w0 _ ?side1 ?side2 A3.out).mono ?_); (case side1 => repeat (first | (with_reducible first | exact HI0.out | apply IsS119.alloc | apply IsS119.drewN | apply IsS119.drew | apply IsS119.set_0 | apply IsS119.set_1 | apply IsS119.set_2) | exact HI0.out)); (case side2 => repeat (first | (with_reducible first | exact HB.out | apply below_alloc | apply pw_below_drewN | apply below_drew1 | refine below_set ?_ (IsS119.ge HI0.out)) | exact HB.out)); rintro e w17 ⟨rfl, hi, hb, hk⟩; replace HK := am (KeepBut.trans (by repeat (first | (with_reducible first | exact HK.out | apply KeepBut.set_ | apply keep_drewN | apply keep_drew | apply keep_alloc) | exact HK.out)) hk (.inl rfl)); replace HB := am (hb); replace HI0 := am (hi); (try clear hb); (try clear hk); (try clear hi); clear A3)); try go_wp2_with (first | (go_at_call 77; (with_reducible refine (octet_Reader_Err.calls g s0_0 s0_1 s0_2 t201 t202 t203 t204 w0 _ ?side1 ?side2 A3.out).mono ?_); (case side1 => repeat (first | (with_reducible first | exact HI0.out | apply IsS119.alloc | apply IsS119.drewN | apply IsS119.drew | apply IsS119.set_0 | apply IsS119.set_1 | apply IsS119.set_2) | exact HI0.out)); (case side2 => repeat (first | (with_reducible first | exact HB.out | apply below_alloc | apply pw_below_drewN | apply below_drew1 | refine below_set ?_ (IsS119.ge HI0.out)) | exact HB.out)); rintro e w17 ⟨rfl, hi, hb, hk⟩; replace HK := am (KeepBut.trans (by repeat (first | (with_reducible first | exact HK.out | apply KeepBut.set_ | apply keep_drewN | apply keep_drew | apply keep_alloc) | exact HK.out)) hk (.inl rfl)); replace HB := am (hb); replace HI0 := am (hi); (try clear hb); (try clear hk); (try clear hi); clear A3)))
  go_ret
  exact ⟨rf, by repeat (first | (with_reducible first | exact HI0.out | apply IsS119.alloc | apply IsS119.drewN | apply IsS119.drew | apply IsS119.set_0 | apply IsS119.set_1 | apply IsS119.set_2) | exact HI0.out), by repeat (first | (with_reducible first | exact HB.out | apply below_alloc | apply pw_below_drewN | apply below_drew1 | refine below_set ?_ (IsS119.ge HI0.out)) | exact HB.out), by repeat (first | (with_reducible first | exact HK.out | apply KeepBut.set_ | apply keep_drewN | apply keep_drew | apply keep_alloc) | exact HK.out)⟩
def octet_Reader_End.f (s0_0 : ByteArray) (s0_1 : Int) (s0_2 : Int) : Option (Int × ByteArray × Int × Int) := if s0_2 = 0 then (if s0_1 < (s0_0.size : Int) then some (2, s0_0, s0_1, 2) else some (0, s0_0, s0_1, 0)) else some (s0_2, s0_0, s0_1, s0_2)
set_option maxRecDepth 100000 in
set_option maxHeartbeats 1000000 in
theorem octet_Reader_End_err (g : Nat) (e0 : Int) (w : World) (h2 : w.cell? ⟨g, 2, none⟩ = some (.int .i64 e0)) :
  Calls Tryd.prog 77 #[.pointer (some ⟨g, 0, none⟩)] w fun e w' => e = .returned (.int .i64 e0) ∧ w' = w := by
 go_enter Tryd.func77, Tryd.ntmps77
 go_wp2
 go_ret
 exact ⟨rfl, rfl⟩
set_option maxRecDepth 100000 in
set_option maxHeartbeats 1000000 in
theorem octet_Reader_End_no (g : Nat) (e0 : Int) (w : World) (he : ¬ e0 = 0) (h2 : w.cell? ⟨g, 2, none⟩ = some (.int .i64 e0)) :
  Calls Tryd.prog 51 #[.pointer (some ⟨g, 0, none⟩)] w fun e w' => e = .returned (.int .i64 e0) ∧ ∃ n, w' = w.drewN n := by
 have mixed : Tryd.prog.follows Departure.mixedOrders = true := by kernel_rfl
 have hne : (e0 == 0) = false := beq_eq_false_iff_ne.2 he
 go_enter Tryd.func51, Tryd.ntmps51
 go_wp2
 go_quiet (first | (go_at_call 77; exact Calls.quiet_of_same (octet_Reader_End_err g e0 _ h2)))
 go_wp2_with (go_at_call 77; refine (octet_Reader_End_err g e0 _ (by exact h2)).mono ?_; rintro e w' ⟨rfl, rfl⟩)
 go_ret
 exact ⟨rfl, _, rfl⟩
set_option maxRecDepth 100000 in
set_option maxHeartbeats 1000000 in
theorem octet_Reader_End_end (g : Nat) (s : ByteArray) (a : Int) (w : World) (ha : ¬ a < (s.size : Int)) (h0 : w.cell? ⟨g, 0, none⟩ = some (.string s)) (h1 : w.cell? ⟨g, 1, none⟩ = some (.int .i64 a)) (h2 : w.cell? ⟨g, 2, none⟩ = some (.int .i64 0)) :
  Calls Tryd.prog 51 #[.pointer (some ⟨g, 0, none⟩)] w fun e w' => e = .returned (.int .i64 0) ∧ ∃ n, w' = w.drewN n := by
 have mixed : Tryd.prog.follows Departure.mixedOrders = true := by kernel_rfl
 have hne : decide (a < (s.size : Int)) = false := decide_eq_false ha
 go_enter Tryd.func51, Tryd.ntmps51
 go_wp2
 go_quiet (first | (go_at_call 77; exact Calls.quiet_of_same (octet_Reader_End_err g 0 _ h2)))
 go_wp2_with (go_at_call 77; refine (octet_Reader_End_err g 0 _ (by exact h2)).mono ?_; rintro e w' ⟨rfl, rfl⟩)
 go_ret
 exact ⟨rfl, _, rfl⟩
set_option maxRecDepth 100000 in
set_option maxHeartbeats 1000000 in
theorem octet_Reader_End_long (g : Nat) (s : ByteArray) (a : Int) (w : World) (ha : a < (s.size : Int)) (h0 : w.cell? ⟨g, 0, none⟩ = some (.string s)) (h1 : w.cell? ⟨g, 1, none⟩ = some (.int .i64 a)) (h2 : w.cell? ⟨g, 2, none⟩ = some (.int .i64 0)) (hz : w.frozen? ⟨g, 2, none⟩ = false) :
  Calls Tryd.prog 51 #[.pointer (some ⟨g, 0, none⟩)] w fun e w' => e = .returned (.int .i64 2) ∧ ∃ n, w' = (w.drewN n).setCell ⟨g, 2, none⟩ (.int .i64 2) := by
 have mixed : Tryd.prog.follows Departure.mixedOrders = true := by kernel_rfl
 have hne : decide (a < (s.size : Int)) = true := decide_eq_true ha
 go_enter Tryd.func51, Tryd.ntmps51
 go_wp2
 go_quiet (first | (go_at_call 77; exact Calls.quiet_of_same (octet_Reader_End_err g 0 _ h2)))
 go_wp2_with (go_at_call 77; refine (octet_Reader_End_err g 2 _ ?_).mono ?_; rotate_left; rintro e w' ⟨rfl, rfl⟩)
 ·
  go_ret
  exact ⟨rfl, _, rfl⟩
 ·
  exact World.cell?_setCell_same _ _ _ (u := .int .i64 0) (by exact h2)
theorem octet_Reader_End.calls (g : Nat) (s0_0 : ByteArray) (s0_1 : Int) (s0_2 : Int) (r1 : Int) (r2 : ByteArray) (r3 : Int) (r4 : Int) (w0 w : World) (hI : IsS119 w0 w g s0_0 s0_1 s0_2) (hB : Below w0.heap.size w0 w) (h : octet_Reader_End.f s0_0 s0_1 s0_2 = some (r1, r2, r3, r4)) :
  Calls Tryd.prog 51 #[.pointer (some ⟨g, 0, none⟩)] w fun e w' => e = .returned (.int .i64 r1) ∧ IsS119 w0 w' g r2 r3 r4 ∧ Below w0.heap.size w0 w' ∧ KeepBut w w' g none := by
 have c0 := cellS119_0 hI.1
 have c1 := cellS119_1 hI.1
 have c2 := cellS119_2 hI.1
 have cz := blk_frozen hI.1 2
 unfold octet_Reader_End.f at h
 split at h
 ·
  rename_i he
  subst he
  split at h
  ·
   rename_i ha
   cases h
   exact (octet_Reader_End_long g _ _ w ha c0 c1 c2 cz).mono fun e w' ⟨h1, n, h2⟩ => ⟨h1, by rw [h2]; exact (hI.drewN n).set_2 2, by rw [h2]; exact (pw_below_drewN hB n).setCell hI.2 _, by rw [h2]; exact (keep_drewN (KeepBut.refl _ _ _) n).set_ 2 _⟩
  ·
   rename_i ha
   cases h
   exact (octet_Reader_End_end g _ _ w ha c0 c1 c2).mono fun e w' ⟨h1, n, h2⟩ => ⟨h1, by rw [h2]; exact hI.drewN n, by rw [h2]; exact pw_below_drewN hB n, by rw [h2]; exact keep_drewN (KeepBut.refl _ _ _) n⟩
 ·
  rename_i he
  cases h
  exact (octet_Reader_End_no g _ w he c2).mono fun e w' ⟨h1, n, h2⟩ => ⟨h1, by rw [h2]; exact hI.drewN n, by rw [h2]; exact pw_below_drewN hB n, by rw [h2]; exact keep_drewN (KeepBut.refl _ _ _) n⟩
end Go.Proofs.YtdidopoalmkhlaaDoor.Ob
end
