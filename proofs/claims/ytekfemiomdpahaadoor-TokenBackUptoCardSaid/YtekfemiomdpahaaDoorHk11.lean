-- Written for this claim by hyb.py, a driver of this session's over the kit's printer.
import Derived.Test.YtekfemiomdpahaaDoorHk0
import Derived.Test.YtekfemiomdpahaaDoorHk9
import Derived.Test.YtekfemiomdpahaaDoorHk9
import Derived.Lib.Hide
import Derived.IntWalk
import Derived.Deep.QuietTactic
import Derived.BigQuiet
import Derived.OwnWalk
import Derived.Lib.LazyBuf
import Derived.Lib.SliceRun
import Derived.Lib.Walk
import Derived.LoopN
import Derived.Test.YtekfemiomdpahaaDoorRowK
namespace Go.Proofs.YtekfemiomdpahaaDoor.Hk
open Go.RowKit Go.Proofs.YtekfemiomdpahaaDoorW.PrintWords Go.Proofs.YtekfemiomdpahaaDoorW.PrintLast Go.Proofs.YtekfemiomdpahaaDoorW.PrintMore
attribute [local go_sem] max2_int min2_int max_two min_two max_three min_three max_four min_four   -- for this text's walks alone
set_option linter.unusedVariables false
set_option linter.unusedSimpArgs false

/-! ### EXT api_Held_29: function 29 -/
/-- DeleteFunc has a contract over rows (below), no printed one. -/
def api_Held_29.f (l0 : List (S31)) (upto : Int) : Option (List (S31)) := none
theorem api_Held_29_uses : api_Held_27.f = api_Held_27.f := rfl
abbrev api_Held_29_cells := api_Held_27_cells
/-- The first place at or behind i whose element expires. -/
def api_Held_29_fi (upto : Int) : List (S31) → Nat → Int
  | [], _ => -1
  | h :: t, i => if h.f3 ≤ upto then (i : Int) else api_Held_29_fi upto t (i + 1)
set_option maxHeartbeats 1000000 in
theorem api_Held_29_cl (x : S31) (upto : Int) (ub : Nat) (w : World) (hu : w.cell? ⟨ub, 0, none⟩ = some (.int .i64 upto)) :
    Calls Tryd.prog 30 #[.agg #[.string x.f0, .string x.f1, .string x.f2, .int .i64 x.f3], .pointer (some ⟨ub, 0, none⟩)] w fun e w' => e = .returned (.bool (decide (x.f3 ≤ upto))) ∧ Below w.heap.size w w' := by
  have hub := World.block_lt_of_cell? w _ hu
  have h1 : (w.alloc (.cells #[.string x.f0, .string x.f1, .string x.f2, .int .i64 x.f3] 31)).cell? ⟨ub, 0, none⟩ = some (.int .i64 upto) := Lib.cell?_alloc_some _ hu
  clear hu
  go_enter Tryd.func30, Tryd.ntmps30
  go_wp2
  go_ret
  exact ⟨rfl, (Below.refl _ _).alloc (Nat.le_refl _) _⟩
theorem api_Held_29_get {l : List (S31)} : ∀ {i : Nat} {y : S31}, l[i]? = some y → (api_Held_29_cells l)[i * 4]? = some (.string y.f0) ∧ (api_Held_29_cells l)[i * 4 + 1]? = some (.string y.f1) ∧ (api_Held_29_cells l)[i * 4 + 2]? = some (.string y.f2) ∧ (api_Held_29_cells l)[i * 4 + 3]? = some (.int .i64 y.f3) := by
  induction l with
  | nil => intro i y h; simp at h
  | cons z l ih =>
    intro i y h
    have hc : api_Held_29_cells (z :: l) = .string z.f0 :: .string z.f1 :: .string z.f2 :: .int .i64 z.f3 :: api_Held_29_cells l := rfl
    rw [hc]
    cases i with
    | zero => simp at h; subst h; simp
    | succ i =>
      have := ih (i := i) (y := y) (by simpa using h)
      rw [show (i + 1) * 4 = i * 4 + 4 by omega]
      simpa using this
/-- The row holds ds, then whatever. -/
def api_Held_29_holds (w : World) (g : Nat) (cap : Nat) (ds : List (S31)) : Prop := ∃ cur : Array Value, w.heap[g]? = some (.cells cur 31 (0, 0)) ∧ cur.size = cap * 4 ∧ cur.toList.take (ds.length * 4) = api_Held_29_cells ds
theorem api_Held_29_holds_at {w : World} {g cap : Nat} {ds : List (S31)} (h : api_Held_29_holds w g cap ds) {i : Nat} {y : S31} (hy : ds[i]? = some y) : w.cell? ⟨g, i * 4, none⟩ = some (.string y.f0) ∧ w.cell? ⟨g, i * 4 + 1, none⟩ = some (.string y.f1) ∧ w.cell? ⟨g, i * 4 + 2, none⟩ = some (.string y.f2) ∧ w.cell? ⟨g, i * 4 + 3, none⟩ = some (.int .i64 y.f3) := by
  obtain ⟨cur, hg, hs, ht⟩ := h
  have hi : i < ds.length := (List.getElem?_eq_some_iff.1 hy).1
  have H := fun j (v : Value) (hj : (api_Held_29_cells ds)[j]? = some v) => show w.cell? ⟨g, j, none⟩ = some v by
    rw [cell_of_row w g j cur _ _ hg]
    rw [← ht, List.getElem?_take] at hj
    split at hj
    · simpa using hj
    · cases hj
  obtain ⟨a0, a1, a2, a3⟩ := api_Held_29_get hy
  exact ⟨H _ _ a0, H _ _ a1, H _ _ a2, H _ _ a3⟩
theorem api_Held_29_holds_kept {w w' : World} {g cap : Nat} {ds : List (S31)} (h : api_Held_29_holds w g cap ds) (hb : Below w.heap.size w w') : api_Held_29_holds w' g cap ds := by
  obtain ⟨cur, hg, hs⟩ := h
  exact ⟨cur, (hb.block g (Array.getElem?_eq_some_iff.1 hg).1).trans hg, hs⟩
set_option maxRecDepth 100000 in
set_option maxHeartbeats 4000000 in
theorem api_Held_29_idx (g cap ub : Nat) (upto : Int) (ds : List (S31)) (w : World) (hh : api_Held_29_holds w g cap ds) (hl : ds.length ≤ 1000000000) (hu : w.cell? ⟨ub, 0, none⟩ = some (.int .i64 upto)) (R : Int) (hR : api_Held_29_fi upto ds 0 = R) :
    Calls Tryd.prog 51 #[.slice (some ⟨g, 0, none⟩) ds.length cap, .func (.func 30) #[] #[.pointer (some ⟨ub, 0, none⟩)]] w fun e w' => e = .returned (.int .i64 R) ∧ Below w.heap.size w w' := by
  have HH := Aside0.mk hh
  have HU := Aside0.mk hu
  have HR := Aside0.mk hR
  clear hh hu hR
  go_enter Tryd.func51, Tryd.ntmps51
  go_wp2
  go_loopg [5, 8] ds.length (fun kq _ v8 w' => ∃ (i : Nat), v8 = .int .i64 (i : Int) ∧ i ≤ ds.length ∧ ds.length - i ≤ kq ∧ Aside0 (api_Held_29_fi upto (ds.drop i) i = R) ∧ Aside0 (Below w.heap.size w w'))
  case atStart => exact ⟨0, rfl, Nat.zero_le _, Nat.le_refl _, HR, Aside0.mk (Below.refl _ _)⟩
  case round =>
    obtain ⟨i, rfl, hil, hk, HA, HB⟩ := hrel
    by_cases hlt : i < ds.length
    · have e1 : decide ((i : Int) < (ds.length : Int)) = true := decide_eq_true (by omega)
      obtain ⟨y, hy⟩ : ∃ y, ds[i]? = some y := ⟨_, List.getElem?_eq_getElem hlt⟩
      have hd : ds.drop i = y :: ds.drop (i + 1) := by rw [List.drop_eq_getElem_cons hlt]; rw [List.getElem?_eq_getElem hlt] at hy; rw [Option.some.inj hy]
      obtain ⟨y0, y1, y2, y3⟩ := api_Held_29_holds_at HH.out hy
      replace y0 := (HB.out.cell (World.block_lt_of_cell? w _ y0)).trans y0
      replace y1 := (HB.out.cell (World.block_lt_of_cell? w _ y1)).trans y1
      replace y2 := (HB.out.cell (World.block_lt_of_cell? w _ y2)).trans y2
      replace y3 := (HB.out.cell (World.block_lt_of_cell? w _ y3)).trans y3
      have hu2 := Aside0.mk ((HB.out.cell (World.block_lt_of_cell? w _ HU.out)).trans HU.out)
      have HA2 := HA.out
      rw [hd, api_Held_29_fi] at HA2
      have hw2 : IntKind.i64.wrap ((i : Int) + 1) = ((i + 1 : Nat) : Int) := by rw [IntWalk.i64_in _ (by omega)]; omega
      obtain ⟨c, hc⟩ : ∃ c, decide (y.f3 ≤ upto) = c := ⟨_, rfl⟩
      have HCC := Aside0.mk hc
      have HA3 := Aside0.mk HA2
      clear hd hy HA2 hc
      cases c with
      | true =>
        go_wp2_with (go_at_call 30; refine (api_Held_29_cl y upto ub _ hu2.out).mono ?_; rw [HCC.out]; rintro e w' ⟨rfl, hb⟩)
        go_ret
        have H := HA3.out
        rw [if_pos (of_decide_eq_true HCC.out)] at H
        exact ⟨by rw [← H]; rfl, below_step HB.out hb⟩
      | false =>
        go_wp2_with (go_at_call 30; refine (api_Held_29_cl y upto ub _ hu2.out).mono ?_; rw [HCC.out]; rintro e w' ⟨rfl, hb⟩)
        have H := HA3.out
        rw [if_neg (of_decide_eq_false HCC.out)] at H
        go_roundg (ds.length - (i + 1))
        case measure => omega
        case rel => exact ⟨i + 1, rfl, by omega, Nat.le_refl _, Aside0.mk H, Aside0.mk (below_step HB.out hb)⟩
    · have e1 : decide ((i : Int) < (ds.length : Int)) = false := decide_eq_false (by omega)
      obtain rfl : i = ds.length := by omega
      have H := HA.out
      rw [List.drop_length, api_Held_29_fi] at H
      go_wp2
      go_ret
      exact ⟨by rw [← H]; rfl, HB.out⟩
theorem api_Held_29_fi_spec (upto : Int) : ∀ (l : List (S31)) (s : Nat), (api_Held_29_fi upto l s = -1 ∧ (l.filter fun h => !decide (h.f3 ≤ upto)) = l) ∨ ∃ k, k < l.length ∧ api_Held_29_fi upto l s = ((s + k : Nat) : Int) ∧ ((l.take (k + 1)).filter fun h => !decide (h.f3 ≤ upto)) = l.take k
  | [], _ => .inl ⟨rfl, rfl⟩
  | h :: t, s => by
    by_cases hc : h.f3 ≤ upto
    · refine .inr ⟨0, by simp, ?_, ?_⟩
      · rw [api_Held_29_fi, if_pos hc]; rfl
      · simp [hc]
    · rcases api_Held_29_fi_spec upto t (s + 1) with ⟨e, ha⟩ | ⟨k, hk, e, ha⟩
      · refine .inl ⟨by rw [api_Held_29_fi, if_neg hc, e], ?_⟩
        rw [List.filter_cons, if_pos (by simp; omega), ha]
      · refine .inr ⟨k + 1, by simpa using hk, ?_, ?_⟩
        · rw [api_Held_29_fi, if_neg hc, e]; congr 1; omega
        · rw [List.take_succ_cons, List.filter_cons, if_pos (by simp; omega), ha, List.take_succ_cons]
theorem api_Held_29_cells_set (y : S31) : ∀ (ds : List (S31)) (i : Nat), i < ds.length → api_Held_29_cells (ds.set i y) = ((((api_Held_29_cells ds).set (i * 4) (.string y.f0)).set (i * 4 + 1) (.string y.f1)).set (i * 4 + 2) (.string y.f2)).set (i * 4 + 3) (.int .i64 y.f3)
  | [], _, h => absurd h (Nat.not_lt_zero _)
  | z :: l, 0, _ => by
    have hc : ∀ z : S31, api_Held_29_cells (z :: l) = .string z.f0 :: .string z.f1 :: .string z.f2 :: .int .i64 z.f3 :: api_Held_29_cells l := fun _ => rfl
    rw [List.set_cons_zero, hc, hc]
    simp
  | z :: l, i + 1, h => by
    have hc : ∀ (z : S31) l, api_Held_29_cells (z :: l) = .string z.f0 :: .string z.f1 :: .string z.f2 :: .int .i64 z.f3 :: api_Held_29_cells l := fun _ _ => rfl
    rw [List.set_cons_succ, hc, hc, api_Held_29_cells_set y l i (by simpa using h), show (i + 1) * 4 = i * 4 + 4 by omega]
    simp
theorem api_Held_29_holds_set {w : World} {g cap : Nat} {ds : List (S31)} (h : api_Held_29_holds w g cap ds) (i : Nat) (hi : i < ds.length) (y : S31) :
    api_Held_29_holds ((((w.setCell ⟨g, i * 4, none⟩ (.string y.f0)).setCell ⟨g, i * 4 + 1, none⟩ (.string y.f1)).setCell ⟨g, i * 4 + 2, none⟩ (.string y.f2)).setCell ⟨g, i * 4 + 3, none⟩ (.int .i64 y.f3)) g cap (ds.set i y) := by
  obtain ⟨cur, hg, hs, ht⟩ := h
  have sc : ∀ {W : World} {c : Array Value} (j : Nat) (v : Value), W.heap[g]? = some (.cells c 31 (0, 0)) → (W.setCell ⟨g, j, none⟩ v).heap[g]? = some (.cells (c.setIfInBounds j v) 31 (0, 0)) := fun j v h => by rw [setCell_eq_setRow _ g j _ _ _ v h]; exact setRow_heap _ _ _ _ _ _ h
  have g4 := sc (i * 4 + 3) (.int .i64 y.f3) (sc (i * 4 + 2) (.string y.f2) (sc (i * 4 + 1) (.string y.f1) (sc (i * 4) (.string y.f0) hg)))
  refine ⟨_, g4, by simp [hs], ?_⟩
  rw [List.length_set, api_Held_29_cells_set y ds i hi, ← ht]
  simp only [Array.toList_setIfInBounds, List.take_set]
theorem api_Held_29_holds_take {w : World} {g cap : Nat} {ds : List (S31)} (h : api_Held_29_holds w g cap ds) (i : Nat) (hi : i ≤ ds.length) : api_Held_29_holds w g cap (ds.take i) := by
  obtain ⟨cur, hg, hs, ht⟩ := h
  refine ⟨cur, hg, hs, ?_⟩
  rw [List.length_take, Nat.min_eq_left hi]
  have e1 : api_Held_29_cells (ds.take i) = (api_Held_29_cells ds).take (i * 4) := by
    have h2 : api_Held_29_cells ds = api_Held_29_cells (ds.take i) ++ api_Held_29_cells (ds.drop i) := by
      show List.flatMap _ ds = List.flatMap _ (ds.take i) ++ List.flatMap _ (ds.drop i); rw [← List.flatMap_append, List.take_append_drop]
    rw [h2, List.take_left' (by rw [api_Held_27_cells_length, List.length_take, Nat.min_eq_left hi])]
  rw [e1, ← ht, List.take_take, Nat.min_eq_left (by omega)]
set_option maxRecDepth 100000 in
/-- clear of the row's end. -/
theorem api_Held_29_clear {w : World} {g cap : Nat} {ds : List (S31)} (h : api_Held_29_holds w g cap ds) (i : Nat) (hi : i < ds.length) (hc : ds.length ≤ cap) :
    ∃ cur', (∀ ty, (Builtin.clear_ #[22] ty #[.slice (some ⟨g, i * 4, none⟩) (ds.length - i) (cap - i)]).run Tryd.prog w = .ok (.tuple #[]) (w.setRow g cur')) ∧ api_Held_29_holds (w.setRow g cur') g cap (ds.take i) := by
  have hh := h
  obtain ⟨cur, hg, hs, ht⟩ := h
  obtain ⟨i0, hi0, hz0, hz1, hz2⟩ : ∃ i0, Tryd.prog.info? 31 = some i0 ∧ i0.zero = some (.agg #[(.string ⟨#[]⟩), (.string ⟨#[]⟩), (.string ⟨#[]⟩), (.int .i64 0)]) ∧ i0.size = 4 ∧ i0.bytes = 56 := by
    have h : (Tryd.prog.info? 31).map (fun i => (i.zero, i.size, i.bytes)) = some (some (.agg #[(.string ⟨#[]⟩), (.string ⟨#[]⟩), (.string ⟨#[]⟩), (.int .i64 0)]), 4, 56) := by kernel_rfl
    cases hq : Tryd.prog.info? 31 with
    | none => rw [hq] at h; cases h
    | some i0 => rw [hq] at h; simp at h; exact ⟨i0, rfl, h.1, h.2.1, h.2.2⟩
  obtain ⟨Z, hZ⟩ : ∃ Z : List Value, Z = (Builtin.zeroCells (Value.agg #[(.string ⟨#[]⟩), (.string ⟨#[]⟩), (.string ⟨#[]⟩), (.int .i64 0)]).cells (ds.length - i)).toList := ⟨_, rfl⟩
  have hZl : Z.length = (ds.length - i) * 4 := by rw [hZ, Array.length_toList, size_zeroCells]; rfl
  have hZ1 : ∀ v ∈ Z, v.oneCell' = true := by
    intro v hv
    rw [hZ] at hv
    simp [Builtin.zeroCells, Value.cells] at hv
    obtain ⟨j, _, rfl⟩ := hv
    have h4 : j % 4 = 0 ∨ j % 4 = 1 ∨ j % 4 = 2 ∨ j % 4 = 3 := by omega
    rcases h4 with h4 | h4 | h4 | h4 <;> simp [h4] <;> rfl
  have hst := run_storeCells_at Tryd.prog g (i * 4) 31 Z 0 cur w hg (by rw [hZl, hs]; omega) hZ1
  refine ⟨(cur.toList.take (i * 4 + 0) ++ Z ++ cur.toList.drop (i * 4 + 0 + Z.length)).toArray, fun ty => ?_, ?_⟩
  · obtain ⟨m, hm⟩ : ∃ m, ds.length - i = m + 1 := ⟨ds.length - i - 1, by omega⟩
    rw [hm] at hZ ⊢
    simp [Builtin.clear_, run_underlying (Tryd.underlying22), zeroValue, typeInfo, hi0, hz0, ← hZ, hst]
  · have h2 := api_Held_29_holds_take hh i (by omega)
    obtain ⟨cur2, hg2, hs2, ht2⟩ := h2
    obtain rfl : cur2 = cur := by rw [hg] at hg2; injection hg2 with e; injection e with e1; exact e1.symm
    refine ⟨_, setRow_heap _ _ _ _ _ _ hg, ?_, ?_⟩
    · have : cur2.toList.length = cap * 4 := by rw [Array.length_toList, hs]
      rw [← Array.length_toList, List.toList_toArray, List.length_append, List.length_append, List.length_take, List.length_drop, hZl, this]; omega
    · rw [← ht2, List.toList_toArray, List.append_assoc, Nat.add_zero, List.length_take, Nat.min_eq_left (by omega)]
      have : cur2.toList.length = cap * 4 := by rw [Array.length_toList, hs]
      exact List.take_left' (by rw [List.length_take]; omega)
set_option maxRecDepth 100000 in
set_option maxHeartbeats 4000000 in
theorem api_Held_29_none (g cap ub : Nat) (upto : Int) (ds : List (S31)) (w : World) (hh : api_Held_29_holds w g cap ds) (hl : ds.length ≤ 1000000000) (hu : w.cell? ⟨ub, 0, none⟩ = some (.int .i64 upto)) (hR : api_Held_29_fi upto ds 0 = -1) :
    Calls Tryd.prog 29 #[.slice (some ⟨g, 0, none⟩) ds.length cap, .func (.func 30) #[] #[.pointer (some ⟨ub, 0, none⟩)]] w fun e w' => e = .returned (.slice (some ⟨g, 0, none⟩) ds.length cap) ∧ Below w.heap.size w w' := by
  have HI := Aside0.mk (api_Held_29_idx g cap ub upto ds w hh hl hu (-1) hR)
  clear hh hu hR
  go_enter Tryd.func29, Tryd.ntmps29
  go_wp2_with (go_at_call 51; refine HI.out.mono ?_; rintro e w' ⟨rfl, hb⟩)
  go_ret
  exact ⟨rfl, hb⟩
theorem api_Held_29_box {W W' : World} {b : Nat} {u0 u1 u2 u3 : Value} {t : TypeId} {fr : Nat × Nat} (hb : Below W.heap.size W W') (h : W.heap[b]? = some (.cells #[u0, u1, u2, u3] t fr)) : W'.cell? ⟨b, 0, none⟩ = some u0 ∧ W'.cell? ⟨b, 1, none⟩ = some u1 ∧ W'.cell? ⟨b, 2, none⟩ = some u2 ∧ W'.cell? ⟨b, 3, none⟩ = some u3 :=
  have h' : W'.heap[b]? = some (.cells #[u0, u1, u2, u3] t fr) := (hb.block b (Array.getElem?_eq_some_iff.1 h).1).trans h
  ⟨(cell_of_row W' b 0 _ _ _ h').trans rfl, (cell_of_row W' b 1 _ _ _ h').trans rfl, (cell_of_row W' b 2 _ _ _ h').trans rfl, (cell_of_row W' b 3 _ _ _ h').trans rfl⟩
theorem api_Held_29_warm {w : World} {g cap : Nat} {ds : List (S31)} (h : api_Held_29_holds w g cap ds) (j : Nat) : w.frozen? ⟨g, j, none⟩ = false := by
  obtain ⟨cur, hg, _⟩ := h
  simp [World.frozen?, hg]
theorem api_Held_29_in {w : World} {g cap : Nat} {ds : List (S31)} (h : api_Held_29_holds w g cap ds) : g < w.heap.size := by
  obtain ⟨cur, hg, _⟩ := h
  exact (Array.getElem?_eq_some_iff.1 hg).1
set_option maxRecDepth 100000 in
set_option maxHeartbeats 4000000 in
theorem api_Held_29_del (B g cap ub : Nat) (upto : Int) (l : List (S31)) (w : World) (hB : B ≤ g) (hh : api_Held_29_holds w g cap l) (hl : l.length ≤ 1000000000) (hc : l.length ≤ cap) (hcm : cap ≤ 9223372036854775807) (hu : w.cell? ⟨ub, 0, none⟩ = some (.int .i64 upto)) (hug : ub ≠ g) (i0 : Nat) (hi0 : i0 < l.length) (hft : ((l.take (i0 + 1)).filter fun h => !decide (h.f3 ≤ upto)) = l.take i0) (hR : api_Held_29_fi upto l 0 = (i0 : Int)) :
    Calls Tryd.prog 29 #[.slice (some ⟨g, 0, none⟩) l.length cap, .func (.func 30) #[] #[.pointer (some ⟨ub, 0, none⟩)]] w fun e w' => e = .returned (.slice (some ⟨g, 0, none⟩) (l.filter fun h => !decide (h.f3 ≤ upto)).length cap) ∧ api_Held_29_holds w' g cap (l.filter fun h => !decide (h.f3 ≤ upto)) ∧ Below B w w' := by
  have HI := Aside0.mk (api_Held_29_idx g cap ub upto l w hh hl hu (i0 : Int) hR)
  have HH := Aside0.mk hh
  have HU := Aside0.mk hu
  have HF := Aside0.mk hft
  have hgw := api_Held_29_in hh
  have hne1 : ((i0 : Int) == -1) = false := beq_eq_false_iff_ne.2 (by omega)
  clear hh hu hR hft
  go_enter Tryd.func29, Tryd.ntmps29
  go_wp2_with (go_at_call 51; refine HI.out.mono ?_; rintro e w' ⟨rfl, hb⟩)
  go_loopg [5, 6, 7] l.length (fun kq v5 v6 _ w' => ∃ (i j : Nat) (ds : List (S31)), v5 = .int .i64 (i : Int) ∧ v6 = .int .i64 (j : Int) ∧ ds.length = l.length ∧ i < j ∧ j ≤ l.length ∧ l.length - j ≤ kq ∧ Aside0 (ds.take i = ((l.take j).filter fun h => !decide (h.f3 ≤ upto))) ∧ Aside0 (ds.drop j = l.drop j) ∧ Aside0 (api_Held_29_holds w' g cap ds) ∧ Aside0 (w'.cell? ⟨ub, 0, none⟩ = some (.int .i64 upto)) ∧ Aside0 (Below B w w'))
  case atStart =>
    exact ⟨i0, i0 + 1, l, rfl, by go_num, rfl, by omega, by omega, by omega, Aside0.mk HF.out.symm, Aside0.mk rfl, Aside0.mk (api_Held_29_holds_kept HH.out hb), Aside0.mk ((hb.cell (World.block_lt_of_cell? w _ HU.out)).trans HU.out), Aside0.mk (hb.mono (by omega))⟩
  case round =>
    obtain ⟨i, j, ds, rfl, rfl, hdl, hij, hjl, hk, HT, HD, HW, HV, HB⟩ := hrel
    by_cases hlt : j < l.length
    · have e1 : decide ((j : Int) < (l.length : Int)) = true := decide_eq_true (by omega)
      obtain ⟨y, hy⟩ : ∃ y, ds[j]? = some y := ⟨_, List.getElem?_eq_getElem (by omega)⟩
      obtain ⟨z, hz⟩ : ∃ z, ds[i]? = some z := ⟨_, List.getElem?_eq_getElem (by omega)⟩
      have HY := Aside0.mk hy
      have HZ := Aside0.mk hz
      have hyl : l[j]? = some y := by
        have h0 : (ds.drop j)[0]? = some y := by rw [List.getElem?_drop]; exact hy
        rw [HD.out, List.getElem?_drop] at h0
        exact h0
      have HYL := Aside0.mk hyl
      obtain ⟨y0, y1, y2, y3⟩ := api_Held_29_holds_at HW.out hy
      clear hy hz hyl
      have hw2 : IntKind.i64.wrap ((j : Int) + 1) = ((j + 1 : Nat) : Int) := by rw [IntWalk.i64_in _ (by omega)]; omega
      have hw3 : IntKind.i64.wrap ((i : Int) + 1) = ((i + 1 : Nat) : Int) := by rw [IntWalk.i64_in _ (by omega)]; omega
      have hBw : B ≤ wr.heap.size := Nat.le_trans (by omega) HB.out.size
      have HBA := Aside0.mk hBw
      clear hBw
      obtain ⟨c, hcc⟩ : ∃ c, decide (y.f3 ≤ upto) = c := ⟨_, rfl⟩
      have HCC := Aside0.mk hcc
      clear hcc
      have hlj : (l.take (j + 1)).filter (fun h => !decide (h.f3 ≤ upto)) = (l.take j).filter (fun h => !decide (h.f3 ≤ upto)) ++ (if c = true then [] else [y]) := by
        rw [List.take_add_one, HYL.out, List.filter_append]
        congr 1
        show List.filter _ [y] = _
        rw [List.filter_cons, HCC.out]
        cases c <;> simp
      have HLJ := Aside0.mk hlj
      clear hlj
      cases c with
      | true =>
        go_wp2_with (go_at_call 30; refine (api_Held_29_cl y upto ub _ (Lib.cell?_alloc_some _ HV.out)).mono ?_; rw [HCC.out]; rintro e w2 ⟨rfl, hb2⟩; have HW2 := Aside0.mk (api_Held_29_holds_kept (api_Held_29_holds_kept HW.out ((Below.refl _ _).alloc (Nat.le_refl _) _)) hb2); have HB2 := Aside0.mk ((HB.out.alloc HBA.out _).trans (hb2.mono (Nat.le_trans HBA.out ((Below.refl 0 wr).alloc (Nat.zero_le _) _).size))); have HV2 := Aside0.mk ((hb2.cell (World.block_lt_of_cell? _ _ (Lib.cell?_alloc_some _ HV.out))).trans (Lib.cell?_alloc_some _ HV.out)))
        go_roundg (l.length - (j + 1))
        case measure => omega
        case rel =>
          exact ⟨i, j + 1, ds, rfl, rfl, hdl, by omega, by omega, Nat.le_refl _, Aside0.mk (by rw [HT.out, HLJ.out]; simp), Aside0.mk (by rw [← List.drop_drop, HD.out, List.drop_drop]), HW2, HV2, HB2⟩
      | false =>
        go_wp2_with (go_at_call 30; refine (api_Held_29_cl y upto ub _ (Lib.cell?_alloc_some _ HV.out)).mono ?_; rw [HCC.out]; rintro e w2 ⟨rfl, hb2⟩; have HW2 := Aside0.mk (api_Held_29_holds_kept (api_Held_29_holds_kept HW.out ((Below.refl _ _).alloc (Nat.le_refl _) _)) hb2); obtain ⟨b0, b1, b2, b3⟩ := api_Held_29_box hb2 (heap_alloc_new wr _); obtain ⟨z0, z1, z2, z3⟩ := api_Held_29_holds_at HW2.out HZ.out; have f0 := api_Held_29_warm HW2.out (i * 4); have f1 := api_Held_29_warm HW2.out (i * 4 + 1); have f2 := api_Held_29_warm HW2.out (i * 4 + 2); have f3 := api_Held_29_warm HW2.out (i * 4 + 3); have HB2 := Aside0.mk ((HB.out.alloc HBA.out _).trans (hb2.mono (Nat.le_trans HBA.out ((Below.refl 0 wr).alloc (Nat.zero_le _) _).size))); have HV2 := Aside0.mk ((hb2.cell (World.block_lt_of_cell? _ _ (Lib.cell?_alloc_some _ HV.out))).trans (Lib.cell?_alloc_some _ HV.out)))
        go_roundg (l.length - (j + 1))
        case measure => omega
        case rel =>
          refine ⟨i + 1, j + 1, ds.set i y, rfl, rfl, by rw [List.length_set]; exact hdl, by omega, by omega, Nat.le_refl _, Aside0.mk ?_, Aside0.mk ?_, Aside0.mk (api_Held_29_holds_set HW2.out i (by omega) y), Aside0.mk ?_, Aside0.mk ((((HB2.out.setCell hB _).setCell hB _).setCell hB _).setCell hB _)⟩
          · rw [HLJ.out, ← HT.out, List.take_add_one, List.getElem?_set_self (by omega), List.take_set, List.set_eq_of_length_le (by rw [List.length_take]; omega)]
            rfl
          · rw [List.drop_set_of_lt (by omega), ← List.drop_drop, HD.out, List.drop_drop]
          · rw [World.cell?_setCell_other _ _ _ _ (by simp [hug]), World.cell?_setCell_other _ _ _ _ (by simp [hug]), World.cell?_setCell_other _ _ _ _ (by simp [hug]), World.cell?_setCell_other _ _ _ _ (by simp [hug])]
            exact HV2.out
    · have e1 : decide ((j : Int) < (l.length : Int)) = false := decide_eq_false (by omega)
      obtain rfl : j = l.length := by omega
      have hil : i < ds.length := by omega
      obtain ⟨cur', hcl, hho⟩ := api_Held_29_clear HW.out i hil (by omega)
      rw [hdl] at hcl
      have hin : i ≤ cap := by omega
      have HHO := Aside0.mk hho
      clear hho
      go_wp2
      go_ret
      have h1 := HT.out
      rw [List.take_length] at h1
      have h2 : (l.filter fun h => !decide (h.f3 ≤ upto)).length = i := by rw [← h1, List.length_take]; omega
      have h3 := HHO.out
      rw [h1] at h3
      exact ⟨by rw [h2]; rfl, h3, HB.out.trans ⟨rfl, rfl, rfl, by simp [World.setRow], fun k hk => RowK.setRow_other _ _ _ k (by omega)⟩⟩
set_option maxRecDepth 100000 in
set_option maxHeartbeats 1000000 in
theorem api_Held_29_nil (ub : Nat) (w : World) :
    Calls Tryd.prog 29 #[.slice none 0 0, .func (.func 30) #[] #[.pointer (some ⟨ub, 0, none⟩)]] w fun e w' => e = .returned (.slice none 0 0) ∧ Below w.heap.size w w' := by
  have hi : Calls Tryd.prog 51 #[.slice none 0 0, .func (.func 30) #[] #[.pointer (some ⟨ub, 0, none⟩)]] w fun e w' => e = .returned (.int .i64 (-1)) ∧ Below w.heap.size w w' := by
    go_enter Tryd.func51, Tryd.ntmps51
    go_wp2
    go_loopg [5, 8] 0 (fun kq _ v8 w' => v8 = .int .i64 0 ∧ Aside0 (Below w.heap.size w w'))
    case atStart => exact ⟨rfl, Aside0.mk (Below.refl _ _)⟩
    case round =>
      obtain ⟨rfl, HB⟩ := hrel
      go_wp2
      go_ret
      exact ⟨rfl, HB.out⟩
  have HI := Aside0.mk hi
  clear hi
  go_enter Tryd.func29, Tryd.ntmps29
  go_wp2_with (go_at_call 51; refine HI.out.mono ?_; rintro e w' ⟨rfl, hb⟩)
  go_ret
  exact ⟨rfl, hb⟩
theorem api_Held_29_own (B : Nat) (s : Value) (ub : Nat) (upto : Int) (l : List (S31)) (w : World) (hs : w.ownsRow B 31 4 s l.length (api_Held_29_cells l)) (hl : l.length ≤ 1000000000) (hB : B ≤ w.heap.size) (hu : w.cell? ⟨ub, 0, none⟩ = some (.int .i64 upto)) (hug : s.ownBlock ≠ some ub) :
    Calls Tryd.prog 29 #[s, .func (.func 30) #[] #[.pointer (some ⟨ub, 0, none⟩)]] w fun e w' => ∃ a c, e = .returned (.slice a (l.filter fun h => !decide (h.f3 ≤ upto)).length c) ∧ w'.ownsRow B 31 4 (.slice a (l.filter fun h => !decide (h.f3 ≤ upto)).length c) (l.filter fun h => !decide (h.f3 ≤ upto)).length (api_Held_29_cells (l.filter fun h => !decide (h.f3 ≤ upto))) ∧ Below B w w' := by
  rcases hs.2 with ⟨rfl, h0⟩ | ⟨g, cap, cur, rfl, hbg, hg, hnc, hcm, hcs, htk⟩
  · obtain rfl := List.length_eq_zero_iff.1 h0
    exact (api_Held_29_nil ub w).mono fun e w' ⟨h1, h2⟩ => ⟨none, 0, h1, World.ownsRow_nil _ _ _ _, h2.mono hB⟩
  · have hh : api_Held_29_holds w g cap l := ⟨cur, hg, hcs, htk⟩
    have hne : ub ≠ g := fun e => hug (by simp [Value.ownBlock, e])
    rcases api_Held_29_fi_spec upto l 0 with ⟨e, ha⟩ | ⟨k, hk, e, ha⟩
    · rw [ha]
      exact (api_Held_29_none g cap ub upto l w hh hl hu e).mono fun e w' ⟨h1, h2⟩ => ⟨some ⟨g, 0, none⟩, cap, h1, ⟨hs.1, .inr ⟨g, cap, cur, rfl, hbg, (h2.block g (Array.getElem?_eq_some_iff.1 hg).1).trans hg, hnc, hcm, hcs, htk⟩⟩, h2.mono hB⟩
    · rw [Nat.zero_add] at e
      refine (api_Held_29_del B g cap ub upto l w hbg hh hl hnc (by unfold maxLen at hcm; omega) hu hne k hk ha e).mono fun e w' ⟨h1, h2, h3⟩ => ⟨some ⟨g, 0, none⟩, cap, h1, ?_, h3⟩
      obtain ⟨cur2, hg2, hs2, ht2⟩ := h2
      exact ⟨api_Held_27_cells_length _, .inr ⟨g, cap, cur2, rfl, hbg, hg2, Nat.le_trans (List.length_filter_le _ _) hnc, hcm, hs2, ht2⟩⟩

end Go.Proofs.YtekfemiomdpahaaDoor.Hk
