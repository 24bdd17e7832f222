/- Merged of several texts of this session's by merge.py. -/
import Derived.Test.YtoiockmmlanimaaDoorMw3
import Derived.Lib.Hide
import Derived.IntWalk
import Derived.Deep.QuietTactic
import Derived.BigQuiet
import Derived.OwnWalk
import Derived.Lib.LazyBuf
import Derived.Lib.SliceRun
import Derived.Lib.Walk
import Derived.Shelf.Spec.SlicesInsertGrow
import Derived.Test.YtoiockmmlanimaaDoorMw6
import Derived.Test.YtoiockmmlanimaaDoorMw5
import Derived.Test.YtoiockmmlanimaaDoorMw2
section
-- Written for this claim by hyb.py, a driver of this session's over the kit's printer.
namespace Go.Proofs.YtoiockmmlanimaaDoor.Hw
open Go.RowKit Go.Proofs.YtoiockmmlanimaaDoorW.PrintWords Go.Proofs.YtoiockmmlanimaaDoorW.PrintLast Go.Proofs.YtoiockmmlanimaaDoorW.PrintMore
attribute [local go_sem] max2_int min2_int max_two min_two max_three min_three max_four min_four   -- for this text's walks alone
set_option linter.unusedVariables false
set_option linter.unusedSimpArgs false

/-! ### EXT api_Part: function 41 -/
/-- Insert has a contract over rows (below), no printed one. -/
def api_Part.f (l0 : List (S46)) (a1 : Int) (l2 : List (S46)) : Option (List (S46)) := none
theorem api_Part_info : ∃ i0, Tryd.prog.info? 46 = some i0 ∧ i0.zero = some (.agg #[(.int .i64 0), (.int .i64 0), (.string ⟨#[]⟩), (.slice none 0 0)]) ∧ i0.size = 4 ∧ i0.bytes = 56 := by
  have h : (Tryd.prog.info? 46).map (fun i => (i.zero, i.size, i.bytes)) = some (some (.agg #[(.int .i64 0), (.int .i64 0), (.string ⟨#[]⟩), (.slice none 0 0)]), 4, 56) := by kernel_rfl
  cases hq : Tryd.prog.info? 46 with
  | none => rw [hq] at h; cases h
  | some i0 => rw [hq] at h; simp at h; exact ⟨i0, rfl, h.1, h.2.1, h.2.2⟩
set_option maxRecDepth 100000 in
set_option maxHeartbeats 1000000 in
theorem api_Part_end (B : Nat) (s : Value) (xs vs : List Value) (n vb : Nat) (w : World) (hs : w.ownsRow B 46 4 s n xs) (hn : n ≤ 1000000) (h1v : ∀ u ∈ vs, u.oneCell' = true) (hvl : vs.length = 4) (hv : ∀ j u, vs[j]? = some u → w.cell? ⟨vb, j, none⟩ = some u) (hB : B ≤ w.heap.size) :
    Calls Tryd.prog 41 #[s, .int .i64 n, .slice (some ⟨vb, 0, none⟩) 1 1] w fun e w' => ∃ v', e = .returned v' ∧ w'.ownsRow B 46 4 v' (n + 1) (xs ++ vs) ∧ w.grownBy w' s.ownBlock := by
  obtain ⟨i0, hi, hz0, hz1, hz2⟩ := api_Part_info
  have HV := Lib.hid hv
  have HS := Lib.hid hs
  rcases hs.2 with ⟨rfl, rfl⟩ | ⟨g, cap, cur, rfl, hbg, hg, hnc, hcm, hcs, htk⟩
  · clear hs hv
    go_enter Tryd.func41, Tryd.ntmps41
    go_wp2_with (at_builtin; refine wpList_append_own _ rfl _ _ 22 rfl B 46 i0 _ 4 56 Tryd.underlying22 hi hz0 hz1 hz2 rfl (by decide) _ _ _ rfl HS.out ⟨vb, 0, none⟩ 1 1 vs rfl ?qc1 ?qc2 ?qc3 ?qc4 ?qc5 ?qc6 ?_)
    case qc1 => exact hvl
    case qc2 => intro j u hj; rw [Addr.add_lit, Nat.zero_add]; exact HV.out j u hj
    case qc3 => exact h1v
    case qc4 => unfold maxLen; omega
    case qc5 => omega
    case qc6 => exact hB
    intro v' w1 hown hgrow hnil
    go_wp2
    go_ret
    exact ⟨_, rfl, hown, hgrow⟩
  · clear hs hv
    unfold maxLen at hcm
    have hcn : ¬ ((n : Int) < 0) := by omega
    clear htk hg hcs
    go_enter Tryd.func41, Tryd.ntmps41
    go_wp2_with (at_builtin; refine wpList_append_own _ rfl _ _ 22 rfl B 46 i0 _ 4 56 Tryd.underlying22 hi hz0 hz1 hz2 rfl (by decide) _ _ _ rfl HS.out ⟨vb, 0, none⟩ 1 1 vs rfl ?qd1 ?qd2 ?qd3 ?qd4 ?qd5 ?qd6 ?_)
    case qd2 => intro j u hj; have := HV.out j u hj; first | exact this | (rw [Addr.add_lit, Nat.zero_add]; exact this)
    case qd3 => exact h1v
    case qd4 => unfold maxLen; omega
    case qd5 => omega
    all_goals
      intro v' w1 hown hgrow hnil
      go_wp2
      go_ret
      exact ⟨_, rfl, hown, hgrow⟩
set_option maxRecDepth 100000 in
set_option maxHeartbeats 4000000 in
theorem api_Part_grow (B g n cap i vb : Nat) (cur : Array Value) (tv : TypeId) (xs vs : List Value) (w : World) (hi : i < n) (hn : n ≤ 1000000) (hnc : n ≤ cap) (hroom : cap < n + 1) (hcm : cap ≤ maxLen) (hB : B ≤ w.heap.size)
    (hg : w.heap[g]? = some (.cells cur 46 (0, 0))) (hcs : cur.size = cap * 4) (htk : cur.toList.take (n * 4) = xs) (h1x : ∀ u ∈ xs, u.oneCell' = true) (h1v : ∀ u ∈ vs, u.oneCell' = true) (hvl : vs.length = 4)
    (hv : w.heap[vb]? = some (.cells vs.toArray tv (0, 0))) (hvb : vb ≠ g) :
    Calls Tryd.prog 41 #[.slice (some ⟨g, 0, none⟩) n cap, .int .i64 i, .slice (some ⟨vb, 0, none⟩) 1 1] w fun e w' => ∃ v', e = .returned v' ∧ w'.ownsRow B 46 4 v' (n + 1) (xs.take (i * 4) ++ vs ++ xs.drop (i * 4)) ∧ w.grownBy w' (some g) := by
  obtain ⟨i0, hi0, hz0, hz1, hz2⟩ := api_Part_info
  have hu : Tryd.prog.underlying 22 = some (.slice 46) := Tryd.underlying22
  have hu3 : Tryd.prog.underlying 3 = some (.int .i64) := Tryd.underlying3
  have hsz : (Tryd.prog.info? 46).map (·.size) = some 4 := by rw [hi0]; simp [hz1]
  have hgl : g < w.heap.size := (Array.getElem?_eq_some_iff.1 hg).1
  have hvll : vb < w.heap.size := (Array.getElem?_eq_some_iff.1 hv).1
  have hxl : xs.length = n * 4 := by rw [← htk, List.length_take, Array.length_toList, hcs]; omega
  have hxc : ∀ j v, xs[j]? = some v → w.cell? ⟨g, j, none⟩ = some v := fun j v hj => by
    rw [cell_of_row w g j cur _ _ hg]
    rw [← htk, List.getElem?_take] at hj
    split at hj
    · simpa using hj
    · cases hj
  have hvc : ∀ j v, vs[j]? = some v → w.cell? ⟨vb, j, none⟩ = some v := fun j v hj => by
    rw [cell_of_row w vb j vs.toArray _ _ hv]; simpa using hj
  have hold : (Builtin.firstCells i0.size i (.slice (some ⟨g, 0, none⟩) i cap)).run Tryd.prog w.drew = .ok (xs.take (i * 4)).toArray w.drew := by
    rw [hz1]
    exact run_firstCells_some w.drew 4 i ⟨g, 0, none⟩ i cap (xs.take (i * 4)) (by rw [List.length_take, hxl]; omega) (fun j v hj => by
      rw [Addr.add_lit, Nat.zero_add]
      rw [List.getElem?_take] at hj
      split at hj
      · exact hxc j v hj
      · cases hj)
  obtain ⟨G, hG⟩ : ∃ G, G = grownCap w (n + 1) cap 46 := ⟨_, rfl⟩
  have hGn : n + 1 ≤ G := by rw [hG]; exact grownCap_ge w _ _ _
  have hGm : G ≤ maxLen := by rw [hG]; exact grownCap_le_maxLen w (n + 1) cap _ (by unfold maxLen; omega)
  obtain ⟨Z, hZ⟩ : ∃ Z : Array Value, Z = Builtin.zeroCells (Value.agg #[(.int .i64 0), (.int .i64 0), (.string ⟨#[]⟩), (.slice none 0 0)]).cells (n + 1 - i) ++ Builtin.zeroCells (Value.agg #[(.int .i64 0), (.int .i64 0), (.string ⟨#[]⟩), (.slice none 0 0)]).cells (G - (n + 1)) := ⟨_, rfl⟩
  have hZl : Z.toList.length = (G - i) * 4 := by
    rw [hZ, Array.length_toList, Array.size_append, size_zeroCells, size_zeroCells]
    show (n + 1 - i) * 4 + (G - (n + 1)) * 4 = _
    omega
  obtain ⟨ROW, hROW⟩ : ∃ ROW : Array Value, ROW = (xs.take (i * 4)).toArray ++ Z := ⟨_, rfl⟩
  have hrz : ∀ ty, (Builtin.append_ #[22, 3] ty #[.slice (some ⟨g, 0, none⟩) i cap, .int .i64 ((n : Int) + 1 - (i : Int))]).run Tryd.prog w =
      .ok (.slice (some ⟨w.heap.size, 0, none⟩) (n + 1) G) (w.drew.alloc (.cells ROW 46)) := fun ty => by
    have hik : i + (n + 1 - i) = n + 1 := by omega
    have h := Lib.run_append_grow_zeros w 22 3 ty 46 i0 _ .i64 .i64 hu hu3 hi0 hz0 (some ⟨g, 0, none⟩) i cap (xs.take (i * 4)) hold (n + 1 - i) (by omega) (by rw [hz1]; omega) (by omega) (by omega) (by rw [hz2]; omega) (by rw [hz2, hik]; exact growslice_fits hroom (by omega))
    rw [hik, ← hG] at h
    rw [show (n : Int) + 1 - (i : Int) = ((n + 1 - i : Nat) : Int) by omega, h, hROW, hZ, Array.append_assoc]
  obtain ⟨W1, hW1⟩ : ∃ W1, W1 = w.drew.alloc (.cells ROW 46) := ⟨_, rfl⟩
  have hN1 : W1.heap[w.heap.size]? = some (.cells ROW 46 (0, 0)) := by rw [hW1]; exact heap_alloc_new w.drew _
  have hk1 : ∀ k, k < w.heap.size → W1.heap[k]? = w.heap[k]? := fun k hk => by rw [hW1]; exact Below.heap_alloc w.drew _ k hk
  obtain ⟨R1, hR1⟩ : ∃ R1 : Array Value, R1 = (ROW.toList.take (i * 4) ++ vs ++ ROW.toList.drop (i * 4 + vs.length)).toArray := ⟨_, rfl⟩
  obtain ⟨R2, hR2⟩ : ∃ R2 : Array Value, R2 = (R1.toList.take ((i + 1) * 4) ++ xs.drop (i * 4) ++ R1.toList.drop ((i + 1) * 4 + (xs.drop (i * 4)).length)).toArray := ⟨_, rfl⟩
  have hfin := RowK.grow_list xs vs Z.toList ROW.toList R1.toList R2.toList (i * 4) (n * 4) 4 hxl (by omega) hvl (by rw [hROW]; simp) (by rw [hZl]; omega) (by rw [hR1]) (by rw [hR2, show (i + 1) * 4 = i * 4 + 4 by omega])
  obtain ⟨hf1, hf2, hf3⟩ := hfin
  have hRl : ROW.toList.length = G * 4 := by rw [hROW]; simp only [Array.toList_append, List.length_append, hZl, List.length_take, hxl]; omega
  have hdl : (xs.drop (i * 4)).length = (n - i) * 4 := by rw [List.length_drop, hxl]; omega
  have hcpA : ∀ (W : World), W.heap = W1.heap → ∀ ty dc, (Builtin.copy_ #[22, 22] ty #[.slice (some ⟨w.heap.size, i * 4, none⟩) (n + 1 - i) dc, .slice (some ⟨vb, 0, none⟩) 1 1]).run Tryd.prog W = .ok (.int .i64 1) (W.setRow w.heap.size R1) := fun W hW ty dc => by
    rw [hR1]
    exact RowK.run_copy_rowK W _ _ ty 46 4 w.heap.size (i * 4) (n + 1 - i) dc ⟨vb, 0, none⟩ 1 1 1 ROW 46 vs hu hsz (by rw [hW]; exact hN1) (by simp only [Nat.min_def]; split <;> omega) (by rw [hvl])
      (fun j v hj => by rw [Addr.add_lit, Nat.zero_add, World.cell?_of_block (w := w) (by rw [hW]; exact hk1 _ hvll)]; exact hvc j v hj)
      (by rw [hvl, ← Array.length_toList, hRl]; omega) h1v
  have hcpB : ∀ (W : World), W.heap = (W1.setRow w.heap.size R1).heap → ∀ ty dc sc, (Builtin.copy_ #[22, 22] ty #[.slice (some ⟨w.heap.size, (i + 1) * 4, none⟩) (n + 1 - (i + 1)) dc, .slice (some ⟨g, i * 4, none⟩) (n - i) sc]).run Tryd.prog W = .ok (.int .i64 ((n - i : Nat) : Int)) (W.setRow w.heap.size R2) := fun W hW ty dc sc => by
    rw [hR2]
    exact RowK.run_copy_rowK W _ _ ty 46 4 w.heap.size ((i + 1) * 4) (n + 1 - (i + 1)) dc ⟨g, i * 4, none⟩ (n - i) sc (n - i) R1 46 (xs.drop (i * 4)) hu hsz (by rw [hW]; exact setRow_heap W1 _ _ _ _ _ hN1) (by simp only [Nat.min_def]; split <;> omega) hdl
      (fun j v hj => by
        rw [Addr.add_lit, World.cell?_of_block (w := w) (by rw [hW]; show (W1.setRow w.heap.size R1).heap[g]? = _; rw [RowK.setRow_other W1 _ _ g (by omega)]; exact hk1 _ hgl)]
        exact hxc (i * 4 + j) v (by rwa [List.getElem?_drop] at hj))
      (by rw [hdl, ← Array.length_toList, hf3, hRl]; omega) (fun v hv => h1x v (List.mem_of_mem_drop hv))
  have hres : ∀ (W : World), W.os = w.os → W.tape = w.tape → W.output = w.output → W.heap = ((W1.setRow w.heap.size R1).setRow w.heap.size R2).heap → W.ownsRow B 46 4 (.slice (some ⟨w.heap.size, 0, none⟩) (n + 1) G) (n + 1) (xs.take (i * 4) ++ vs ++ xs.drop (i * 4)) ∧ w.grownBy W (some g) := fun W ho ht hp hW => by
    have hlast : W.heap[w.heap.size]? = some (.cells R2 46 (0, 0)) := by rw [hW]; exact setRow_heap _ _ _ _ _ _ (setRow_heap W1 _ _ _ _ _ hN1)
    refine ⟨⟨by simp only [List.length_append, hdl, hvl, List.length_take, hxl]; omega, .inr ⟨w.heap.size, G, R2, rfl, hB, hlast, hGn, hGm, by rw [← Array.length_toList, hf2, hRl], by rw [show (n + 1) * 4 = n * 4 + 4 by omega]; exact hf1⟩⟩, ho, ht, hp, ?_, fun k hk _ => ?_⟩
    · have := (Array.getElem?_eq_some_iff.1 hlast).1; omega
    · rw [hW, RowK.setRow_other _ _ _ k (by omega), RowK.setRow_other _ _ _ k (by omega)]; exact hk1 k hk
  subst hW1
  have HRES := Lib.hid hres
  have HCA := Lib.hid hcpA
  have HCB := Lib.hid hcpB
  have hz1 : ¬ ((1 : Int) = 0) := by omega
  have hz2 : ¬ ((i : Int) = (n : Int)) := by omega
  have hz3 : (cap : Int) < (n : Int) + 1 := by omega
  unfold maxLen at hcm hGm
  have hGi : ¬ (G = i) := by omega
  have hGim : ¬ (G = i + 1) := by omega
  have hci : ¬ (cap = i) := by omega
  have hw1 : IntKind.i64.wrap ((i : Int) + 1) = (i : Int) + 1 := by rw [IntKind.wrap_i64]; omega
  have hw2 : IntKind.i64.wrap ((n : Int) + 1) = (n : Int) + 1 := by rw [IntKind.wrap_i64]; omega
  have hw3 : IntKind.i64.wrap ((n : Int) + 1 - (i : Int)) = (n : Int) + 1 - (i : Int) := by rw [IntKind.wrap_i64]; omega
  have hb1 : (0 : Int) ≤ (i : Int) + 1 := by omega
  have hin : i ≤ n := by omega
  have htn : ((i : Int) + 1).toNat = i + 1 := by omega
  have hb3 : (i : Int) ≤ (n : Int) := by omega
  clear hres hcpA hcpB hf1 hf2 hf3 hRl hdl hR1 hR2 hN1 hk1 hROW hZl hZ hG hold hvc hxc hxl htk hcs hg hv hsz hi0
  have mixed : Tryd.prog.follows Departure.mixedOrders = true := by kernel_rfl
  go_enter Tryd.func41, Tryd.ntmps41
  go_wp2_with (first
    | (at_builtin; refine Lib.wpList_append_run _ rfl _ _ _ _ rfl _ _ rfl rfl _ _ (hrz _) ?_)
    | (refine wpList_copy_runI _ rfl _ _ 22 22 rfl _ _ rfl rfl (HCA.out _ (by rfl) _ _) ?_)
    | (refine wpList_copy_runI _ rfl _ _ 22 22 rfl _ _ rfl rfl (HCB.out _ (by rfl) _ _ _) ?_))
  go_region_law_o (refine step_copy_runI rfl _ _ 22 22 rfl (.slice (some ⟨w.heap.size, (i + 1) * 4, none⟩) (n + 1 - (i + 1)) (G - (i + 1))) (.slice (some ⟨g, i * 4, none⟩) (n - i) (cap - i)) (by simp [Act.eval, Act.put]) (by simp [Act.eval, Act.put]) (HCB.out _ (by rfl) 3 (G - (i + 1)) (cap - i)) ?_)
  go_wp2
  go_ret
  exact ⟨_, rfl, HRES.out _ rfl rfl rfl rfl⟩
set_option maxRecDepth 100000 in
set_option maxHeartbeats 4000000 in
theorem api_Part_shift (B g n cap i vb : Nat) (cur : Array Value) (tv : TypeId) (xs vs : List Value) (w : World) (hi : i < n) (hn : n ≤ 1000000) (hroom : n + 1 ≤ cap) (hcm : cap ≤ maxLen) (hB : B ≤ g)
    (hg : w.heap[g]? = some (.cells cur 46 (0, 0))) (hcs : cur.size = cap * 4) (htk : cur.toList.take (n * 4) = xs) (h1x : ∀ u ∈ xs, u.oneCell' = true) (h1v : ∀ u ∈ vs, u.oneCell' = true) (hvl : vs.length = 4)
    (hv : w.heap[vb]? = some (.cells vs.toArray tv (0, 0))) (hvb : vb ≠ g) :
    Calls Tryd.prog 41 #[.slice (some ⟨g, 0, none⟩) n cap, .int .i64 i, .slice (some ⟨vb, 0, none⟩) 1 1] w fun e w' => ∃ v', e = .returned v' ∧ w'.ownsRow B 46 4 v' (n + 1) (xs.take (i * 4) ++ vs ++ xs.drop (i * 4)) ∧ w.grownBy w' (some g) := by
  obtain ⟨i0, hi0, hz0, hz1, hz2⟩ := api_Part_info
  have hu : Tryd.prog.underlying 22 = some (.slice 46) := Tryd.underlying22
  have hsz : (Tryd.prog.info? 46).map (·.size) = some 4 := by rw [hi0]; simp [hz1]
  have hgl : g < w.heap.size := (Array.getElem?_eq_some_iff.1 hg).1
  have hvll : vb < w.heap.size := (Array.getElem?_eq_some_iff.1 hv).1
  have hxl : xs.length = n * 4 := by rw [← htk, List.length_take, Array.length_toList, hcs]; omega
  have hxc : ∀ j v, xs[j]? = some v → w.cell? ⟨g, j, none⟩ = some v := fun j v hj => by
    rw [cell_of_row w g j cur _ _ hg]
    rw [← htk, List.getElem?_take] at hj
    split at hj
    · simpa using hj
    · cases hj
  have hvc : ∀ j v, vs[j]? = some v → w.cell? ⟨vb, j, none⟩ = some v := fun j v hj => by
    rw [cell_of_row w vb j vs.toArray _ _ hv]; simpa using hj
  have hsz4 : ∀ w, (Go.sizeOf 46).run Tryd.prog w = .ok 4 w := fun w => by simp [Go.sizeOf, typeInfo, hi0, hz1]
  have hov : ∀ (W : World), W.heap = w.heap → ∀ lb cb, (callFunc 67 #[.slice (some ⟨vb, 0, none⟩) 1 1, .slice (some ⟨g, (i + 1) * 4, none⟩) lb cb]).run Tryd.prog W = .ok (.value (.bool false)) W := fun W hW lb cb => by
    have hWv : W.heap[vb]? = some (.cells vs.toArray tv (0, 0)) := by rw [hW]; exact hv
    have hWg : W.heap[g]? = some (.cells cur 46 (0, 0)) := by rw [hW]; exact hg
    rw [run_callFunc_extern Tryd.func67 (by kernel_rfl) (by kernel_rfl) (by kernel_rfl) (e := Extern.SlicesOverlaps.overlaps #[22, 22] #[4]) (by kernel_rfl),
      Lib.run_overlaps_apart W 22 4 46 hu 4 hsz4 ⟨vb, 0, none⟩ ⟨g, (i + 1) * 4, none⟩ 1 1 lb cb hvb tv 46 4 cur.size (by simp [World.shape?, hWv, hvl]) (by simp [World.shape?, hWg]) (by omega) (by simp [World.frozen?, hWv]) (by simp [World.frozen?, hWv])]
    rfl
  obtain ⟨R1, hR1⟩ : ∃ R1 : Array Value, R1 = (cur.toList.take ((i + 1) * 4) ++ xs.drop (i * 4) ++ cur.toList.drop ((i + 1) * 4 + (xs.drop (i * 4)).length)).toArray := ⟨_, rfl⟩
  obtain ⟨R2, hR2⟩ : ∃ R2 : Array Value, R2 = (R1.toList.take (i * 4) ++ vs ++ R1.toList.drop (i * 4 + vs.length)).toArray := ⟨_, rfl⟩
  obtain ⟨hf1, hf2, hf3⟩ := RowK.shift_list cur.toList xs vs (i * 4) (n * 4) 4 htk (by omega) (by rw [Array.length_toList, hcs]; omega) hvl (by omega) R1.toList (by rw [hR1, show (i + 1) * 4 = i * 4 + 4 by omega]) R2.toList (by rw [hR2])
  have hcl : cur.toList.length = cap * 4 := by rw [Array.length_toList, hcs]
  have hdl : (xs.drop (i * 4)).length = (n - i) * 4 := by rw [List.length_drop, hxl]; omega
  have hcpA : ∀ (W : World), W.heap = w.heap → ∀ ty dc sc, (Builtin.copy_ #[22, 22] ty #[.slice (some ⟨g, (i + 1) * 4, none⟩) (n + 1 - (i + 1)) dc, .slice (some ⟨g, i * 4, none⟩) (n + 1 - i) sc]).run Tryd.prog W = .ok (.int .i64 ((n - i : Nat) : Int)) (W.setRow g R1) := fun W hW ty dc sc => by
    rw [hR1]
    exact RowK.run_copy_rowK W _ _ ty 46 4 g ((i + 1) * 4) (n + 1 - (i + 1)) dc ⟨g, i * 4, none⟩ (n + 1 - i) sc (n - i) cur 46 (xs.drop (i * 4)) hu hsz (by rw [hW]; exact hg) (by simp only [Nat.min_def]; split <;> omega) hdl
      (fun j v hj => by rw [Addr.add_lit, World.cell?_of_block (w := w) (by rw [hW])]; exact hxc (i * 4 + j) v (by rwa [List.getElem?_drop] at hj))
      (by rw [hdl, hcs]; omega) (fun v hv => h1x v (List.mem_of_mem_drop hv))
  have hcpB : ∀ (W : World), W.heap = (w.setRow g R1).heap → ∀ ty dc, (Builtin.copy_ #[22, 22] ty #[.slice (some ⟨g, i * 4, none⟩) (n + 1 - i) dc, .slice (some ⟨vb, 0, none⟩) 1 1]).run Tryd.prog W = .ok (.int .i64 1) (W.setRow g R2) := fun W hW ty dc => by
    rw [hR2]
    exact RowK.run_copy_rowK W _ _ ty 46 4 g (i * 4) (n + 1 - i) dc ⟨vb, 0, none⟩ 1 1 1 R1 46 vs hu hsz (by rw [hW]; exact setRow_heap w _ _ _ _ _ hg) (by simp only [Nat.min_def]; split <;> omega) (by rw [hvl])
      (fun j v hj => by rw [Addr.add_lit, Nat.zero_add, World.cell?_of_block (w := w) (by rw [hW]; exact RowK.setRow_other w _ _ vb hvb)]; exact hvc j v hj)
      (by rw [hvl, ← Array.length_toList, hf3, hcl]; omega) h1v
  have hres : ∀ (W : World), W.os = w.os → W.tape = w.tape → W.output = w.output → W.heap = ((w.setRow g R1).setRow g R2).heap → W.ownsRow B 46 4 (.slice (some ⟨g, 0, none⟩) (n + 1) cap) (n + 1) (xs.take (i * 4) ++ vs ++ xs.drop (i * 4)) ∧ w.grownBy W (some g) := fun W ho ht hp hW => by
    have hlast : W.heap[g]? = some (.cells R2 46 (0, 0)) := by rw [hW]; exact setRow_heap _ _ _ _ _ _ (setRow_heap w _ _ _ _ _ hg)
    refine ⟨⟨by simp only [List.length_append, hdl, hvl, List.length_take, hxl]; omega, .inr ⟨g, cap, R2, rfl, hB, hlast, hroom, hcm, by rw [← Array.length_toList, hf2, hcl], by rw [show (n + 1) * 4 = n * 4 + 4 by omega]; exact hf1⟩⟩, ho, ht, hp, ?_, fun k hk hne => ?_⟩
    · rw [hW]; simp [World.setRow]
    · have hkg : k ≠ g := fun e => hne (by rw [e])
      rw [hW, RowK.setRow_other _ _ _ k hkg, RowK.setRow_other _ _ _ k hkg]
  have HRES := Lib.hid hres
  have HCA := Lib.hid hcpA
  have HCB := Lib.hid hcpB
  have HOV := Lib.hid hov
  have hz1 : ¬ ((1 : Int) = 0) := by omega
  have hz2 : ¬ ((i : Int) = (n : Int)) := by omega
  have hz3 : ¬ ((cap : Int) < (n : Int) + 1) := by omega
  unfold maxLen at hcm
  have hci : ¬ (cap = i) := by omega
  have hci1 : ¬ (cap = i + 1) := by omega
  have hw1 : IntKind.i64.wrap ((i : Int) + 1) = (i : Int) + 1 := by rw [IntKind.wrap_i64]; omega
  have hw2 : IntKind.i64.wrap ((n : Int) + 1) = (n : Int) + 1 := by rw [IntKind.wrap_i64]; omega
  have hb1 : (0 : Int) ≤ (i : Int) + 1 := by omega
  have hb2 : (0 : Int) ≤ (n : Int) + 1 := by omega
  have hin : i ≤ n := by omega
  have htn : ((i : Int) + 1).toNat = i + 1 := by omega
  have htn2 : ((n : Int) + 1).toNat = n + 1 := by omega
  have hb3 : (i : Int) ≤ (n : Int) := by omega
  have hb4 : (n : Int) + 1 ≤ (cap : Int) := by omega
  have hb5 : (i : Int) ≤ (n : Int) + 1 := by omega
  clear hres hcpA hcpB hov hf1 hf2 hf3 hcl hdl hR1 hR2 hvc hxc hxl htk hcs hg hv hsz hi0 hsz4
  have mixed : Tryd.prog.follows Departure.mixedOrders = true := by kernel_rfl
  go_enter Tryd.func41, Tryd.ntmps41
  go_wp2_with (first
    | (rw [HOV.out _ (by rfl)])
    | (refine wpList_copy_runI _ rfl _ _ 22 22 rfl _ _ rfl rfl (HCB.out _ (by rfl) _ _) ?_))
  go_region_law_o (refine step_copy_runI rfl _ _ 22 22 rfl (.slice (some ⟨g, (i + 1) * 4, none⟩) (n + 1 - (i + 1)) (cap - (i + 1))) (.slice (some ⟨g, i * 4, none⟩) (n + 1 - i) (cap - i)) (by simp [Act.eval, Act.put]) (by simp [Act.eval, Act.put]) (HCA.out _ (by rfl) 3 (cap - (i + 1)) (cap - i)) ?_)
  go_wp2_with (refine wpList_copy_runI _ rfl _ _ 22 22 rfl _ _ rfl rfl (HCB.out _ (by rfl) _ _) ?_)
  go_ret
  exact ⟨_, rfl, HRES.out _ rfl rfl rfl rfl⟩
theorem api_Part_own (B : Nat) (s : Value) (n i vb : Nat) (tv : TypeId) (xs vs : List Value) (w : World) (hs : w.ownsRow B 46 4 s n xs) (hi : i ≤ n) (hn : n ≤ 1000000) (hB : B ≤ w.heap.size)
    (h1x : ∀ u ∈ xs, u.oneCell' = true) (h1v : ∀ u ∈ vs, u.oneCell' = true) (hvl : vs.length = 4)
    (hv : w.heap[vb]? = some (.cells vs.toArray tv (0, 0))) (hvb : s.ownBlock ≠ some vb) :
    Calls Tryd.prog 41 #[s, .int .i64 i, .slice (some ⟨vb, 0, none⟩) 1 1] w fun e w' => ∃ v', e = .returned v' ∧ w'.ownsRow B 46 4 v' (n + 1) (xs.take (i * 4) ++ vs ++ xs.drop (i * 4)) ∧ w.grownBy w' s.ownBlock := by
  by_cases hin : i = n
  · subst hin
    have hx := hs.1
    rw [List.take_of_length_le (by omega), List.drop_of_length_le (by omega), List.append_nil]
    exact api_Part_end B s xs vs i vb w hs hn h1v hvl (fun j u hj => by rw [cell_of_row w vb j vs.toArray _ _ hv]; simpa using hj) hB
  · rcases hs.2 with ⟨rfl, rfl⟩ | ⟨g, cap, cur, rfl, hbg, hg, hnc, hcm, hcs, htk⟩
    · omega
    · have hne : vb ≠ g := fun e => hvb (by simp [Value.ownBlock, e])
      by_cases hroom : n + 1 ≤ cap
      · exact api_Part_shift B g n cap i vb cur tv xs vs w (by omega) hn hroom hcm hbg hg hcs htk h1x h1v hvl hv hne
      · exact api_Part_grow B g n cap i vb cur tv xs vs w (by omega) hn hnc (by omega) hcm hB hg hcs htk h1x h1v hvl hv hne

end Go.Proofs.YtoiockmmlanimaaDoor.Hw
end
section
-- Written for this claim by hyb.py, a driver of this session's over the kit's printer.
namespace Go.Proofs.YtoiockmmlanimaaDoor.Hw
open Go.RowKit Go.Proofs.YtoiockmmlanimaaDoorW.PrintWords Go.Proofs.YtoiockmmlanimaaDoorW.PrintLast Go.Proofs.YtoiockmmlanimaaDoorW.PrintMore
attribute [local go_sem] max2_int min2_int max_two min_two max_three min_three max_four min_four   -- for this text's walks alone
set_option linter.unusedVariables false
set_option linter.unusedSimpArgs false

/-! ### EXT parts_Put: function 16 -/
theorem parts_Put_uses : api_Part.f = api_Part.f := rfl
def parts_Put_put (l0 : List (S46)) (h : S46) (i : Int) (is : Bool) : Option (List (S46) × Int) :=
  if is = true then (if 0 ≤ i ∧ i < (l0.length : Int) then some (l0.set i.toNat h, 0) else none) else if 0 ≤ i ∧ i ≤ (l0.length : Int) ∧ l0.length ≤ 100000 then some (l0.take i.toNat ++ h :: l0.drop i.toNat, 0) else none
def parts_Put.f (k : Nat) (l0 : List (S46)) (a1_0 : Int) (a1_1 : Int) (a1_2 : ByteArray) (l1_3 : List (S63)) : Option (List (S46) × Int) :=
  (parts_right.f k l0).bind fun t => if t = true then ((parts_Check.f k a1_0 a1_1 a1_2 l1_3).bind fun e => if e = 0 then ((parts_own.f k l0).bind fun out => (parts_own.f k [⟨a1_0, a1_1, a1_2, l1_3⟩]).bind fun fr => if 0 < fr.length then (parts_find.f out a1_0).bind fun b => parts_Put_put out (rd_T46 fr 0) b.1 b.2 else none) else some ([], 1)) else some ([], 1)
theorem parts_Put.mono : ∀ a0 a1 a2 a3 a4 k, LeO (parts_Put.f k a0 a1 a2 a3 a4) (parts_Put.f (k + 1) a0 a1 a2 a3 a4) := by
  intro a0 a1 a2 a3 a4 k
  unfold parts_Put.f
  repeat' first
      | (with_reducible exact parts_right.mono _ _)
      | (with_reducible exact parts_Check.mono _ _ _ _ _)
      | (with_reducible exact parts_own.mono _ _)
      | (with_reducible exact LeO.refl _)
      | (with_reducible refine LeO.ite ?_ ?_)
      | (with_reducible refine LeO.bind ?_ (fun _ => ?_))
theorem parts_Put_flat (n : Nat) : ∀ (ps : List (List Value)) (cs : List Value), cs.length = ps.length * n → (∀ j p, ps[j]? = some p → (cs.drop (j * n)).take n = p) → cs = ps.flatten
  | [], cs, h, _ => by
    simp at h
    simp [h]
  | p :: ps, cs, h, hp => by
    have h0 := hp 0 p rfl
    rw [Nat.zero_mul, List.drop_zero] at h0
    have h1 := parts_Put_flat n ps (cs.drop n) (by rw [List.length_drop, h, List.length_cons, Nat.add_mul, Nat.one_mul]; omega) (fun j q hq => by
      have := hp (j + 1) q (by simpa using hq)
      rw [List.drop_drop, show n + j * n = (j + 1) * n by rw [Nat.add_mul, Nat.one_mul, Nat.add_comm]]
      exact this)
    rw [List.flatten_cons, ← h1, ← h0, List.take_append_drop]
theorem parts_Put_flat_get (n : Nat) : ∀ (ps : List (List Value)), (∀ c ∈ ps, c.length = n) → ∀ (j : Nat) (c : List Value), ps[j]? = some c → ∀ i u, c[i]? = some u → ps.flatten[j * n + i]? = some u
  | [], _, j, c, h, _, _, _ => by simp at h
  | p :: ps, hl, 0, c, h, i, u, hu => by
    simp at h
    subst h
    rw [List.flatten_cons, Nat.zero_mul, Nat.zero_add, List.getElem?_append_left (List.getElem?_eq_some_iff.1 hu).1]
    exact hu
  | p :: ps, hl, j + 1, c, h, i, u, hu => by
    have hpl : p.length = n := hl p (by simp)
    have h2 := parts_Put_flat_get n ps (fun c hc => hl c (by simp [hc])) j c (by simpa using h) i u hu
    rw [List.flatten_cons, List.getElem?_append_right (by rw [hpl, Nat.add_mul]; omega), hpl, show (j + 1) * n + i - n = j * n + i by rw [Nat.add_mul, Nat.one_mul]; omega]
    exact h2
/-- A row of the call's own whose elements are only read: its cells. -/
theorem parts_Put_open {α : Type} {d : Kd α} {e base : Nat} {ok : Nat → Prop} {w : World} {v : Value} {xs : List α} (h : Kd.N d e w base ok v xs) : ∃ rows : List (List Value), rows.length = xs.length ∧ (∀ c ∈ rows, c.length = d.sz ∧ ∀ u ∈ c, u.oneCell' = true) ∧ w.ownsRow base e d.sz v xs.length rows.flatten ∧ ∀ (j : Nat) (x : α) (c : List Value), xs[j]? = some x → rows[j]? = some c → Kd.FK d w (fun k => ok k ∧ some k ≠ v.ownBlock) x c := by
  obtain ⟨_, rows, hl, ⟨_, inner, ho, hr⟩, hf⟩ := h
  have hr2 : ∀ j p, rows[j]? = some p → (inner.drop (j * d.sz)).take d.sz = p ∧ p.length = d.sz ∧ ∀ u ∈ p, u.oneCell' = true := fun j p hp => by
    obtain ⟨h1, h2, h3⟩ := hr.2 j p hp
    have h1' : (inner.drop (j * d.sz)).take d.sz = p := h1
    exact ⟨h1', by rw [← h1']; exact h2, fun u hu => h3 u (by rw [h1]; exact hu)⟩
  have hin := parts_Put_flat d.sz rows inner hr.1 (fun j p hp => (hr2 j p hp).1)
  refine ⟨rows, hl, fun c hc => ?_, ?_, hf⟩
  · obtain ⟨j, hj⟩ := List.mem_iff_getElem?.1 hc
    exact (hr2 j c hj).2
  · rw [← hin, ← hl]
    exact ho
/-- .. and back, as a shared one. -/
theorem parts_Put_shut {α : Type} {d : Kd α} {e base base' : Nat} {ok : Nat → Prop} {w : World} {v : Value} {xs : List α} (rows : List (List Value)) (hl : rows.length = xs.length) (hs : ∀ c ∈ rows, c.length = d.sz) (ho : w.ownsRow base e d.sz v xs.length rows.flatten)
    (hok : ∀ k, v.ownBlock = some k → ok k) (hf : ∀ (j : Nat) (x : α) (c : List Value), xs[j]? = some x → rows[j]? = some c → Kd.FK d w ok x c) (hm : xs.length ≤ 9223372036854775807) : Kd.V d e w base' ok v xs := by
  rcases ho.2 with ⟨rfl, h0⟩ | ⟨g, cap, cur, rfl, hbg, hg, hnc, hcm, hcs, htk⟩
  · obtain rfl := List.eq_nil_of_length_eq_zero h0
    exact Kd.V_nil d e w base' ok
  · refine Kd.V_mk hnc (fun W' hW => ⟨rfl, hm, fun hpos => ⟨⟨g, 0, none⟩, rfl, fun j p hp => ?_⟩⟩)
    have hj : j < rows.length := by rw [hl]; exact (List.getElem?_eq_some_iff.1 hp).1
    have hc : rows[j]? = some rows[j] := List.getElem?_eq_getElem hj
    refine ⟨rows[j], hs _ (List.getElem_mem hj), hf j p _ hp hc W' hW, fun i u hu => ?_⟩
    have h1 := parts_Put_flat_get d.sz rows hs j _ hc i u hu
    have h2 := ho.cells (g := g) rfl (j * d.sz + i) u h1
    have hgl : g < w.heap.size := (Array.getElem?_eq_some_iff.1 hg).1
    rw [Addr.add_lit] at h2 ⊢
    exact (World.cell?_of_block (hW g (hok g rfl) hgl)).trans h2
theorem parts_Put_flat_take (n : Nat) : ∀ (ps : List (List Value)), (∀ c ∈ ps, c.length = n) → ∀ i, i ≤ ps.length → (ps.take i).flatten = ps.flatten.take (i * n) ∧ (ps.drop i).flatten = ps.flatten.drop (i * n)
  | ps, _, 0, _ => by simp
  | [], _, i + 1, h => by simp at h
  | p :: ps, hl, i + 1, h => by
    have hpl : p.length = n := hl p (by simp)
    obtain ⟨h1, h2⟩ := parts_Put_flat_take n ps (fun c hc => hl c (by simp [hc])) i (by simpa using h)
    refine ⟨?_, ?_⟩
    · rw [List.take_succ_cons, List.flatten_cons, List.flatten_cons, h1, show (i + 1) * n = p.length + i * n by rw [hpl, Nat.add_mul]; omega, List.take_length_add_append]
    · rw [List.drop_succ_cons, List.flatten_cons, h2, show (i + 1) * n = p.length + i * n by rw [hpl, Nat.add_mul]; omega, List.drop_length_add_append]
theorem parts_Put_pw_append {α β : Type} {R : α → β → Prop} {A B : List α} {A' B' : List β} (hl : A.length = A'.length) (h1 : ∀ (j : Nat) x c, A[j]? = some x → A'[j]? = some c → R x c) (h2 : ∀ (j : Nat) x c, B[j]? = some x → B'[j]? = some c → R x c) : ∀ (j : Nat) x c, (A ++ B)[j]? = some x → (A' ++ B')[j]? = some c → R x c := by
  intro j x c hx hc
  rcases Nat.lt_or_ge j A.length with h | h
  · rw [List.getElem?_append_left h] at hx
    rw [List.getElem?_append_left (by omega)] at hc
    exact h1 j x c hx hc
  · rw [List.getElem?_append_right h] at hx
    rw [List.getElem?_append_right (by omega), ← hl] at hc
    exact h2 _ x c hx hc
/-- An element put in the place of some (j - i) others. -/
theorem parts_Put_mid {α : Type} {R : α → List Value → Prop} {xs : List α} {rows : List (List Value)} (hl : rows.length = xs.length) (hp : ∀ (j : Nat) x c, xs[j]? = some x → rows[j]? = some c → R x c) {h : α} {cs : List Value} (hh : R h cs) (i j : Nat) : ∀ (q : Nat) x c, (xs.take i ++ ([h] ++ xs.drop j))[q]? = some x → (rows.take i ++ ([cs] ++ rows.drop j))[q]? = some c → R x c := by
  refine parts_Put_pw_append (by rw [List.length_take, List.length_take, hl]) (fun q x c hx hc => ?_) (parts_Put_pw_append rfl (fun q x c hx hc => ?_) (fun q x c hx hc => ?_))
  · rw [List.getElem?_take] at hx hc
    split at hx
    · rename_i hq
      rw [if_pos hq] at hc
      exact hp q x c hx hc
    · cases hx
  · match q, hx, hc with
    | 0, hx, hc => simp at hx hc; subst hx; subst hc; exact hh
    | q + 1, hx, hc => simp at hx
  · rw [List.getElem?_drop] at hx hc
    exact hp _ x c hx hc
theorem parts_Put_mid_flat (n : Nat) {rows : List (List Value)} (hs : ∀ c ∈ rows, c.length = n) (cs : List Value) (i j : Nat) (hi : i ≤ rows.length) (hj : j ≤ rows.length) : (rows.take i ++ ([cs] ++ rows.drop j)).flatten = rows.flatten.take (i * n) ++ cs ++ rows.flatten.drop (j * n) := by
  rw [List.flatten_append, List.flatten_append, (parts_Put_flat_take n rows hs i hi).1, (parts_Put_flat_take n rows hs j hj).2]
  simp
theorem parts_Put_one_C {W : World} (x : S46) {A3 : Option Addr} {c3 : Nat} (l3 : x.f3.length ≤ c3) (g3 : k63.C W A3 x.f3.length x.f3) : Kd.C k46 (W.alloc (.cells #[.int .i64 x.f0, .int .i64 x.f1, .string x.f2, .slice A3 x.f3.length c3] 46)) (some ⟨W.heap.size, 0, none⟩) 1 [x] := by
  refine ⟨rfl, by decide, fun _ => ⟨⟨W.heap.size, 0, none⟩, rfl, fun j p hp => ?_⟩⟩
  obtain ⟨rfl, rfl⟩ : j = 0 ∧ p = x := by
    match j, hp with
    | 0, hp => simp at hp; exact ⟨rfl, hp.symm⟩
    | j + 1, hp => simp at hp
  refine ⟨_, rfl, k46_mk _ p l3 (Kd.C_alloc g3 _), fun i u hu => ?_⟩
  rw [Nat.zero_mul, Nat.zero_add, Addr.add_lit, Nat.zero_add, cell_of_row _ _ _ _ _ _ (heap_alloc_new W _)]
  simpa using hu
theorem parts_Put_info4 : (Tryd.prog.info? 46).map (·.size) = some 4 := by kernel_rfl
theorem parts_Put_store {w : World} {a : Act} {op : Oper} {ty : TypeId} {p v : Operand} (ho : op.op = .store ty p v) (g o : Nat) (hp : a.eval p = .pointer (some ⟨g, o, none⟩)) (cs : Array Value) (hv : a.eval v = .agg cs) (t : TypeId) (cur : Array Value) (hg : w.heap[g]? = some (.cells cur t (0, 0))) (hfit : o + cs.size ≤ cur.size) (h1 : ∀ v ∈ cs.toList, v.oneCell' = true) (hi : (Tryd.prog.info? ty).map (·.size) = some cs.size) :
    (execOp a.eval op).run Tryd.prog w = .ok .skip (w.setRow g (cur.toList.take o ++ cs.toList ++ cur.toList.drop (o + cs.size)).toArray) := by
  have h : (storeVar ty ⟨g, o, none⟩ (.agg cs)).run Tryd.prog w = .ok () (w.setRow g (cur.toList.take o ++ cs.toList ++ cur.toList.drop (o + cs.size)).toArray) := by
    cases hq : Tryd.prog.info? ty with
    | none => simp [hq] at hi
    | some i =>
      have hz : i.size = cs.size := by simpa [hq] using hi
      have hst := run_storeCells_at (P := Tryd.prog) g o t cs.toList 0 cur w hg (by simpa using hfit) h1
      rw [Nat.add_zero, Array.length_toList] at hst
      have hc : (Value.agg cs).cells = cs := rfl
      simp [storeVar, hc, sizeOf, typeInfo, hq, hz, hst, Sem.run_bind]
  unfold execOp
  simp only [ho, hp, hv, Instr.storeAt, Instr.sureAddr, Sem.run_bind, Sem.run_pure, Result.andThen_ok, h]
theorem parts_Put_stop {p : Prop} (h : Aside0 p) : p := h.out
set_option maxRecDepth 100000 in
set_option maxHeartbeats 8000000 in
theorem parts_Put_n1 (k : Nat) (A0 : Option Addr) (c0 : Nat) (l0 : List (S46)) (a1_0 : Int) (a1_1 : Int) (a1_2 : ByteArray) (A1_3 : Option Addr) (c1_3 n1_3 : Nat) (w : World) (hr0 : Kd.C k46 w A0 l0.length l0) (hc0 : l0.length ≤ c0) (hri : parts_right.f k l0 = some false) :
    Calls Tryd.prog 16 #[.slice A0 l0.length c0, .agg #[.int .i64 a1_0, .int .i64 a1_1, .string a1_2, .slice A1_3 n1_3 c1_3]] w fun e w' => e = .returned (.tuple #[.slice none 0 0, .int .i64 1]) ∧ Below w.heap.size w w' := by
  have HR0 := Aside0.mk hr0
  have HC0 := Aside0.mk hc0
  have HRI := Aside0.mk hri
  clear hr0 hc0 hri
  go_enter Tryd.func16, Tryd.ntmps16
  go_wp2_with (go_at_call 29; refine parts_Put_stop ?_)
  refine Aside0.mk ?_
  refine (parts_right.calls k A0 c0 l0 false _ (Kd.C_alloc HR0.out _) HC0.out HRI.out).mono ?_
  rintro e w2 ⟨rfl, hb⟩
  have HB := Aside0.mk (below_step (below_alloc (Below.refl w.heap.size w) _) hb)
  clear hb
  go_wp2
  go_ret2
  exact ⟨rfl, HB.out⟩
set_option maxRecDepth 100000 in
set_option maxHeartbeats 8000000 in
theorem parts_Put_n2 (k : Nat) (A0 : Option Addr) (c0 : Nat) (l0 : List (S46)) (a1_0 : Int) (a1_1 : Int) (a1_2 : ByteArray) (A1_3 : Option Addr) (c1_3 : Nat) (l1_3 : List (S63)) (w : World) (hr0 : Kd.C k46 w A0 l0.length l0) (hc0 : l0.length ≤ c0) (hr1 : Kd.C k63 w A1_3 l1_3.length l1_3) (hc1 : l1_3.length ≤ c1_3) (hri : parts_right.f k l0 = some true) (ec : Int) (hec : ec ≠ 0) (hch : parts_Check.f k a1_0 a1_1 a1_2 l1_3 = some ec) :
    Calls Tryd.prog 16 #[.slice A0 l0.length c0, .agg #[.int .i64 a1_0, .int .i64 a1_1, .string a1_2, .slice A1_3 l1_3.length c1_3]] w fun e w' => e = .returned (.tuple #[.slice none 0 0, .int .i64 1]) ∧ Below w.heap.size w w' := by
  have HR0 := Aside0.mk hr0
  have HC0 := Aside0.mk hc0
  have HR1 := Aside0.mk hr1
  have HC1 := Aside0.mk hc1
  have HRI := Aside0.mk hri
  have HCH := Aside0.mk hch
  have hec' : (ec == 0) = false := by simpa using hec
  clear hr0 hc0 hri hr1 hc1 hch
  go_enter Tryd.func16, Tryd.ntmps16
  go_wp2_with (go_at_call 29; refine parts_Put_stop ?_)
  refine Aside0.mk ?_
  refine (parts_right.calls k A0 c0 l0 true _ (Kd.C_alloc HR0.out _) HC0.out HRI.out).mono ?_
  rintro e w2 ⟨rfl, hb⟩
  have HB := Aside0.mk (below_step (below_alloc (Below.refl w.heap.size w) _) hb)
  have hbx : w2.heap[w.heap.size]? = some (.cells #[.int .i64 a1_0, .int .i64 a1_1, .string a1_2, .slice A1_3 l1_3.length c1_3] 46 (0, 0)) := (hb.block _ (by simp)).trans (heap_alloc_new w _)
  have x0 : w2.cell? ⟨w.heap.size, 0, none⟩ = some (.int .i64 a1_0) := cell_of_row _ _ _ _ _ _ hbx
  have x1 : w2.cell? ⟨w.heap.size, 1, none⟩ = some (.int .i64 a1_1) := cell_of_row _ _ _ _ _ _ hbx
  have x2 : w2.cell? ⟨w.heap.size, 2, none⟩ = some (.string a1_2) := cell_of_row _ _ _ _ _ _ hbx
  have x3 : w2.cell? ⟨w.heap.size, 3, none⟩ = some (.slice A1_3 l1_3.length c1_3) := cell_of_row _ _ _ _ _ _ hbx
  clear hb hbx
  go_wp2_with (go_at_call 19; refine parts_Put_stop ?_)
  refine Aside0.mk ?_
  refine (parts_Check.calls k a1_0 a1_1 a1_2 A1_3 c1_3 l1_3 ec _ (Kd.C_below HR1.out HB.out) HC1.out HCH.out).mono ?_
  rintro e w3 ⟨rfl, hb3⟩
  have HB3 := Aside0.mk (below_step HB.out hb3)
  clear hb3 x0 x1 x2 x3
  go_wp2
  go_ret2
  exact ⟨rfl, HB3.out⟩
set_option maxRecDepth 100000 in
set_option maxHeartbeats 8000000 in
theorem parts_Put_ok (k : Nat) (A0 : Option Addr) (c0 : Nat) (l0 : List (S46)) (a1_0 : Int) (a1_1 : Int) (a1_2 : ByteArray) (A1_3 : Option Addr) (c1_3 : Nat) (l1_3 : List (S63)) (w : World) (hr0 : Kd.C k46 w A0 l0.length l0) (hc0 : l0.length ≤ c0) (hr1 : Kd.C k63 w A1_3 l1_3.length l1_3) (hc1 : l1_3.length ≤ c1_3) (hri : parts_right.f k l0 = some true) (hch : parts_Check.f k a1_0 a1_1 a1_2 l1_3 = some 0)
    (out fr : List (S46)) (hout : parts_own.f k l0 = some out) (hfr : parts_own.f k [⟨a1_0, a1_1, a1_2, l1_3⟩] = some fr) (hfl : 0 < fr.length) (b1 : Int) (b2 : Bool) (hfi : parts_find.f out a1_0 = some (b1, b2)) (r1 : List (S46)) (r2 : Int) (hput : parts_Put_put out (rd_T46 fr 0) b1 b2 = some (r1, r2)) :
    Calls Tryd.prog 16 #[.slice A0 l0.length c0, .agg #[.int .i64 a1_0, .int .i64 a1_1, .string a1_2, .slice A1_3 l1_3.length c1_3]] w fun e w' => ∃ v0_ : Value, e = .returned (.tuple #[v0_, .int .i64 r2]) ∧ Kd.V k46 46 w' w.heap.size (fun k_ => (w.heap.size ≤ k_)) v0_ r1 ∧ Below w.heap.size w w' := by
  have HR0 := Aside0.mk hr0
  have HC0 := Aside0.mk hc0
  have HR1 := Aside0.mk hr1
  have HC1 := Aside0.mk hc1
  have HRI := Aside0.mk hri
  have HCH := Aside0.mk hch
  have HOUT := Aside0.mk hout
  have HFR := Aside0.mk hfr
  have HFI := Aside0.mk hfi
  have HPUT := Aside0.mk hput
  have HFL := Aside0.mk hfl
  clear hr0 hc0 hri hr1 hc1 hch hout hfr hfi hput hfl
  go_enter Tryd.func16, Tryd.ntmps16
  go_wp2_with (go_at_call 29; refine parts_Put_stop ?_)
  refine Aside0.mk ?_
  refine (parts_right.calls k A0 c0 l0 true _ (Kd.C_alloc HR0.out _) HC0.out HRI.out).mono ?_
  rintro e w2 ⟨rfl, hb⟩
  have HB := Aside0.mk (below_step (below_alloc (Below.refl w.heap.size w) _) hb)
  have hbx : w2.heap[w.heap.size]? = some (.cells #[.int .i64 a1_0, .int .i64 a1_1, .string a1_2, .slice A1_3 l1_3.length c1_3] 46 (0, 0)) := (hb.block _ (by simp)).trans (heap_alloc_new w _)
  have HBX := Aside0.mk hbx
  have x0 : w2.cell? ⟨w.heap.size, 0, none⟩ = some (.int .i64 a1_0) := cell_of_row _ _ _ _ _ _ hbx
  have x1 : w2.cell? ⟨w.heap.size, 1, none⟩ = some (.int .i64 a1_1) := cell_of_row _ _ _ _ _ _ hbx
  have x2 : w2.cell? ⟨w.heap.size, 2, none⟩ = some (.string a1_2) := cell_of_row _ _ _ _ _ _ hbx
  have x3 : w2.cell? ⟨w.heap.size, 3, none⟩ = some (.slice A1_3 l1_3.length c1_3) := cell_of_row _ _ _ _ _ _ hbx
  clear hb hbx
  go_wp2_with (go_at_call 19; refine parts_Put_stop ?_)
  refine Aside0.mk ?_
  refine (parts_Check.calls k a1_0 a1_1 a1_2 A1_3 c1_3 l1_3 0 _ (Kd.C_below HR1.out HB.out) HC1.out HCH.out).mono ?_
  rintro e w3 ⟨rfl, hb3⟩
  have HB3 := Aside0.mk (below_step HB.out hb3)
  have HBX3 := Aside0.mk ((hb3.block _ (Array.getElem?_eq_some_iff.1 HBX.out).1).trans HBX.out)
  clear hb3 x0 x1 x2 x3
  go_wp2_with (go_at_call 40; refine parts_Put_stop ?_)
  refine Aside0.mk ?_
  refine (parts_own.calls k A0 c0 l0 out _ (Kd.C_below HR0.out HB3.out) HC0.out HOUT.out).mono ?_
  rintro e w4 ⟨v4, rfl, hs4, hb4⟩
  have HB4 := Aside0.mk (below_step HB3.out hb4)
  have HBX4 := Aside0.mk ((hb4.block _ (Array.getElem?_eq_some_iff.1 HBX3.out).1).trans HBX3.out)
  have HN4 := Aside0.mk (Kd.N_lower (Kd.N_mono (ok' := fun k => w.heap.size ≤ k) (Kd.S_N (Kd.S_bound hs4)) (fun k hk => Nat.le_trans HB3.out.size hk.2.1)) HB3.out.size)
  clear hb4 hs4
  have y0 : w4.cell? ⟨w.heap.size, 0, none⟩ = some (.int .i64 a1_0) := cell_of_row _ _ _ _ _ _ HBX4.out
  have y1 : w4.cell? ⟨w.heap.size, 1, none⟩ = some (.int .i64 a1_1) := cell_of_row _ _ _ _ _ _ HBX4.out
  have y2 : w4.cell? ⟨w.heap.size, 2, none⟩ = some (.string a1_2) := cell_of_row _ _ _ _ _ _ HBX4.out
  have y3 : w4.cell? ⟨w.heap.size, 3, none⟩ = some (.slice A1_3 l1_3.length c1_3) := cell_of_row _ _ _ _ _ _ HBX4.out
  go_wp2_with (go_at_call 40; refine parts_Put_stop ?_)
  refine Aside0.mk ?_
  refine (parts_own.calls k (some ⟨w4.heap.size, 0, none⟩) 1 [⟨a1_0, a1_1, a1_2, l1_3⟩] fr _ (parts_Put_one_C ⟨a1_0, a1_1, a1_2, l1_3⟩ HC1.out (Kd.C_below HR1.out HB4.out)) (by simp) HFR.out).mono ?_
  rintro e w5 ⟨v5, rfl, hs5, hb5⟩
  have hb5' := Below.trans ((Below.refl w4.heap.size w4).alloc (Nat.le_refl _) (.cells #[.int .i64 a1_0, .int .i64 a1_1, .string a1_2, .slice A1_3 l1_3.length c1_3] 46)) (hb5.mono (by simp))
  have HB5 := Aside0.mk (below_step HB4.out hb5')
  have HBX5 := Aside0.mk ((hb5'.block _ (Array.getElem?_eq_some_iff.1 HBX4.out).1).trans HBX4.out)
  have HN5 := Aside0.mk (Kd.N_below HN4.out hb5')
  have hlt4 : ∀ kk, v4.ownBlock = some kk → kk < w4.heap.size := Kd.N_lt HN4.out
  have hV5 := Kd.V_mono (Kd.S_V (base' := w.heap.size) (Kd.S_bound hs5)) (ok' := fun k => w.heap.size ≤ k ∧ some k ≠ v4.ownBlock) (fun k hk => ⟨Nat.le_trans HB4.out.size (by have := hk.2.1; simp at this; omega), fun e => by have := hlt4 k e.symm; have := hk.2.1; simp at this; omega⟩)
  obtain ⟨g5, cap5, hv5, hbg5, hlt5, _⟩ := Kd.S_form hs5 HFL.out
  subst hv5
  obtain ⟨ce, hcel, hF5, hcc5⟩ := Kd.V_get hV5 z46 0 (by decide) (by have := HFL.out; omega)
  obtain ⟨fA, fc, rfl, fl, fF⟩ := k46_openF hF5
  obtain ⟨h, hh⟩ : ∃ h, rd_T46 fr 0 = h := ⟨_, rfl⟩
  have hh' : fr.getD (0 : Int).toNat z46 = h := hh
  rw [hh'] at fl fF hcc5
  have HF5 := Aside0.mk fF
  have HFl := Aside0.mk fl
  have HPUT2 := HPUT.out
  rw [hh] at HPUT2
  have z0 : w5.cell? ⟨g5, 0, none⟩ = some (.int .i64 h.f0) := hcc5 0 _ rfl
  have z1 : w5.cell? ⟨g5, 1, none⟩ = some (.int .i64 h.f1) := hcc5 1 _ rfl
  have z2 : w5.cell? ⟨g5, 2, none⟩ = some (.string h.f2) := hcc5 2 _ rfl
  have z3 : w5.cell? ⟨g5, 3, none⟩ = some (.slice fA h.f3.length fc) := hcc5 3 _ rfl
  have hp5 : 0 < fr.length := HFL.out
  have HQ := Aside0.mk (heap_alloc_new w5 (.cells #[.int .i64 0, .int .i64 0, .string ⟨#[]⟩, .slice none 0 0] 46))
  have HPUT3 := Aside0.mk HPUT2
  clear hb5 hb5' hs5 hV5 hF5 hcc5 hh hh' y0 y1 y2 y3 fl fF HPUT2 HPUT hcel
  go_wp2_with ((with_reducible refine gate_store (t := 46) (p := 7) rfl ?_); refine parts_Put_stop ?_)
  refine Aside0.mk ?_
  refine store_event (t := 46) (p := 7) (v := ?vo1) (w1 := (w5.alloc (.cells #[.int .i64 0, .int .i64 0, .string ⟨#[]⟩, .slice none 0 0] 46)).setRow w5.heap.size #[.int .i64 h.f0, .int .i64 h.f1, .string h.f2, .slice fA h.f3.length fc]) ?hg1 ?ho1 ?hn1 ?hr1 ?_
  case ho1 => rfl
  case hg1 => rfl
  case hn1 => rfl
  case hr1 => exact Sha.store_row_run rfl w5.heap.size rfl #[.int .i64 h.f0, .int .i64 h.f1, .string h.f2, .slice fA h.f3.length fc] rfl 46 _ HQ.out rfl (by simp [Value.oneCell']) parts_Put_info4
  intro w6 hw6
  have hb6 : Below w5.heap.size w5 w6 := by rw [hw6]; exact Sha.setRow_below _ _ _ _ _ ((Below.refl _ _).alloc (Nat.le_refl _) _) (Nat.le_refl _)
  have hf6 : w6.heap[w5.heap.size]? = some (.cells #[.int .i64 h.f0, .int .i64 h.f1, .string h.f2, .slice fA h.f3.length fc] 46 (0, 0)) := by rw [hw6]; exact setRow_heap _ _ _ _ _ _ HQ.out
  have HB6 := Aside0.mk (below_step HB5.out hb6)
  have HBX6 := Aside0.mk ((hb6.block _ (Array.getElem?_eq_some_iff.1 HBX5.out).1).trans HBX5.out)
  have HN6 := Aside0.mk (Kd.N_below HN5.out hb6)
  have HF6 := Aside0.mk (Kd.F_below HF5.out hb6)
  have HFB6 := Aside0.mk hf6
  have hlt5 : ∀ kk, v4.ownBlock = some kk → kk < w5.heap.size := Kd.N_lt HN5.out
  have HLT5 := Aside0.mk hlt5
  have x0 : w6.cell? ⟨w.heap.size, 0, none⟩ = some (.int .i64 a1_0) := cell_of_row _ _ _ _ _ _ HBX6.out
  obtain ⟨A4, c4, hv4⟩ := Kd.V_slice (Kd.N_V (base' := 0) HN6.out)
  subst hv4
  have HC6 := Aside0.mk (Kd.V_reads' (Kd.N_V (base' := 0) HN6.out))
  clear hw6 hb6 hf6 z0 z1 z2 z3 hlt4 hlt5
  go_wp2_with (go_at_call 30; refine parts_Put_stop ?_)
  refine Aside0.mk ?_
  refine (parts_find.calls A4 c4 out a1_0 b1 b2 _ HC6.out.2.2 HC6.out.2.1 HFI.out).mono ?_
  rintro e w7 ⟨rfl, hb7⟩
  have HB7 := Aside0.mk (below_step HB6.out hb7)
  have HN7 := Aside0.mk (Kd.N_below HN6.out hb7)
  have HF7 := Aside0.mk (Kd.F_below HF6.out hb7)
  have hf7 := (hb7.block _ (Array.getElem?_eq_some_iff.1 HFB6.out).1).trans HFB6.out
  have f0 : w7.cell? ⟨w5.heap.size, 0, none⟩ = some (.int .i64 h.f0) := cell_of_row _ _ _ _ _ _ hf7
  have f1 : w7.cell? ⟨w5.heap.size, 1, none⟩ = some (.int .i64 h.f1) := cell_of_row _ _ _ _ _ _ hf7
  have f2 : w7.cell? ⟨w5.heap.size, 2, none⟩ = some (.string h.f2) := cell_of_row _ _ _ _ _ _ hf7
  have f3 : w7.cell? ⟨w5.heap.size, 3, none⟩ = some (.slice fA h.f3.length fc) := cell_of_row _ _ _ _ _ _ hf7
  have hw7 : w.heap.size ≤ w7.heap.size := HB7.out.size
  clear hb7 hf7 x0
  obtain ⟨rows, hrl, hrs, hro, hrf⟩ := parts_Put_open HN7.out
  have HROW := Aside0.mk (And.intro hrl (And.intro hrs (And.intro hro hrf)))
  have hone : ∀ u ∈ rows.flatten, u.oneCell' = true := fun u hu => by
    obtain ⟨c, hc, hu⟩ := List.mem_flatten.1 hu
    exact (hrs c hc).2 u hu
  have HONE := Aside0.mk hone
  have hfk : Kd.FK k46 w7 (fun k => w.heap.size ≤ k ∧ some k ≠ (Value.slice A4 out.length c4).ownBlock) h [.int .i64 h.f0, .int .i64 h.f1, .string h.f2, .slice fA h.f3.length fc] := k46_mkF _ _ h HFl.out HF7.out
  have HFK := Aside0.mk hfk
  clear hrl hrs hro hrf hone hfk
  cases b2 with
  | true =>
    have hp := HPUT3.out
    unfold parts_Put_put at hp
    rw [if_pos rfl] at hp
    split at hp
    · rename_i hc
      obtain ⟨hc0, hc1⟩ := hc
      simp only [Option.some.injEq, Prod.mk.injEq] at hp
      obtain ⟨i, rfl⟩ := Int.eq_ofNat_of_zero_le hc0
      rw [Int.toNat_natCast] at hp
      obtain ⟨hr1, hr2⟩ := hp
      subst hr2
      have hin : i < out.length := by omega
      have HR := Aside0.mk hr1
      clear hr1 hc0
      obtain ⟨hrl, hrs, hro, hrf⟩ := HROW.out
      rcases hro.2 with ⟨_, h0⟩ | ⟨g4, cap, cur, hv, hbg4, hg4, hnc, hcm, hcs, htk⟩
      · omega
      · injection hv with hA _ hC
        subst hA
        subst hC
        have hcs' : cur.size = c4 * 4 := hcs
        have htk' : cur.toList.take (out.length * 4) = rows.flatten := htk
        have HX := Aside0.mk (And.intro hbg4 (And.intro hg4 (And.intro hnc (And.intro hcm (And.intro hcs' htk')))))
        have hp0 : (0 : Int) ≤ i := by omega
        clear hrl hrs hro hrf hbg4 hg4 hnc hcm hcs htk hcs' htk'
        go_wp2_with ((with_reducible refine gate_store (t := 46) (p := 36) rfl ?_); refine parts_Put_stop ?_)
        refine Aside0.mk ?_
        refine store_event (t := 46) (p := 36) (v := ?vo2) (w1 := w7.setRow g4 (cur.toList.take (i * 4) ++ (#[.int .i64 h.f0, .int .i64 h.f1, .string h.f2, .slice fA h.f3.length fc] : Array Value).toList ++ cur.toList.drop (i * 4 + 4)).toArray) ?hg2 ?ho2 ?hn2 ?hr2 ?_
        case ho2 => rfl
        case hg2 => rfl
        case hn2 => rfl
        case hr2 => exact parts_Put_store rfl g4 (i * 4) (by simp [Act.eval, Act.put, Addr.add]) #[.int .i64 h.f0, .int .i64 h.f1, .string h.f2, .slice fA h.f3.length fc] rfl 46 cur HX.out.2.1 (by have := HX.out; show i * 4 + 4 ≤ cur.size; omega) (by simp [Value.oneCell']) parts_Put_info4
        intro w8 hw8
        obtain ⟨hrl, hrs, hro, hrf⟩ := HROW.out
        obtain ⟨q1, q2, q3, q4, q5, q6⟩ := HX.out
        have hfl : rows.flatten.length = out.length * 4 := hro.1
        have hb8 : Below w.heap.size w w8 := by rw [hw8]; exact Sha.setRow_below _ _ _ _ _ HB7.out q1
        have hlen : r1.length = out.length := by rw [← HR.out, List.length_set]
        have er : r1 = out.take i ++ ([h] ++ out.drop (i + 1)) := by
          rw [← HR.out, List.set_eq_take_append_cons_drop, if_pos hin]
          simp
        have hcur : ∀ j, j ≤ out.length * 4 → cur.toList.take j = rows.flatten.take j := fun j hj => by rw [← q6, List.take_take, Nat.min_eq_left hj]
        have ho8 : w8.ownsRow w.heap.size 46 4 (.slice (some ⟨g4, 0, none⟩) out.length c4) out.length (rows.flatten.take (i * 4) ++ ([.int .i64 h.f0, .int .i64 h.f1, .string h.f2, .slice fA h.f3.length fc] : List Value) ++ rows.flatten.drop ((i + 1) * 4)) := by
          refine ⟨?_, .inr ⟨g4, c4, _, rfl, q1, by rw [hw8]; exact setRow_heap _ _ _ _ _ _ q2, q3, q4, ?_, ?_⟩⟩
          · have e4 : ∀ l : List Value, (rows.flatten.take (i * 4) ++ l ++ rows.flatten.drop ((i + 1) * 4)).length = min (i * 4) (out.length * 4) + l.length + (out.length * 4 - (i + 1) * 4) := fun l => by rw [List.length_append, List.length_append, List.length_take, List.length_drop, hfl]
            rw [e4]
            show min (i * 4) (out.length * 4) + 4 + (out.length * 4 - (i + 1) * 4) = out.length * 4
            omega
          · have e4 : ∀ l : List Value, ((cur.toList.take (i * 4) ++ l ++ cur.toList.drop (i * 4 + 4)).toArray).size = min (i * 4) cur.size + l.length + (cur.size - (i * 4 + 4)) := fun l => by rw [List.size_toArray, List.length_append, List.length_append, List.length_take, List.length_drop, Array.length_toList]
            rw [e4]
            show min (i * 4) cur.size + 4 + (cur.size - (i * 4 + 4)) = c4 * 4
            omega
          · have e1 : cur.toList.take (i * 4) = rows.flatten.take (i * 4) := hcur _ (by omega)
            have e2 : (cur.toList.drop (i * 4 + 4)).take (out.length * 4 - (i * 4 + 4)) = rows.flatten.drop ((i + 1) * 4) := by
              rw [← q6, List.drop_take, show (i + 1) * 4 = i * 4 + 4 by omega]
            have e3 : (cur.toList.take (i * 4) ++ ([.int .i64 h.f0, .int .i64 h.f1, .string h.f2, .slice fA h.f3.length fc] : List Value)).length = i * 4 + 4 := by rw [List.length_append, List.length_take, Array.length_toList]; show min (i * 4) cur.size + 4 = i * 4 + 4; omega
            show (cur.toList.take (i * 4) ++ ([.int .i64 h.f0, .int .i64 h.f1, .string h.f2, .slice fA h.f3.length fc] : List Value) ++ cur.toList.drop (i * 4 + 4)).take (out.length * 4) = _
            rw [List.take_append, e3, List.take_of_length_le (by rw [e3]; omega), e1, e2]
        have hst : ∀ {x : S46} {c : List Value}, Kd.FK k46 w7 (fun k => w.heap.size ≤ k ∧ some k ≠ (Value.slice (some ⟨g4, 0, none⟩) out.length c4).ownBlock) x c → Kd.FK k46 w8 (fun k => w.heap.size ≤ k) x c := fun hq => by
          have hg8 : w7.grownBy w8 (some g4) := by rw [hw8]; exact ⟨rfl, rfl, rfl, by simp [World.setRow], fun k _ hk => setRow_other w7 g4 k _ (fun e => hk (by rw [e]))⟩
          exact Kd.FK_mono (Kd.FK_grown hq hg8 (fun k hk => hk.2)) (fun k hk => hk.1)
        have v1 : (rows.take i ++ ([([.int .i64 h.f0, .int .i64 h.f1, .string h.f2, .slice fA h.f3.length fc] : List Value)] ++ rows.drop (i + 1))).length = r1.length := by
          rw [hlen, List.length_append, List.length_append, List.length_take, List.length_drop]
          simp
          omega
        have v2 : ∀ c ∈ (rows.take i ++ ([([.int .i64 h.f0, .int .i64 h.f1, .string h.f2, .slice fA h.f3.length fc] : List Value)] ++ rows.drop (i + 1))), c.length = k46.sz := by
          intro c hc
          rw [List.mem_append, List.mem_append] at hc
          rcases hc with hc | hc | hc
          · exact (hrs c (List.mem_of_mem_take hc)).1
          · simp at hc
            subst hc
            rfl
          · exact (hrs c (List.mem_of_mem_drop hc)).1
        have v3 : w8.ownsRow w.heap.size 46 k46.sz (.slice (some ⟨g4, 0, none⟩) out.length c4) r1.length (rows.take i ++ ([([.int .i64 h.f0, .int .i64 h.f1, .string h.f2, .slice fA h.f3.length fc] : List Value)] ++ rows.drop (i + 1))).flatten := by
          rw [hlen, parts_Put_mid_flat 4 (fun c hc => (hrs c hc).1) _ i (i + 1) (by omega) (by omega)]
          exact ho8
        have v4 := parts_Put_mid (R := fun x c => Kd.FK k46 w8 (fun k => w.heap.size ≤ k) x c) hrl (fun j x c hx hc => hst (hrf j x c hx hc)) (hst HFK.out) i (i + 1)
        rw [← er] at v4
        have HV8 : Aside0 (Kd.V k46 46 w8 w.heap.size (fun k_ => w.heap.size ≤ k_) (.slice (some ⟨g4, 0, none⟩) out.length c4) r1) := Aside0.mk (parts_Put_shut (base' := w.heap.size) _ v1 v2 v3 (fun kk e => (ho8.lt kk e).1) v4 (by rw [hlen]; unfold maxLen at q4; omega))
        have HB8 := Aside0.mk hb8
        clear hrl hrs hro hrf ho8 hb8 hst hlen er v1 v2 v3 v4 hcur hfl q1 q2 q3 q4 q5 q6 hw8
        go_wp2
        go_ret2
        exact ⟨_, rfl, HV8.out, HB8.out⟩
    · cases hp
  | false =>
    have hp := HPUT3.out
    unfold parts_Put_put at hp
    rw [if_neg (by decide)] at hp
    split at hp
    · rename_i hc
      obtain ⟨hc0, hc1, hc2⟩ := hc
      simp only [Option.some.injEq, Prod.mk.injEq] at hp
      obtain ⟨i, rfl⟩ := Int.eq_ofNat_of_zero_le hc0
      rw [Int.toNat_natCast] at hp
      obtain ⟨hr1, hr2⟩ := hp
      subst hr2
      have HR := Aside0.mk hr1
      have HI := Aside0.mk (And.intro hc1 hc2)
      clear hr1 hc0 hc1 hc2
      go_wp2_with (go_at_call 41; refine parts_Put_stop ?_)
      refine Aside0.mk ?_
      obtain ⟨hrl, hrs, hro, hrf⟩ := HROW.out
      have hro' : w7.ownsRow w.heap.size 46 4 (.slice A4 out.length c4) out.length rows.flatten := hro
      refine (api_Part_own w.heap.size (.slice A4 out.length c4) out.length i w7.heap.size 46 rows.flatten [.int .i64 h.f0, .int .i64 h.f1, .string h.f2, .slice fA h.f3.length fc] _ (hro'.alloc _) (by have := HI.out; omega) (by have := HI.out; omega) (by simp; omega) HONE.out (by simp [Value.oneCell']) rfl (heap_alloc_new w7 _) (fun e => by have := (hro'.lt _ e).2; omega)).mono ?_
      rintro e w8 ⟨v8, rfl, ho8, hg8⟩
      have hb8 : Below w.heap.size w w8 := (HB7.out.alloc HB7.out.size _).grown hg8 (by simp; omega) (fun kk e => (hro'.lt kk e).1)
      have hst : ∀ {x : S46} {c : List Value}, Kd.FK k46 w7 (fun k => w.heap.size ≤ k ∧ some k ≠ (Value.slice A4 out.length c4).ownBlock) x c → Kd.FK k46 w8 (fun k => w.heap.size ≤ k) x c := fun hq => Kd.FK_mono (Kd.FK_grown (Kd.FK_below hq ((Below.refl _ w7).alloc (Nat.le_refl _) _)) hg8 (fun k hk => hk.2)) (fun k hk => hk.1)
      have hlen : r1.length = out.length + 1 := by rw [← HR.out, List.length_append, List.length_cons, List.length_take, List.length_drop]; have := HI.out; omega
      have er : r1 = out.take i ++ ([h] ++ out.drop i) := by rw [← HR.out]; simp
      have v1 : (rows.take i ++ ([([.int .i64 h.f0, .int .i64 h.f1, .string h.f2, .slice fA h.f3.length fc] : List Value)] ++ rows.drop i)).length = r1.length := by
        rw [hlen, List.length_append, List.length_append, List.length_take, List.length_drop]
        have := HI.out
        simp
        omega
      have v2 : ∀ c ∈ (rows.take i ++ ([([.int .i64 h.f0, .int .i64 h.f1, .string h.f2, .slice fA h.f3.length fc] : List Value)] ++ rows.drop i)), c.length = k46.sz := by
        intro c hc
        rw [List.mem_append, List.mem_append] at hc
        rcases hc with hc | hc | hc
        · exact (hrs c (List.mem_of_mem_take hc)).1
        · simp at hc
          subst hc
          rfl
        · exact (hrs c (List.mem_of_mem_drop hc)).1
      have v3 : w8.ownsRow w.heap.size 46 k46.sz v8 r1.length (rows.take i ++ ([([.int .i64 h.f0, .int .i64 h.f1, .string h.f2, .slice fA h.f3.length fc] : List Value)] ++ rows.drop i)).flatten := by
        rw [hlen, parts_Put_mid_flat 4 (fun c hc => (hrs c hc).1) _ i i (by have := HI.out; omega) (by have := HI.out; omega)]
        exact ho8
      have v4 := parts_Put_mid (R := fun x c => Kd.FK k46 w8 (fun k => w.heap.size ≤ k) x c) hrl (fun j x c hx hc => hst (hrf j x c hx hc)) (hst HFK.out) i i
      rw [← er] at v4
      have HV8 : Aside0 (Kd.V k46 46 w8 w.heap.size (fun k_ => w.heap.size ≤ k_) v8 r1) := Aside0.mk (parts_Put_shut (base' := w.heap.size) _ v1 v2 v3 (fun kk e => (ho8.lt kk e).1) v4 (by have := HI.out; omega))
      have HB8 := Aside0.mk hb8
      clear hrl hrs hro hrf hro' ho8 hg8 hb8 hst hlen er v1 v2 v3 v4
      go_wp2
      go_ret2
      exact ⟨v8, rfl, HV8.out, HB8.out⟩
    · cases hp
theorem parts_Put.calls (k : Nat) (A0 : Option Addr) (c0 : Nat) (l0 : List (S46)) (a1_0 : Int) (a1_1 : Int) (a1_2 : ByteArray) (A1_3 : Option Addr) (c1_3 : Nat) (l1_3 : List (S63)) (r1 : List (S46)) (r2 : Int) (w : World) (hr0 : Kd.C k46 w A0 l0.length l0) (hc0 : l0.length ≤ c0) (hr1_3 : Kd.C k63 w A1_3 l1_3.length l1_3) (hc1_3 : l1_3.length ≤ c1_3) (h : parts_Put.f k l0 a1_0 a1_1 a1_2 l1_3 = some (r1, r2)) :
    Calls Tryd.prog 16 #[.slice A0 l0.length c0, .agg #[.int .i64 a1_0, .int .i64 a1_1, .string a1_2, .slice A1_3 l1_3.length c1_3]] w fun e w' => ∃ v0_ : Value, e = .returned (.tuple #[v0_, .int .i64 r2]) ∧ Kd.V k46 46 w' w.heap.size (fun k_ => (w.heap.size ≤ k_)) v0_ r1 ∧ Below w.heap.size w w' := by
  unfold parts_Put.f at h
  obtain ⟨t, ht, h⟩ := Option.bind_eq_some_iff.1 h
  cases t with
  | false =>
    rw [if_neg (by decide)] at h
    simp only [Option.some.injEq, Prod.mk.injEq] at h
    obtain ⟨rfl, rfl⟩ := h
    exact (parts_Put_n1 k A0 c0 l0 a1_0 a1_1 a1_2 A1_3 c1_3 _ w hr0 hc0 ht).mono fun e w' ⟨h1, h2⟩ => ⟨_, h1, Kd.V_nil _ _ _ _ _, h2⟩
  | true =>
    rw [if_pos rfl] at h
    obtain ⟨ec, hec, h⟩ := Option.bind_eq_some_iff.1 h
    by_cases h0 : ec = 0
    · subst h0
      rw [if_pos rfl] at h
      obtain ⟨out, hout, h⟩ := Option.bind_eq_some_iff.1 h
      obtain ⟨fr, hfr, h⟩ := Option.bind_eq_some_iff.1 h
      split at h
      · rename_i hfl
        obtain ⟨⟨b1, b2⟩, hfi, h⟩ := Option.bind_eq_some_iff.1 h
        exact parts_Put_ok k A0 c0 l0 a1_0 a1_1 a1_2 A1_3 c1_3 l1_3 w hr0 hc0 hr1_3 hc1_3 ht hec out fr hout hfr hfl b1 b2 hfi r1 r2 h
      · cases h
    · rw [if_neg h0] at h
      simp only [Option.some.injEq, Prod.mk.injEq] at h
      obtain ⟨rfl, rfl⟩ := h
      exact (parts_Put_n2 k A0 c0 l0 a1_0 a1_1 a1_2 A1_3 c1_3 l1_3 w hr0 hc0 hr1_3 hc1_3 ht ec h0 hec).mono fun e w' ⟨h1, h2⟩ => ⟨_, h1, Kd.V_nil _ _ _ _ _, h2⟩

end Go.Proofs.YtoiockmmlanimaaDoor.Hw
end
