-- Written for this claim by hyb.py, a driver of this session's over the kit's printer.
import Derived.Test.YtekfemiomdpahaaDoorHk0
import Derived.Lib.Hide
import Derived.IntWalk
import Derived.Deep.QuietTactic
import Derived.BigQuiet
import Derived.OwnWalk
import Derived.Lib.LazyBuf
import Derived.Lib.SliceRun
import Derived.Lib.Walk
import Derived.Shelf.Spec.SlicesInsertGrow
import Derived.Test.YtekfemiomdpahaaDoorRowK
namespace Go.Proofs.YtekfemiomdpahaaDoor.Hk
open Go.RowKit Go.Proofs.YtekfemiomdpahaaDoorW.PrintWords Go.Proofs.YtekfemiomdpahaaDoorW.PrintLast Go.Proofs.YtekfemiomdpahaaDoorW.PrintMore
attribute [local go_sem] max2_int min2_int max_two min_two max_three min_three max_four min_four   -- for this text's walks alone
set_option linter.unusedVariables false
set_option linter.unusedSimpArgs false

/-! ### EXT api_Held_26: function 26 -/
/-- Insert has a contract over rows (below), no printed one. -/
def api_Held_26.f (l0 : List (S31)) (a1 : Int) (l2 : List (S31)) : Option (List (S31)) := none
theorem api_Held_26_info : ∃ i0, Tryd.prog.info? 31 = some i0 ∧ i0.zero = some (.agg #[(.string ⟨#[]⟩), (.string ⟨#[]⟩), (.string ⟨#[]⟩), (.int .i64 0)]) ∧ i0.size = 4 ∧ i0.bytes = 56 := by
  have h : (Tryd.prog.info? 31).map (fun i => (i.zero, i.size, i.bytes)) = some (some (.agg #[(.string ⟨#[]⟩), (.string ⟨#[]⟩), (.string ⟨#[]⟩), (.int .i64 0)]), 4, 56) := by kernel_rfl
  cases hq : Tryd.prog.info? 31 with
  | none => rw [hq] at h; cases h
  | some i0 => rw [hq] at h; simp at h; exact ⟨i0, rfl, h.1, h.2.1, h.2.2⟩
set_option maxRecDepth 100000 in
set_option maxHeartbeats 1000000 in
theorem api_Held_26_end (B : Nat) (s : Value) (xs vs : List Value) (n vb : Nat) (w : World) (hs : w.ownsRow B 31 4 s n xs) (hn : n ≤ 1000000) (h1v : ∀ u ∈ vs, u.oneCell' = true) (hvl : vs.length = 4) (hv : ∀ j u, vs[j]? = some u → w.cell? ⟨vb, j, none⟩ = some u) (hB : B ≤ w.heap.size) :
    Calls Tryd.prog 26 #[s, .int .i64 n, .slice (some ⟨vb, 0, none⟩) 1 1] w fun e w' => ∃ v', e = .returned v' ∧ w'.ownsRow B 31 4 v' (n + 1) (xs ++ vs) ∧ w.grownBy w' s.ownBlock := by
  obtain ⟨i0, hi, hz0, hz1, hz2⟩ := api_Held_26_info
  have HV := Lib.hid hv
  have HS := Lib.hid hs
  rcases hs.2 with ⟨rfl, rfl⟩ | ⟨g, cap, cur, rfl, hbg, hg, hnc, hcm, hcs, htk⟩
  · clear hs hv
    go_enter Tryd.func26, Tryd.ntmps26
    go_wp2_with (at_builtin; refine wpList_append_own _ rfl _ _ 22 rfl B 31 i0 _ 4 56 Tryd.underlying22 hi hz0 hz1 hz2 rfl (by decide) _ _ _ rfl HS.out ⟨vb, 0, none⟩ 1 1 vs rfl ?qc1 ?qc2 ?qc3 ?qc4 ?qc5 ?qc6 ?_)
    case qc1 => exact hvl
    case qc2 => intro j u hj; rw [Addr.add_lit, Nat.zero_add]; exact HV.out j u hj
    case qc3 => exact h1v
    case qc4 => unfold maxLen; omega
    case qc5 => omega
    case qc6 => exact hB
    intro v' w1 hown hgrow hnil
    go_wp2
    go_ret
    exact ⟨_, rfl, hown, hgrow⟩
  · clear hs hv
    unfold maxLen at hcm
    have hcn : ¬ ((n : Int) < 0) := by omega
    clear htk hg hcs
    go_enter Tryd.func26, Tryd.ntmps26
    go_wp2_with (at_builtin; refine wpList_append_own _ rfl _ _ 22 rfl B 31 i0 _ 4 56 Tryd.underlying22 hi hz0 hz1 hz2 rfl (by decide) _ _ _ rfl HS.out ⟨vb, 0, none⟩ 1 1 vs rfl ?qd1 ?qd2 ?qd3 ?qd4 ?qd5 ?qd6 ?_)
    case qd2 => intro j u hj; have := HV.out j u hj; first | exact this | (rw [Addr.add_lit, Nat.zero_add]; exact this)
    case qd3 => exact h1v
    case qd4 => unfold maxLen; omega
    case qd5 => omega
    all_goals
      intro v' w1 hown hgrow hnil
      go_wp2
      go_ret
      exact ⟨_, rfl, hown, hgrow⟩
set_option maxRecDepth 100000 in
set_option maxHeartbeats 4000000 in
theorem api_Held_26_grow (B g n cap i vb : Nat) (cur : Array Value) (tv : TypeId) (xs vs : List Value) (w : World) (hi : i < n) (hn : n ≤ 1000000) (hnc : n ≤ cap) (hroom : cap < n + 1) (hcm : cap ≤ maxLen) (hB : B ≤ w.heap.size)
    (hg : w.heap[g]? = some (.cells cur 31 (0, 0))) (hcs : cur.size = cap * 4) (htk : cur.toList.take (n * 4) = xs) (h1x : ∀ u ∈ xs, u.oneCell' = true) (h1v : ∀ u ∈ vs, u.oneCell' = true) (hvl : vs.length = 4)
    (hv : w.heap[vb]? = some (.cells vs.toArray tv (0, 0))) (hvb : vb ≠ g) :
    Calls Tryd.prog 26 #[.slice (some ⟨g, 0, none⟩) n cap, .int .i64 i, .slice (some ⟨vb, 0, none⟩) 1 1] w fun e w' => ∃ v', e = .returned v' ∧ w'.ownsRow B 31 4 v' (n + 1) (xs.take (i * 4) ++ vs ++ xs.drop (i * 4)) ∧ w.grownBy w' (some g) := by
  obtain ⟨i0, hi0, hz0, hz1, hz2⟩ := api_Held_26_info
  have hu : Tryd.prog.underlying 22 = some (.slice 31) := Tryd.underlying22
  have hu3 : Tryd.prog.underlying 3 = some (.int .i64) := Tryd.underlying3
  have hsz : (Tryd.prog.info? 31).map (·.size) = some 4 := by rw [hi0]; simp [hz1]
  have hgl : g < w.heap.size := (Array.getElem?_eq_some_iff.1 hg).1
  have hvll : vb < w.heap.size := (Array.getElem?_eq_some_iff.1 hv).1
  have hxl : xs.length = n * 4 := by rw [← htk, List.length_take, Array.length_toList, hcs]; omega
  have hxc : ∀ j v, xs[j]? = some v → w.cell? ⟨g, j, none⟩ = some v := fun j v hj => by
    rw [cell_of_row w g j cur _ _ hg]
    rw [← htk, List.getElem?_take] at hj
    split at hj
    · simpa using hj
    · cases hj
  have hvc : ∀ j v, vs[j]? = some v → w.cell? ⟨vb, j, none⟩ = some v := fun j v hj => by
    rw [cell_of_row w vb j vs.toArray _ _ hv]; simpa using hj
  have hold : (Builtin.firstCells i0.size i (.slice (some ⟨g, 0, none⟩) i cap)).run Tryd.prog w.drew = .ok (xs.take (i * 4)).toArray w.drew := by
    rw [hz1]
    exact run_firstCells_some w.drew 4 i ⟨g, 0, none⟩ i cap (xs.take (i * 4)) (by rw [List.length_take, hxl]; omega) (fun j v hj => by
      rw [Addr.add_lit, Nat.zero_add]
      rw [List.getElem?_take] at hj
      split at hj
      · exact hxc j v hj
      · cases hj)
  obtain ⟨G, hG⟩ : ∃ G, G = grownCap w (n + 1) cap 31 := ⟨_, rfl⟩
  have hGn : n + 1 ≤ G := by rw [hG]; exact grownCap_ge w _ _ _
  have hGm : G ≤ maxLen := by rw [hG]; exact grownCap_le_maxLen w (n + 1) cap _ (by unfold maxLen; omega)
  obtain ⟨Z, hZ⟩ : ∃ Z : Array Value, Z = Builtin.zeroCells (Value.agg #[(.string ⟨#[]⟩), (.string ⟨#[]⟩), (.string ⟨#[]⟩), (.int .i64 0)]).cells (n + 1 - i) ++ Builtin.zeroCells (Value.agg #[(.string ⟨#[]⟩), (.string ⟨#[]⟩), (.string ⟨#[]⟩), (.int .i64 0)]).cells (G - (n + 1)) := ⟨_, rfl⟩
  have hZl : Z.toList.length = (G - i) * 4 := by
    rw [hZ, Array.length_toList, Array.size_append, size_zeroCells, size_zeroCells]
    show (n + 1 - i) * 4 + (G - (n + 1)) * 4 = _
    omega
  obtain ⟨ROW, hROW⟩ : ∃ ROW : Array Value, ROW = (xs.take (i * 4)).toArray ++ Z := ⟨_, rfl⟩
  have hrz : ∀ ty, (Builtin.append_ #[22, 3] ty #[.slice (some ⟨g, 0, none⟩) i cap, .int .i64 ((n : Int) + 1 - (i : Int))]).run Tryd.prog w =
      .ok (.slice (some ⟨w.heap.size, 0, none⟩) (n + 1) G) (w.drew.alloc (.cells ROW 31)) := fun ty => by
    have hik : i + (n + 1 - i) = n + 1 := by omega
    have h := Lib.run_append_grow_zeros w 22 3 ty 31 i0 _ .i64 .i64 hu hu3 hi0 hz0 (some ⟨g, 0, none⟩) i cap (xs.take (i * 4)) hold (n + 1 - i) (by omega) (by rw [hz1]; omega) (by omega) (by omega) (by rw [hz2]; omega) (by rw [hz2, hik]; exact growslice_fits hroom (by omega))
    rw [hik, ← hG] at h
    rw [show (n : Int) + 1 - (i : Int) = ((n + 1 - i : Nat) : Int) by omega, h, hROW, hZ, Array.append_assoc]
  obtain ⟨W1, hW1⟩ : ∃ W1, W1 = w.drew.alloc (.cells ROW 31) := ⟨_, rfl⟩
  have hN1 : W1.heap[w.heap.size]? = some (.cells ROW 31 (0, 0)) := by rw [hW1]; exact heap_alloc_new w.drew _
  have hk1 : ∀ k, k < w.heap.size → W1.heap[k]? = w.heap[k]? := fun k hk => by rw [hW1]; exact Below.heap_alloc w.drew _ k hk
  obtain ⟨R1, hR1⟩ : ∃ R1 : Array Value, R1 = (ROW.toList.take (i * 4) ++ vs ++ ROW.toList.drop (i * 4 + vs.length)).toArray := ⟨_, rfl⟩
  obtain ⟨R2, hR2⟩ : ∃ R2 : Array Value, R2 = (R1.toList.take ((i + 1) * 4) ++ xs.drop (i * 4) ++ R1.toList.drop ((i + 1) * 4 + (xs.drop (i * 4)).length)).toArray := ⟨_, rfl⟩
  have hfin := RowK.grow_list xs vs Z.toList ROW.toList R1.toList R2.toList (i * 4) (n * 4) 4 hxl (by omega) hvl (by rw [hROW]; simp) (by rw [hZl]; omega) (by rw [hR1]) (by rw [hR2, show (i + 1) * 4 = i * 4 + 4 by omega])
  obtain ⟨hf1, hf2, hf3⟩ := hfin
  have hRl : ROW.toList.length = G * 4 := by rw [hROW]; simp only [Array.toList_append, List.length_append, hZl, List.length_take, hxl]; omega
  have hdl : (xs.drop (i * 4)).length = (n - i) * 4 := by rw [List.length_drop, hxl]; omega
  have hcpA : ∀ (W : World), W.heap = W1.heap → ∀ ty dc, (Builtin.copy_ #[22, 22] ty #[.slice (some ⟨w.heap.size, i * 4, none⟩) (n + 1 - i) dc, .slice (some ⟨vb, 0, none⟩) 1 1]).run Tryd.prog W = .ok (.int .i64 1) (W.setRow w.heap.size R1) := fun W hW ty dc => by
    rw [hR1]
    exact RowK.run_copy_rowK W _ _ ty 31 4 w.heap.size (i * 4) (n + 1 - i) dc ⟨vb, 0, none⟩ 1 1 1 ROW 31 vs hu hsz (by rw [hW]; exact hN1) (by simp only [Nat.min_def]; split <;> omega) (by rw [hvl])
      (fun j v hj => by rw [Addr.add_lit, Nat.zero_add, World.cell?_of_block (w := w) (by rw [hW]; exact hk1 _ hvll)]; exact hvc j v hj)
      (by rw [hvl, ← Array.length_toList, hRl]; omega) h1v
  have hcpB : ∀ (W : World), W.heap = (W1.setRow w.heap.size R1).heap → ∀ ty dc sc, (Builtin.copy_ #[22, 22] ty #[.slice (some ⟨w.heap.size, (i + 1) * 4, none⟩) (n + 1 - (i + 1)) dc, .slice (some ⟨g, i * 4, none⟩) (n - i) sc]).run Tryd.prog W = .ok (.int .i64 ((n - i : Nat) : Int)) (W.setRow w.heap.size R2) := fun W hW ty dc sc => by
    rw [hR2]
    exact RowK.run_copy_rowK W _ _ ty 31 4 w.heap.size ((i + 1) * 4) (n + 1 - (i + 1)) dc ⟨g, i * 4, none⟩ (n - i) sc (n - i) R1 31 (xs.drop (i * 4)) hu hsz (by rw [hW]; exact setRow_heap W1 _ _ _ _ _ hN1) (by simp only [Nat.min_def]; split <;> omega) hdl
      (fun j v hj => by
        rw [Addr.add_lit, World.cell?_of_block (w := w) (by rw [hW]; show (W1.setRow w.heap.size R1).heap[g]? = _; rw [RowK.setRow_other W1 _ _ g (by omega)]; exact hk1 _ hgl)]
        exact hxc (i * 4 + j) v (by rwa [List.getElem?_drop] at hj))
      (by rw [hdl, ← Array.length_toList, hf3, hRl]; omega) (fun v hv => h1x v (List.mem_of_mem_drop hv))
  have hres : ∀ (W : World), W.os = w.os → W.tape = w.tape → W.output = w.output → W.heap = ((W1.setRow w.heap.size R1).setRow w.heap.size R2).heap → W.ownsRow B 31 4 (.slice (some ⟨w.heap.size, 0, none⟩) (n + 1) G) (n + 1) (xs.take (i * 4) ++ vs ++ xs.drop (i * 4)) ∧ w.grownBy W (some g) := fun W ho ht hp hW => by
    have hlast : W.heap[w.heap.size]? = some (.cells R2 31 (0, 0)) := by rw [hW]; exact setRow_heap _ _ _ _ _ _ (setRow_heap W1 _ _ _ _ _ hN1)
    refine ⟨⟨by simp only [List.length_append, hdl, hvl, List.length_take, hxl]; omega, .inr ⟨w.heap.size, G, R2, rfl, hB, hlast, hGn, hGm, by rw [← Array.length_toList, hf2, hRl], by rw [show (n + 1) * 4 = n * 4 + 4 by omega]; exact hf1⟩⟩, ho, ht, hp, ?_, fun k hk _ => ?_⟩
    · have := (Array.getElem?_eq_some_iff.1 hlast).1; omega
    · rw [hW, RowK.setRow_other _ _ _ k (by omega), RowK.setRow_other _ _ _ k (by omega)]; exact hk1 k hk
  subst hW1
  have HRES := Lib.hid hres
  have HCA := Lib.hid hcpA
  have HCB := Lib.hid hcpB
  have hz1 : ¬ ((1 : Int) = 0) := by omega
  have hz2 : ¬ ((i : Int) = (n : Int)) := by omega
  have hz3 : (cap : Int) < (n : Int) + 1 := by omega
  unfold maxLen at hcm hGm
  have hGi : ¬ (G = i) := by omega
  have hGim : ¬ (G = i + 1) := by omega
  have hci : ¬ (cap = i) := by omega
  have hw1 : IntKind.i64.wrap ((i : Int) + 1) = (i : Int) + 1 := by rw [IntKind.wrap_i64]; omega
  have hw2 : IntKind.i64.wrap ((n : Int) + 1) = (n : Int) + 1 := by rw [IntKind.wrap_i64]; omega
  have hw3 : IntKind.i64.wrap ((n : Int) + 1 - (i : Int)) = (n : Int) + 1 - (i : Int) := by rw [IntKind.wrap_i64]; omega
  have hb1 : (0 : Int) ≤ (i : Int) + 1 := by omega
  have hin : i ≤ n := by omega
  have htn : ((i : Int) + 1).toNat = i + 1 := by omega
  have hb3 : (i : Int) ≤ (n : Int) := by omega
  clear hres hcpA hcpB hf1 hf2 hf3 hRl hdl hR1 hR2 hN1 hk1 hROW hZl hZ hG hold hvc hxc hxl htk hcs hg hv hsz hi0
  have mixed : Tryd.prog.follows Departure.mixedOrders = true := by kernel_rfl
  go_enter Tryd.func26, Tryd.ntmps26
  go_wp2_with (first
    | (at_builtin; refine Lib.wpList_append_run _ rfl _ _ _ _ rfl _ _ rfl rfl _ _ (hrz _) ?_)
    | (refine wpList_copy_runI _ rfl _ _ 22 22 rfl _ _ rfl rfl (HCA.out _ (by rfl) _ _) ?_)
    | (refine wpList_copy_runI _ rfl _ _ 22 22 rfl _ _ rfl rfl (HCB.out _ (by rfl) _ _ _) ?_))
  go_region_law_o (refine step_copy_runI rfl _ _ 22 22 rfl (.slice (some ⟨w.heap.size, (i + 1) * 4, none⟩) (n + 1 - (i + 1)) (G - (i + 1))) (.slice (some ⟨g, i * 4, none⟩) (n - i) (cap - i)) (by simp [Act.eval, Act.put]) (by simp [Act.eval, Act.put]) (HCB.out _ (by rfl) 3 (G - (i + 1)) (cap - i)) ?_)
  go_wp2
  go_ret
  exact ⟨_, rfl, HRES.out _ rfl rfl rfl rfl⟩
set_option maxRecDepth 100000 in
set_option maxHeartbeats 4000000 in
theorem api_Held_26_shift (B g n cap i vb : Nat) (cur : Array Value) (tv : TypeId) (xs vs : List Value) (w : World) (hi : i < n) (hn : n ≤ 1000000) (hroom : n + 1 ≤ cap) (hcm : cap ≤ maxLen) (hB : B ≤ g)
    (hg : w.heap[g]? = some (.cells cur 31 (0, 0))) (hcs : cur.size = cap * 4) (htk : cur.toList.take (n * 4) = xs) (h1x : ∀ u ∈ xs, u.oneCell' = true) (h1v : ∀ u ∈ vs, u.oneCell' = true) (hvl : vs.length = 4)
    (hv : w.heap[vb]? = some (.cells vs.toArray tv (0, 0))) (hvb : vb ≠ g) :
    Calls Tryd.prog 26 #[.slice (some ⟨g, 0, none⟩) n cap, .int .i64 i, .slice (some ⟨vb, 0, none⟩) 1 1] w fun e w' => ∃ v', e = .returned v' ∧ w'.ownsRow B 31 4 v' (n + 1) (xs.take (i * 4) ++ vs ++ xs.drop (i * 4)) ∧ w.grownBy w' (some g) := by
  obtain ⟨i0, hi0, hz0, hz1, hz2⟩ := api_Held_26_info
  have hu : Tryd.prog.underlying 22 = some (.slice 31) := Tryd.underlying22
  have hsz : (Tryd.prog.info? 31).map (·.size) = some 4 := by rw [hi0]; simp [hz1]
  have hgl : g < w.heap.size := (Array.getElem?_eq_some_iff.1 hg).1
  have hvll : vb < w.heap.size := (Array.getElem?_eq_some_iff.1 hv).1
  have hxl : xs.length = n * 4 := by rw [← htk, List.length_take, Array.length_toList, hcs]; omega
  have hxc : ∀ j v, xs[j]? = some v → w.cell? ⟨g, j, none⟩ = some v := fun j v hj => by
    rw [cell_of_row w g j cur _ _ hg]
    rw [← htk, List.getElem?_take] at hj
    split at hj
    · simpa using hj
    · cases hj
  have hvc : ∀ j v, vs[j]? = some v → w.cell? ⟨vb, j, none⟩ = some v := fun j v hj => by
    rw [cell_of_row w vb j vs.toArray _ _ hv]; simpa using hj
  have hsz4 : ∀ w, (Go.sizeOf 31).run Tryd.prog w = .ok 4 w := fun w => by simp [Go.sizeOf, typeInfo, hi0, hz1]
  have hov : ∀ (W : World), W.heap = w.heap → ∀ lb cb, (callFunc 47 #[.slice (some ⟨vb, 0, none⟩) 1 1, .slice (some ⟨g, (i + 1) * 4, none⟩) lb cb]).run Tryd.prog W = .ok (.value (.bool false)) W := fun W hW lb cb => by
    have hWv : W.heap[vb]? = some (.cells vs.toArray tv (0, 0)) := by rw [hW]; exact hv
    have hWg : W.heap[g]? = some (.cells cur 31 (0, 0)) := by rw [hW]; exact hg
    rw [run_callFunc_extern Tryd.func47 (by kernel_rfl) (by kernel_rfl) (by kernel_rfl) (e := Extern.SlicesOverlaps.overlaps #[22, 22] #[4]) (by kernel_rfl),
      Lib.run_overlaps_apart W 22 4 31 hu 4 hsz4 ⟨vb, 0, none⟩ ⟨g, (i + 1) * 4, none⟩ 1 1 lb cb hvb tv 31 4 cur.size (by simp [World.shape?, hWv, hvl]) (by simp [World.shape?, hWg]) (by omega) (by simp [World.frozen?, hWv]) (by simp [World.frozen?, hWv])]
    rfl
  obtain ⟨R1, hR1⟩ : ∃ R1 : Array Value, R1 = (cur.toList.take ((i + 1) * 4) ++ xs.drop (i * 4) ++ cur.toList.drop ((i + 1) * 4 + (xs.drop (i * 4)).length)).toArray := ⟨_, rfl⟩
  obtain ⟨R2, hR2⟩ : ∃ R2 : Array Value, R2 = (R1.toList.take (i * 4) ++ vs ++ R1.toList.drop (i * 4 + vs.length)).toArray := ⟨_, rfl⟩
  obtain ⟨hf1, hf2, hf3⟩ := RowK.shift_list cur.toList xs vs (i * 4) (n * 4) 4 htk (by omega) (by rw [Array.length_toList, hcs]; omega) hvl (by omega) R1.toList (by rw [hR1, show (i + 1) * 4 = i * 4 + 4 by omega]) R2.toList (by rw [hR2])
  have hcl : cur.toList.length = cap * 4 := by rw [Array.length_toList, hcs]
  have hdl : (xs.drop (i * 4)).length = (n - i) * 4 := by rw [List.length_drop, hxl]; omega
  have hcpA : ∀ (W : World), W.heap = w.heap → ∀ ty dc sc, (Builtin.copy_ #[22, 22] ty #[.slice (some ⟨g, (i + 1) * 4, none⟩) (n + 1 - (i + 1)) dc, .slice (some ⟨g, i * 4, none⟩) (n + 1 - i) sc]).run Tryd.prog W = .ok (.int .i64 ((n - i : Nat) : Int)) (W.setRow g R1) := fun W hW ty dc sc => by
    rw [hR1]
    exact RowK.run_copy_rowK W _ _ ty 31 4 g ((i + 1) * 4) (n + 1 - (i + 1)) dc ⟨g, i * 4, none⟩ (n + 1 - i) sc (n - i) cur 31 (xs.drop (i * 4)) hu hsz (by rw [hW]; exact hg) (by simp only [Nat.min_def]; split <;> omega) hdl
      (fun j v hj => by rw [Addr.add_lit, World.cell?_of_block (w := w) (by rw [hW])]; exact hxc (i * 4 + j) v (by rwa [List.getElem?_drop] at hj))
      (by rw [hdl, hcs]; omega) (fun v hv => h1x v (List.mem_of_mem_drop hv))
  have hcpB : ∀ (W : World), W.heap = (w.setRow g R1).heap → ∀ ty dc, (Builtin.copy_ #[22, 22] ty #[.slice (some ⟨g, i * 4, none⟩) (n + 1 - i) dc, .slice (some ⟨vb, 0, none⟩) 1 1]).run Tryd.prog W = .ok (.int .i64 1) (W.setRow g R2) := fun W hW ty dc => by
    rw [hR2]
    exact RowK.run_copy_rowK W _ _ ty 31 4 g (i * 4) (n + 1 - i) dc ⟨vb, 0, none⟩ 1 1 1 R1 31 vs hu hsz (by rw [hW]; exact setRow_heap w _ _ _ _ _ hg) (by simp only [Nat.min_def]; split <;> omega) (by rw [hvl])
      (fun j v hj => by rw [Addr.add_lit, Nat.zero_add, World.cell?_of_block (w := w) (by rw [hW]; exact RowK.setRow_other w _ _ vb hvb)]; exact hvc j v hj)
      (by rw [hvl, ← Array.length_toList, hf3, hcl]; omega) h1v
  have hres : ∀ (W : World), W.os = w.os → W.tape = w.tape → W.output = w.output → W.heap = ((w.setRow g R1).setRow g R2).heap → W.ownsRow B 31 4 (.slice (some ⟨g, 0, none⟩) (n + 1) cap) (n + 1) (xs.take (i * 4) ++ vs ++ xs.drop (i * 4)) ∧ w.grownBy W (some g) := fun W ho ht hp hW => by
    have hlast : W.heap[g]? = some (.cells R2 31 (0, 0)) := by rw [hW]; exact setRow_heap _ _ _ _ _ _ (setRow_heap w _ _ _ _ _ hg)
    refine ⟨⟨by simp only [List.length_append, hdl, hvl, List.length_take, hxl]; omega, .inr ⟨g, cap, R2, rfl, hB, hlast, hroom, hcm, by rw [← Array.length_toList, hf2, hcl], by rw [show (n + 1) * 4 = n * 4 + 4 by omega]; exact hf1⟩⟩, ho, ht, hp, ?_, fun k hk hne => ?_⟩
    · rw [hW]; simp [World.setRow]
    · have hkg : k ≠ g := fun e => hne (by rw [e])
      rw [hW, RowK.setRow_other _ _ _ k hkg, RowK.setRow_other _ _ _ k hkg]
  have HRES := Lib.hid hres
  have HCA := Lib.hid hcpA
  have HCB := Lib.hid hcpB
  have HOV := Lib.hid hov
  have hz1 : ¬ ((1 : Int) = 0) := by omega
  have hz2 : ¬ ((i : Int) = (n : Int)) := by omega
  have hz3 : ¬ ((cap : Int) < (n : Int) + 1) := by omega
  unfold maxLen at hcm
  have hci : ¬ (cap = i) := by omega
  have hci1 : ¬ (cap = i + 1) := by omega
  have hw1 : IntKind.i64.wrap ((i : Int) + 1) = (i : Int) + 1 := by rw [IntKind.wrap_i64]; omega
  have hw2 : IntKind.i64.wrap ((n : Int) + 1) = (n : Int) + 1 := by rw [IntKind.wrap_i64]; omega
  have hb1 : (0 : Int) ≤ (i : Int) + 1 := by omega
  have hb2 : (0 : Int) ≤ (n : Int) + 1 := by omega
  have hin : i ≤ n := by omega
  have htn : ((i : Int) + 1).toNat = i + 1 := by omega
  have htn2 : ((n : Int) + 1).toNat = n + 1 := by omega
  have hb3 : (i : Int) ≤ (n : Int) := by omega
  have hb4 : (n : Int) + 1 ≤ (cap : Int) := by omega
  have hb5 : (i : Int) ≤ (n : Int) + 1 := by omega
  clear hres hcpA hcpB hov hf1 hf2 hf3 hcl hdl hR1 hR2 hvc hxc hxl htk hcs hg hv hsz hi0 hsz4
  have mixed : Tryd.prog.follows Departure.mixedOrders = true := by kernel_rfl
  go_enter Tryd.func26, Tryd.ntmps26
  go_wp2_with (first
    | (rw [HOV.out _ (by rfl)])
    | (refine wpList_copy_runI _ rfl _ _ 22 22 rfl _ _ rfl rfl (HCB.out _ (by rfl) _ _) ?_))
  go_region_law_o (refine step_copy_runI rfl _ _ 22 22 rfl (.slice (some ⟨g, (i + 1) * 4, none⟩) (n + 1 - (i + 1)) (cap - (i + 1))) (.slice (some ⟨g, i * 4, none⟩) (n + 1 - i) (cap - i)) (by simp [Act.eval, Act.put]) (by simp [Act.eval, Act.put]) (HCA.out _ (by rfl) 3 (cap - (i + 1)) (cap - i)) ?_)
  go_wp2_with (refine wpList_copy_runI _ rfl _ _ 22 22 rfl _ _ rfl rfl (HCB.out _ (by rfl) _ _) ?_)
  go_ret
  exact ⟨_, rfl, HRES.out _ rfl rfl rfl rfl⟩
theorem api_Held_26_own (B : Nat) (s : Value) (n i vb : Nat) (tv : TypeId) (xs vs : List Value) (w : World) (hs : w.ownsRow B 31 4 s n xs) (hi : i ≤ n) (hn : n ≤ 1000000) (hB : B ≤ w.heap.size)
    (h1x : ∀ u ∈ xs, u.oneCell' = true) (h1v : ∀ u ∈ vs, u.oneCell' = true) (hvl : vs.length = 4)
    (hv : w.heap[vb]? = some (.cells vs.toArray tv (0, 0))) (hvb : s.ownBlock ≠ some vb) :
    Calls Tryd.prog 26 #[s, .int .i64 i, .slice (some ⟨vb, 0, none⟩) 1 1] w fun e w' => ∃ v', e = .returned v' ∧ w'.ownsRow B 31 4 v' (n + 1) (xs.take (i * 4) ++ vs ++ xs.drop (i * 4)) ∧ w.grownBy w' s.ownBlock := by
  by_cases hin : i = n
  · subst hin
    have hx := hs.1
    rw [List.take_of_length_le (by omega), List.drop_of_length_le (by omega), List.append_nil]
    exact api_Held_26_end B s xs vs i vb w hs hn h1v hvl (fun j u hj => by rw [cell_of_row w vb j vs.toArray _ _ hv]; simpa using hj) hB
  · rcases hs.2 with ⟨rfl, rfl⟩ | ⟨g, cap, cur, rfl, hbg, hg, hnc, hcm, hcs, htk⟩
    · omega
    · have hne : vb ≠ g := fun e => hvb (by simp [Value.ownBlock, e])
      by_cases hroom : n + 1 ≤ cap
      · exact api_Held_26_shift B g n cap i vb cur tv xs vs w (by omega) hn hroom hcm hbg hg hcs htk h1x h1v hvl hv hne
      · exact api_Held_26_grow B g n cap i vb cur tv xs vs w (by omega) hn hnc (by omega) hcm hB hg hcs htk h1x h1v hvl hv hne

end Go.Proofs.YtekfemiomdpahaaDoor.Hk
