-- Written for this claim by hyb.py, a driver of this session's over the kit's printer.
import Derived.Test.YtekfemiomdpahaaDoorHk0
import Derived.Lib.Hide
import Derived.IntWalk
import Derived.Deep.QuietTactic
import Derived.BigQuiet
import Derived.OwnWalk
import Derived.Lib.LazyBuf
import Derived.Lib.SliceRun
import Derived.Lib.Walk
namespace Go.Proofs.YtekfemiomdpahaaDoor.Hk
open Go.RowKit Go.Proofs.YtekfemiomdpahaaDoorW.PrintWords Go.Proofs.YtekfemiomdpahaaDoorW.PrintLast Go.Proofs.YtekfemiomdpahaaDoorW.PrintMore
attribute [local go_sem] max2_int min2_int max_two min_two max_three min_three max_four min_four   -- for this text's walks alone
set_option linter.unusedVariables false
set_option linter.unusedSimpArgs false

/-! ### EXT api_Held_27: function 27 -/
def api_Held_27.f (l0 : List (S31)) : Option (List (S31)) := if l0.length ≤ 1000000000 then some l0 else none
def api_Held_27_cells (ys : List S31) : List Value := ys.flatMap fun y => [.string y.f0, .string y.f1, .string y.f2, .int .i64 y.f3]
theorem api_Held_27_cells_length (ys : List S31) : (api_Held_27_cells ys).length = ys.length * 4 := by
  induction ys with
  | nil => rfl
  | cons y ys ih => simp only [api_Held_27_cells, List.flatMap_cons, List.length_append, List.length_cons, List.length_nil] at ih ⊢; rw [ih]; omega
theorem api_Held_27_cells_snoc (ys : List S31) (y : S31) : api_Held_27_cells (ys ++ [y]) = api_Held_27_cells ys ++ [.string y.f0, .string y.f1, .string y.f2, .int .i64 y.f3] := by simp [api_Held_27_cells]
theorem api_Held_27_one (ys : List S31) : ∀ u ∈ api_Held_27_cells ys, u.oneCell' = true := by
  intro u hu
  obtain ⟨y, _, hy⟩ := List.mem_flatMap.1 hu
  simp only [List.mem_cons, List.not_mem_nil, or_false] at hy
  rcases hy with rfl | rfl | rfl | rfl <;> rfl
theorem api_Held_27_reps (w : World) (base : Nat) (ok : Nat → Prop) : ∀ ys : List S31, Reps (k31.M w base ok) 4 ys (api_Held_27_cells ys) := by
  intro ys
  have H : ∀ zs : List S31, ∀ ys : List S31, Reps (k31.M w base ok) 4 ys (api_Held_27_cells ys) → Reps (k31.M w base ok) 4 (ys ++ zs) (api_Held_27_cells (ys ++ zs)) := by
    intro zs
    induction zs with
    | nil => intro ys h; simpa using h
    | cons z zs ih =>
      intro ys h
      have h1 := ih (ys ++ [z]) (by rw [api_Held_27_cells_snoc]; exact h.snoc (k31_mkM _ _ _ z) rfl)
      simpa using h1
  simpa using H ys [] (Reps.none _ _)
theorem api_Held_27_row {w : World} {base : Nat} {v : Value} {ys : List S31} (h : w.ownsRow base 31 4 v ys.length (api_Held_27_cells ys)) : Kd.R k31 31 w base (fun _ => True) v ys :=
  ⟨fun _ _ => trivial, _, h, api_Held_27_reps _ _ _ ys⟩
theorem api_Held_27_at (w : World) (ad : Addr) : ∀ (l : List S31) (o : Nat), (∀ (i : Nat) (y : S31), l[i]? = some y → w.cell? (ad.add (o + i * 4)) = some (.string y.f0) ∧ w.cell? (ad.add (o + i * 4 + 1)) = some (.string y.f1) ∧ w.cell? (ad.add (o + i * 4 + 2)) = some (.string y.f2) ∧ w.cell? (ad.add (o + i * 4 + 3)) = some (.int .i64 y.f3)) → ∀ j u, (api_Held_27_cells l)[j]? = some u → w.cell? (ad.add (o + j)) = some u := by
  intro l
  induction l with
  | nil => intro o _ j u hj; simp [api_Held_27_cells] at hj
  | cons y l ih =>
    intro o H j u hj
    obtain ⟨g0, g1, g2, g3⟩ := H 0 y rfl
    rw [Nat.zero_mul, Nat.add_zero] at g0 g1 g2 g3
    have hc : api_Held_27_cells (y :: l) = .string y.f0 :: .string y.f1 :: .string y.f2 :: .int .i64 y.f3 :: api_Held_27_cells l := rfl
    rw [hc] at hj
    match j, hj with
    | 0, hj => simp at hj; subst hj; exact g0
    | 1, hj => simp at hj; subst hj; exact g1
    | 2, hj => simp at hj; subst hj; exact g2
    | 3, hj => simp at hj; subst hj; exact g3
    | j + 4, hj =>
      have := ih (o + 4) (fun i z hz => by
        have := H (i + 1) z hz
        rw [show o + (i + 1) * 4 = o + 4 + i * 4 by omega] at this
        exact this) j u (by simpa using hj)
      rw [show o + (j + 4) = o + 4 + j by omega]
      exact this
set_option maxRecDepth 100000 in
set_option maxHeartbeats 1000000 in
theorem api_Held_27_nil (c0 : Nat) (w : World) :
    Calls Tryd.prog 27 #[.slice none 0 c0] w fun e w' => e = .returned (.slice none 0 0) ∧ Below w.heap.size w w' := by
  have q22 : ∀ (w : World) (a : Option Addr) (n c n' c' : Nat), (binOp .eql 22 (.slice a n c) (.slice none n' c')).run Tryd.prog w = .ok (.bool a.isNone) w := fun w a n c n' c' => Lib.run_eql_slice_nil w _ _ a n c n' c' Tryd.underlying22
  go_enter Tryd.func27, Tryd.ntmps27
  go_wp2
  go_ret
  exact ⟨rfl, Below.refl _ _⟩
set_option maxRecDepth 100000 in
set_option maxHeartbeats 1000000 in
theorem api_Held_27_some (ad : Addr) (c0 : Nat) (l0 : List (S31)) (w : World) (hr0 : Kd.C k31 w (some ad) l0.length l0) (hc0 : l0.length ≤ c0) (hl : l0.length ≤ 1000000000) :
    Calls Tryd.prog 27 #[.slice (some ad) l0.length c0] w fun e w' => ∃ v0_ : Value, e = .returned v0_ ∧ w'.ownsRow w.heap.size 31 4 v0_ l0.length (api_Held_27_cells l0) ∧ Below w.heap.size w w' := by
  have q22 : ∀ (w : World) (a : Option Addr) (n c n' c' : Nat), (binOp .eql 22 (.slice a n c) (.slice none n' c')).run Tryd.prog w = .ok (.bool a.isNone) w := fun w a n c n' c' => Lib.run_eql_slice_nil w _ _ a n c n' c' Tryd.underlying22
  have hcells : Hid (∀ j u, (api_Held_27_cells l0)[j]? = some u → w.cell? (ad.add j) = some u) := Lib.hid (by
    have := api_Held_27_at w ad l0 0 (fun i y hy => by
      have hi : i < l0.length := by
        rcases Nat.lt_or_ge i l0.length with h | h
        · exact h
        · rw [List.getElem?_eq_none h] at hy; cases hy
      obtain ⟨ad', e, x0, x1, x2, x3⟩ := at_T31 hr0 (i : Int) (by omega) (by omega)
      cases e
      have hrd : rd_T31 l0 (i : Int) = y := by
        unfold rd_T31
        rw [Int.toNat_natCast, List.getD_eq_getElem?_getD, hy]
        rfl
      rw [hrd, Int.toNat_natCast] at x0 x1 x2 x3
      rw [Nat.zero_add]
      have ha : ∀ n j : Nat, 0 < j → ad.add (n + j) = ⟨(ad.add n).block, (ad.add n).off + j, none⟩ := fun n j hj => by
        unfold Addr.add
        rw [if_neg (by omega)]
        by_cases h0 : n = 0
        · subst h0; simp
        · rw [if_neg h0]; simp [Nat.add_assoc]
      exact ⟨x0, by rw [ha _ 1 (by omega)]; exact x1, by rw [ha _ 2 (by omega)]; exact x2, by rw [ha _ 3 (by omega)]; exact x3⟩)
    simpa using this)
  clear hr0
  obtain ⟨i0, hi, hz0, hz1, hz2⟩ : ∃ i0, Tryd.prog.info? 31 = some i0 ∧ i0.zero = some (.agg #[(.string ⟨#[]⟩), (.string ⟨#[]⟩), (.string ⟨#[]⟩), (.int .i64 0)]) ∧ i0.size = 4 ∧ i0.bytes = 56 := by
    have h : (Tryd.prog.info? 31).map (fun i => (i.zero, i.size, i.bytes)) = some (some (.agg #[(.string ⟨#[]⟩), (.string ⟨#[]⟩), (.string ⟨#[]⟩), (.int .i64 0)]), 4, 56) := by kernel_rfl
    cases hq : Tryd.prog.info? 31 with
    | none => rw [hq] at h; cases h
    | some i0 => rw [hq] at h; simp at h; exact ⟨i0, rfl, h.1, h.2.1, h.2.2⟩
  go_enter Tryd.func27, Tryd.ntmps27
  go_wp2_with (at_builtin; refine wpList_append_own _ rfl _ _ 22 rfl w.heap.size 31 i0 _ 4 56 Tryd.underlying22 hi hz0 hz1 hz2 rfl (by decide) _ _ _ rfl (World.ownsRow_made w #[] 0 (Nat.le_refl _) (Nat.zero_le _) (by simp)) ad l0.length c0 (api_Held_27_cells l0) rfl ?qc1 ?qc2 ?qc3 ?qc4 ?qc5 ?qc6 ?_)
  case qc1 => exact api_Held_27_cells_length l0
  case qc2 => intro j u hj; exact Lib.cell?_alloc_some _ (hcells.out j u hj)
  case qc3 => exact api_Held_27_one l0
  case qc4 => unfold maxLen; omega
  case qc5 => omega
  case qc6 => simp
  intro v' w1 hown hgrow hnil
  go_wp2
  go_ret
  exact ⟨_, rfl, by simpa using hown, ((Below.refl _ w).alloc (Nat.le_refl _) _).grown hgrow (by simp) (fun k e => by simp [Value.ownBlock] at e; omega)⟩
theorem api_Held_27_own (A0 : Option Addr) (c0 : Nat) (l0 : List (S31)) (w : World) (hr0 : Kd.C k31 w A0 l0.length l0) (hc0 : l0.length ≤ c0) (hl : l0.length ≤ 1000000000) :
    Calls Tryd.prog 27 #[.slice A0 l0.length c0] w fun e w' => ∃ v0_ : Value, e = .returned v0_ ∧ w'.ownsRow w.heap.size 31 4 v0_ l0.length (api_Held_27_cells l0) ∧ Below w.heap.size w w' := by
  cases A0 with
  | none =>
    obtain rfl : l0 = [] := by
      rcases l0 with _ | ⟨y, l⟩
      · rfl
      · obtain ⟨ad', e, _⟩ := at_T31 hr0 0 (by omega) (by simp)
        cases e
    exact (api_Held_27_nil c0 w).mono fun e w' ⟨h1, h2⟩ => ⟨_, h1, World.ownsRow_nil _ _ _ _, h2⟩
  | some ad => exact api_Held_27_some ad c0 l0 w hr0 hc0 hl
theorem api_Held_27.calls (A0 : Option Addr) (c0 : Nat) (l0 : List (S31)) (r : List (S31)) (w : World) (hr0 : Kd.C k31 w A0 l0.length l0) (hc0 : l0.length ≤ c0) (h : api_Held_27.f l0 = some r) :
    Calls Tryd.prog 27 #[.slice A0 l0.length c0] w fun e w' => ∃ v0_ : Value, e = .returned v0_ ∧ Kd.R k31 31 w' w.heap.size (fun _ => True) v0_ r ∧ Below w.heap.size w w' := by
  unfold api_Held_27.f at h
  split at h
  · rename_i hl
    cases h
    exact (api_Held_27_own A0 c0 l0 w hr0 hc0 hl).mono fun e w' ⟨v, h1, h2, h3⟩ => ⟨v, h1, api_Held_27_row h2, h3⟩
  · cases h

end Go.Proofs.YtekfemiomdpahaaDoor.Hk
