-- Written for this claim by hyb.py, a driver of this session's over the kit's printer.
import Derived.Test.YtapkojfodhdnaaaHx0
import Derived.Test.YtapkojfodhdnaaaHx5
import Derived.Lib.Hide
import Derived.IntWalk
import Derived.Deep.QuietTactic
import Derived.BigQuiet
import Derived.OwnWalk
import Derived.LoopN
import Derived.Laws.Cover1
import Derived.Shelf.SlSortCmp.InsertionK
import Derived.Test.YtapkojfodhdnaaaGG
import Derived.Test.YtapkojfodhdnaaaNamesOrd
import Derived.Test.YtapkojfodhdnaaaNamesSort
import Derived.Test.YtapkojfodhdnaaaEntry
import Derived.DeepKeys4
import Derived.Test.YtapkojfodhdnaaaSortLaid
import Derived.Test.YtapkojfodhdnaaaSortRow
import Derived.RegionTactic
import Derived.ChangeAlike
namespace Go.Proofs.Ytapkojfodhdnaaa.Hx
open Go.RowKit Go.Proofs.YtapkojfodhdnaaaW.PrintWords Go.Proofs.YtapkojfodhdnaaaW.PrintLast Go.Proofs.YtapkojfodhdnaaaW.PrintMore
attribute [local go_sem] max2_int min2_int max_two min_two max_three min_three max_four min_four   -- for this text's walks alone
set_option linter.unusedVariables false
set_option linter.unusedSimpArgs false

/-! ### EXT names_Fold: function 9 -/
/-- How two texts stand to each other. -/
def names_Fold_cs (a b : List UInt8) : Int := if Op.bytesLess a b = true then -1 else if (!(Op.bytesLess a b || a == b)) = true then 1 else 0
/-- How two items stand to each other. -/
def names_Fold_cf (x y : S38) : Int := if names_Fold_cs x.f0.toList y.f0.toList ≠ 0 ∨ x.f1 = y.f1 then names_Fold_cs x.f0.toList y.f0.toList else if x.f1 = true then 1 else -1
set_option maxRecDepth 100000 in
set_option maxHeartbeats 1000000 in
theorem names_Fold_nan (a : ByteArray) (w : World) : Calls Try.prog 31 #[.string a] w fun e w' => e = .returned (.bool false) ∧ w' = w := by
  go_enter Try.func31, Try.ntmps31
  go_wp2
  go_ret
  exact ⟨by simp, rfl⟩
set_option maxRecDepth 100000 in
set_option maxHeartbeats 1000000 in
theorem names_Fold_compare (a b : ByteArray) (w : World) : Calls Try.prog 22 #[.string a, .string b] w fun e w' => e = .returned (.int .i64 (names_Fold_cs a.toList b.toList)) ∧ w' = w := by
  obtain ⟨p, hp⟩ : ∃ p, Op.bytesLess a.toList b.toList = p := ⟨_, rfl⟩
  obtain ⟨q, hq⟩ : ∃ q, (a.toList == b.toList) = q := ⟨_, rfl⟩
  have hc : names_Fold_cs a.toList b.toList = if p = true then -1 else if (!(p || q)) = true then 1 else 0 := by unfold names_Fold_cs; rw [hp, hq]
  rw [hc]
  clear hc
  go_enter Try.func22, Try.ntmps22
  cases p <;> cases q
  all_goals
    go_wp2_with (go_at_call 31; refine (names_Fold_nan _ _).mono ?_; rintro e w' ⟨rfl, rfl⟩)
  all_goals
    go_ret
    exact ⟨by simp, rfl⟩
set_option maxRecDepth 100000 in
set_option maxHeartbeats 1000000 in
theorem names_Fold_cmp (x y : S38) (w : World) : Calls Try.prog 21 #[.agg #[.string x.f0, .bool x.f1], .agg #[.string y.f0, .bool y.f1]] w fun e w' => e = .returned (.int .i64 (names_Fold_cf x y)) ∧ ∃ q, w' = ((w.alloc (.cells #[.string x.f0, .bool x.f1] 38)).alloc (.cells #[.string y.f0, .bool y.f1] 38)).drewN q := by
  obtain ⟨x0, x1⟩ := x
  obtain ⟨y0, y1⟩ := y
  obtain ⟨c, hc⟩ : ∃ c, names_Fold_cs x0.toList y0.toList = c := ⟨_, rfl⟩
  have hf : names_Fold_cf ⟨x0, x1⟩ ⟨y0, y1⟩ = if c ≠ 0 ∨ x1 = y1 then c else if x1 = true then 1 else -1 := by unfold names_Fold_cf; rw [← hc]
  rw [hf]
  clear hf
  have HC := Aside0.mk hc
  clear hc
  have mixed : Try.prog.follows Departure.mixedOrders = true := by kernel_rfl
  go_enter Try.func21, Try.ntmps21
  go_wp2_with (go_at_call 22; refine (names_Fold_compare x0 y0 _).mono ?_; rw [HC.out]; rintro e w' ⟨rfl, rfl⟩)
  all_goals
    go_ret
    exact ⟨by first | rfl | (simp; done) | (simp_all; done) | (congr 3; simp_all; done), 0, rfl⟩
/-- An item stands ahead of another one. -/
def names_Fold_lt (x y : S38) : Bool := Op.bytesLess x.f0.toList y.f0.toList || (x.f0.toList == y.f0.toList && (!x.f1 && y.f1))
theorem names_Fold_cs_eq (a b : List UInt8) : (names_Fold_cs a b < 0 ↔ Op.bytesLess a b = true) ∧ (names_Fold_cs a b = 0 ↔ a = b) := by
  have hle := Ord.bl_le a b
  unfold names_Fold_cs
  cases h1 : Op.bytesLess a b with
  | true =>
    have hne : a ≠ b := fun e => by rw [e, Ord.bl_irrefl] at h1; cases h1
    simp [hne]
  | false =>
    rw [h1] at hle
    simp only [Bool.false_or] at hle ⊢
    cases h2 : (a == b) with
    | true =>
      have e := beq_iff_eq.1 h2
      simp [e]
    | false =>
      have hne : a ≠ b := fun e => by rw [e] at h2; simp at h2
      simp [hne]
theorem names_Fold_lt_eq (x y : S38) : Go.Proofs.ltOf names_Fold_cf x y = names_Fold_lt x y := by
  obtain ⟨e1, e2⟩ := names_Fold_cs_eq x.f0.toList y.f0.toList
  unfold Go.Proofs.ltOf names_Fold_cf names_Fold_lt
  by_cases h0 : names_Fold_cs x.f0.toList y.f0.toList = 0
  · have he := e2.1 h0
    rw [h0, he, Ord.bl_irrefl]
    cases x.f1 <;> cases y.f1 <;> simp
  · have hne : ¬ x.f0.toList = y.f0.toList := fun e => h0 (e2.2 e)
    rw [if_pos (.inl h0)]
    have hb : (x.f0.toList == y.f0.toList) = false := beq_eq_false_iff_ne.2 hne
    rw [hb, Bool.false_and, Bool.or_false]
    cases hq : Op.bytesLess x.f0.toList y.f0.toList with
    | true => exact decide_eq_true (e1.2 hq)
    | false => exact decide_eq_false (fun h => by rw [e1.1 h] at hq; cases hq)
theorem names_Fold_irr (x : S38) : names_Fold_lt x x = false := by
  unfold names_Fold_lt
  rw [Ord.bl_irrefl]
  cases x.f1 <;> simp
theorem names_Fold_tr (x y z : S38) (h1 : names_Fold_lt x y = true) (h2 : names_Fold_lt y z = true) : names_Fold_lt x z = true := by
  unfold names_Fold_lt at *
  simp only [Bool.or_eq_true, Bool.and_eq_true, beq_iff_eq, Bool.not_eq_true'] at *
  rcases h1 with h1 | ⟨e1, f1, f2⟩
  · rcases h2 with h2 | ⟨e2, g1, g2⟩
    · exact .inl (Ord.bl_trans _ _ _ h1 h2)
    · exact .inl (e2 ▸ h1)
  · rcases h2 with h2 | ⟨e2, g1, g2⟩
    · exact .inl (e1 ▸ h2)
    · rw [f2] at g1; cases g1
theorem names_Fold_tot (x y : S38) (h1 : names_Fold_lt x y = false) (h2 : names_Fold_lt y x = false) : x = y := by
  obtain ⟨x0, x1⟩ := x
  obtain ⟨y0, y1⟩ := y
  unfold names_Fold_lt at *
  simp only [Bool.or_eq_false_iff] at h1 h2
  have hle := Ord.bl_le x0.toList y0.toList
  rw [h1.1, h2.1] at hle
  simp only [Bool.false_or, Bool.not_false, beq_iff_eq] at hle
  have e0 : x0 = y0 := by
    rw [ByteArray.toList_eq, ByteArray.toList_eq] at hle
    exact ByteArray.ext (Array.ext' hle)
  subst e0
  have g1 := h1.2
  have g2 := h2.2
  congr 1
  cases x1 <;> cases y1 <;> simp at g1 g2 ⊢
theorem names_Fold_swo : Go.Sort.SWO (Go.Proofs.ltOf names_Fold_cf) where
  irrefl x := by rw [names_Fold_lt_eq]; exact names_Fold_irr x
  trans x y z h1 h2 := by rw [names_Fold_lt_eq] at *; exact names_Fold_tr x y z h1 h2
  ntrans x y z h1 h2 := by
    rw [names_Fold_lt_eq] at *
    cases hq : names_Fold_lt x z with
    | false => rfl
    | true =>
      cases hp : names_Fold_lt y x with
      | true => rw [names_Fold_tr y x z hp hq] at h2; cases h2
      | false => rw [names_Fold_tot x y h1 hp, h2] at hq; cases hq
instance names_Fold_inh : Inhabited S38 := ⟨z38⟩
def names_Fold_enc (x : S38) : List Value := [.string x.f0, .bool x.f1]
theorem names_Fold_lays (blk off size : Nat) (w : World) : Go.Proofs.CmpLays Try.prog 21 #[] names_Fold_enc 2 names_Fold_cf blk off size w :=
  fun m os dk _ x y => (names_Fold_cmp x y _).mono fun e w' ⟨he, q, hw⟩ => ⟨he, q, #[.cells #[.string x.f0, .bool x.f1] 38 (0, 0), .cells #[.string y.f0, .bool y.f1] 38 (0, 0)], by rw [hw, Go.Sort.alloc_eq_grow, Go.Sort.alloc_eq_grow, Go.Sort.grow_grow]; rfl⟩
instance names_Fold_deq : DecidableEq S38 := fun a b => decidable_of_iff (a.f0 = b.f0 ∧ a.f1 = b.f1) (by cases a; cases b; simp)
/-- The items of keys, in the order of their first coming. -/
def names_Fold_its (a1 a2 a3 : ByteArray) : List ByteArray → List S38 → Option (List S38)
  | [], acc => some acc
  | x :: l, acc => (names_item.f x a1 a2).bind fun p => if p.1.size ≤ 9223372036854775807 then names_Fold_its a1 a2 a3 l (if (p.2.2 && Op.bytesLess a3.toList p.1.toList) = true then (if (⟨p.1, p.2.1⟩ : S38) ∈ acc then acc else acc ++ [⟨p.1, p.2.1⟩]) else acc) else none
/-- The items in order. -/
def names_Fold_srt (l : List S38) : List S38 := l.mergeSort fun x y => !Go.Proofs.ltOf names_Fold_cf y x
def names_Fold.f (l0 : List ByteArray) (a1 a2 a3 : ByteArray) (a4 : Int) : Option (List S38 × Bool) :=
  if l0.length ≤ 1048576 then (names_Fold_its a1 a2 a3 l0 []).bind fun acc => if max a4 0 < (acc.length : Int) then some ((names_Fold_srt acc).take (max a4 0).toNat, true) else some (names_Fold_srt acc, false) else none
/-- An item's key in the map. -/
theorem names_Fold_keyed (x : S38) (h : x.f0.size ≤ maxLen) : keyOf Try.prog 38 (.agg #[.string x.f0, .bool x.f1]) = some (.string (keyBytes [.string x.f0.data.toList, .bool x.f1])) := by
  have hs : Try.prog.keyType 38 = true := by kernel_rfl
  have hn : ∃ d, Try.prog.types.size + 1 = d + 2 := ⟨Try.prog.types.size - 1, by kernel_rfl⟩
  have hc : Try.prog.cellsOf 38 = 2 := by kernel_rfl
  have hc1 : Try.prog.cellsOf 9 = 1 := by kernel_rfl
  have hc2 : Try.prog.cellsOf 4 = 1 := by kernel_rfl
  have hu := Try.underlying38
  have hu1 := Try.underlying9
  have hu2 := Try.underlying4
  generalize Try.prog = P at *
  obtain ⟨d, hd⟩ := hn
  unfold keyOf
  rw [hu, hs, hd]
  simp [Value.formed, hu, hc, hc1, hc2, Program.keyLits, hu1, hu2, Value.cells, h]
theorem names_Fold_klaw : Go.WideMaps.KeyLaw Try.prog 38 := deep_law_laid (by kernel_rfl) (m := 3) (by omega) (of_decide_eq_true (by kernel_rfl)) (by kernel_rfl) (by rw [Try.underlying38])
theorem names_Fold_zero (w : World) : (zeroValue 3).run Try.prog w = .ok (.int .i64 0) w := by kernel_rfl
abbrev names_Fold_cells (l : List S38) : List Value := l.flatMap names_Fold_enc
theorem names_Fold_sort (W : World) (base : Nat) (v : Value) (acc : List S38) (hrow : W.ownsRow base 38 2 v acc.length (names_Fold_cells acc)) (hl : acc.length ≤ 1048576) :
    Calls Try.prog 20 #[v, .func (.func 21) #[] #[]] W fun e w' => e = .returned (.tuple #[]) ∧ w'.ownsRow base 38 2 v acc.length (names_Fold_cells (names_Fold_srt acc)) ∧ W.grownBy w' v.ownBlock := by
  rcases hrow.2 with ⟨rfl, hn⟩ | ⟨g, cap, cur, rfl, hbase, hb, h1, h2, h3, h4⟩
  · obtain rfl := List.eq_nil_of_length_eq_zero hn
    refine (AnyF.slices_SortFunc_none Try.sortItem none 0 (.func (.func 21) #[] #[]) W).mono fun e w' ⟨he, hw⟩ => ⟨he, ?_, ?_⟩
    · rw [hw]; simpa [names_Fold_srt] using hrow
    · rw [hw]; exact ⟨rfl, rfl, rfl, Nat.le_refl _, fun _ _ _ => rfl⟩
  · have hH := SortRow.holds names_Fold_enc 2 (fun _ => rfl) (by omega) hb h4
    have hc := AnyQ.slices_SortFunc_total Try.sortItem 2 Try.isAgg38 Try.sizeOf38 names_Fold_enc (fun _ => rfl) (fun x v hv => by simp [names_Fold_enc] at hv; rcases hv with rfl | rfl <;> rfl) names_Fold_cf names_Fold_swo 21 #[] g 0 cap acc.toArray W
      (enters_of Try.func21 (by kernel_rfl) rfl) (names_Fold_lays g 0 acc.toArray.size W) hH (Array.getElem?_eq_some_iff.1 hb).1 (by simp; omega) (fun x y hx hy => names_Fold_tot x y (by rw [← names_Fold_lt_eq]; exact hx) (by rw [← names_Fold_lt_eq]; exact hy))
    refine hc.mono fun e w' ⟨he, n, os, hw⟩ => ⟨he, ?_, ?_⟩
    · rw [hw]
      exact SortRow.row_sorted names_Fold_enc 2 (fun _ => rfl) (by omega) (List.length_mergeSort acc) hbase hb h1 h2 h3
    · rw [hw]
      exact SortRow.grown_sorted names_Fold_enc 2 _
theorem names_Fold_shape {W : World} {base : Nat} {v : Value} {l : List S38} (h : W.ownsRow base 38 2 v l.length (names_Fold_cells l)) : ∃ A c, v = .slice A l.length c ∧ l.length ≤ c := by
  rcases h.2 with ⟨rfl, hn⟩ | ⟨g, cap, cur, rfl, hbase, hb, h1, h2, h3, h4⟩
  · exact ⟨none, 0, by rw [hn], by omega⟩
  · exact ⟨_, cap, rfl, h1⟩
theorem names_Fold_reps (w : World) (base : Nat) (ok : Nat → Prop) : ∀ ys : List S38, Reps (k38.M w base ok) 2 ys (names_Fold_cells ys) := by
  intro ys
  have H : ∀ zs : List S38, ∀ ys : List S38, Reps (k38.M w base ok) 2 ys (names_Fold_cells ys) → Reps (k38.M w base ok) 2 (ys ++ zs) (names_Fold_cells (ys ++ zs)) := by
    intro zs
    induction zs with
    | nil => intro ys h; simpa using h
    | cons z zs ih =>
      intro ys h
      have h1 := ih (ys ++ [z]) (by rw [show names_Fold_cells (ys ++ [z]) = names_Fold_cells ys ++ [.string z.f0, .bool z.f1] by simp [names_Fold_cells, names_Fold_enc]]; exact h.snoc (k38_mkM _ _ _ z) rfl)
      simpa using h1
  simpa using H ys [] (Reps.none _ _)
theorem names_Fold_row {w : World} {base : Nat} {v : Value} {ys : List S38} (h : w.ownsRow base 38 2 v ys.length (names_Fold_cells ys)) : Kd.R k38 38 w base (fun k_ => base ≤ k_) v ys :=
  ⟨fun k hk => own_base h k hk, _, h, names_Fold_reps _ _ _ ys⟩
theorem names_Fold_view {w : World} {base n c : Nat} {A : Option Addr} {ys : List S38} (h : w.ownsRow base 38 2 (.slice A n c) n (names_Fold_cells ys)) (hn : ys.length = n) (m : Nat) (hm : m ≤ n) (c' : Nat) (hc : m ≤ c') : Kd.V k38 38 w base (fun k_ => (base ≤ k_)) (.slice A m c') (ys.take m) := by
  subst hn
  obtain ⟨A', c2, he, _, hF⟩ := Kd.R_V (base' := 0) (Kd.R_take (names_Fold_row h) hm)
  have hlen : (ys.take m).length = m := by rw [List.length_take]; omega
  injection he with h1 h2 h3
  subst h1
  exact ⟨A, c', by rw [hlen], by rw [hlen]; exact hc, hF⟩
theorem names_Fold_low {W W' : World} (hb : Below W.heap.size W W') : W.grownBy W' none := ⟨hb.os, hb.tape, hb.output, hb.size, fun k hk _ => hb.block k hk⟩
theorem names_Fold_two (W : World) (g : Nat) (a b : Value) : W.grownBy ((W.setCell ⟨g, 0, none⟩ a).setCell ⟨g, 1, none⟩ b) (some g) :=
  ⟨rfl, rfl, rfl, by simp [World.setCell], fun k _ hk => by rw [Below.heap_setCell _ _ _ k (fun e => hk (by rw [e])), Below.heap_setCell _ _ _ k (fun e => hk (by rw [e]))]⟩
theorem names_Fold_keep {W W' : World} {base n : Nat} {v : Value} {xs : List Value} {row : Option Nat} (h : W.ownsRow base 38 2 v n xs) (hg : W.grownBy W' row) (hne : ∀ k, v.ownBlock = some k → row ≠ some k) : W'.ownsRow base 38 2 v n xs := by
  refine h.kept hg ?_
  cases hk : v.ownBlock with
  | none => exact .inl rfl
  | some k => exact .inr (fun e => hne k hk e.symm)
theorem names_Fold_new (W : World) (a : ByteArray) (b : Bool) (j : Nat) (u : Value) (h : ([.string a, .bool b] : List Value)[j]? = some u) : (W.alloc (.cells #[.string a, .bool b] 38)).cell? (Addr.add ⟨W.heap.size, 0, none⟩ j) = some u := by
  have hb := blk_new W (.cells #[.string a, .bool b] 38 (0, 0))
  match j, h with
  | 0, h => rw [← h]; exact (blk_cell hb 0).trans rfl
  | 1, h => rw [← h]; exact (blk_cell hb 1).trans rfl
  | j + 2, h => simp at h
theorem names_Fold_drop (l0 : List ByteArray) (j : Nat) (h : j < l0.length) : l0.drop j = rdOf ByteArray.empty l0 (j : Int) :: l0.drop (j + 1) := by
  rw [List.drop_eq_getElem_cons h]
  congr 1
  simp [rdOf, h]
set_option maxRecDepth 100000 in
set_option maxHeartbeats 4000000 in
theorem names_Fold_walk (A0 : Option Addr) (c0 : Nat) (l0 : List ByteArray) (a1 a2 a3 : ByteArray) (a4 : Int) (fin r1 : List S38) (r2 : Bool) (w : World) (hr0 : Kd.C Kd.string w A0 l0.length l0) (hc0 : l0.length ≤ c0) (hl : l0.length ≤ 1048576) (hG : GG w) (h : names_Fold_its a1 a2 a3 l0 [] = some fin) (hf : (if max a4 0 < (fin.length : Int) then ((names_Fold_srt fin).take (max a4 0).toNat, true) else (names_Fold_srt fin, false)) = (r1, r2)) :
    Calls Try.prog 9 #[.slice A0 l0.length c0, .string a1, .string a2, .string a3, .int .i64 a4] w fun e w' => ∃ v0_ : Value, e = .returned (.tuple #[v0_, .bool r2]) ∧ Kd.V k38 38 w' w.heap.size (fun k_ => (w.heap.size ≤ k_)) v0_ r1 ∧ Below w.heap.size w w' := by
  have HR0 := Aside0.mk hr0
  have HC0 := Aside0.mk hc0
  have HG := Aside0.mk hG
  have HI := Aside0.mk h
  have HF := Aside0.mk hf
  clear hr0 hG h hf
  have mixed : Try.prog.follows Departure.mixedOrders = true := by kernel_rfl
  have hmm := @run_makeMap Try.prog
  go_enter Try.func9, Try.ntmps9
  go_wp2
  go_loopw [13, 21] (fun v13 v21 wr => ∃ (j : Nat) (acc : List S38) (D : DataW Unit), v21 = .int .i64 j ∧ j ≤ l0.length ∧ Aside0 (names_Fold_its a1 a2 a3 (l0.drop j) acc = some fin) ∧ Aside0 (acc.length ≤ j) ∧ Aside0 (wr.ownsRow w.heap.size 38 2 v13 acc.length (names_Fold_cells acc)) ∧ Aside0 (wr.ownsMap Try.prog 38 (plainElem Try.prog 3) w.heap.size j D) ∧ Aside0 (∀ x : S38, x.f0.size ≤ 9223372036854775807 → ∃ c : Int, D.atKey (.string (keyBytes [.string x.f0.data.toList, .bool x.f1])) (.lit (.int .i64 0)) = .lit (.int .i64 c) ∧ 0 ≤ c ∧ c ≤ j ∧ (c = 0 ↔ x ∉ acc)) ∧ Aside0 (Below w.heap.size w wr))
    (fun v13 v21 _ => l0.length - (intOf v21).toNat)
  case atStart => exact ⟨0, [], .map [], rfl, Nat.zero_le _, HI, ⟨Nat.le_refl _⟩, ⟨World.ownsRow_nil _ _ _ _⟩, ⟨World.ownsMap_made _ _ _ _⟩, ⟨fun x _ => ⟨0, rfl, by omega, by omega, by simp⟩⟩, ⟨(Below.refl _ _).alloc (Nat.le_refl _) _⟩⟩
  case round =>
    obtain ⟨j, acc, D, rfl, hj, HA, HL, HO, HM, HX, HB⟩ := hrel
    by_cases hlt : j < l0.length
    · have hA := HA.out
      rw [names_Fold_drop l0 j hlt, names_Fold_its] at hA
      obtain ⟨⟨q1, q2, q3⟩, hit, hA⟩ := Option.bind_eq_some_iff.mp hA
      have A6 := Aside0.mk hit
      clear hit HA
      have hs : q1.size ≤ 9223372036854775807 := by
        by_cases hs : q1.size ≤ 9223372036854775807
        · exact hs
        · simp only [if_neg hs] at hA; cases hA
      simp only [if_pos hs] at hA
      have HS := Aside0.mk hs
      clear hs
      have p171 : 0 ≤ (j : Int) := by omega
      have q171 : (j : Int) < l0.length := by omega
      have c4b0 : decide ((j : Int) < (l0.length : Int)) = true := decide_eq_true q171
      obtain ⟨ad171, e171, hx171_0⟩ := Kd.at_string HR0.out (j : Int) p171 q171
      cases e171
      rw [Int.toNat_natCast] at hx171_0
      obtain ⟨s0, hs0⟩ : ∃ s0, rdOf ByteArray.empty l0 (j : Int) = s0 := ⟨_, rfl⟩
      rw [hs0] at A6 hx171_0
      clear hs0
      replace hx171_0 := (HB.out.cell (World.block_lt_of_cell? w _ hx171_0)).trans hx171_0
      replace p171 := eq_true p171
      replace q171 := eq_true q171
      have fact_le : ∀ a b : List UInt8, (Op.bytesLess a b || a == b) = !Op.bytesLess b a := Ord.bl_le
      cases q3 with
      | false =>
        simp only [Bool.false_and, Bool.false_eq_true, if_false] at hA
        have HA := Aside0.mk hA
        clear hA
        go_wp2_with (first | ((with_reducible refine gate_callee (f := 19) rfl ?_); refine goesL_ (some 29) rfl rfl Try.func19 (by kernel_rfl) rfl #[.string s0, .string a1, .string a2] rfl (by (try simp only [List.map_toArray, List.map_cons, List.map_nil]); first | done | rfl) ?_; (with_reducible refine (names_item.calls s0 a1 a2 q1 q2 _ _ A6.out ?sideG).mono ?_); (case sideG => exact gg_below HG.out HB.out); rintro e w9 ⟨rfl, hb⟩; refine ⟨_, rfl, ?_⟩; have n0_ := Aside0.mk (names_Fold_keep HO.out (names_Fold_low hb) (fun _ _ h_ => by cases h_)); have n1_ := Aside0.mk (HM.out.kept (names_Fold_low hb) (by simp)); have n2_ := Aside0.mk (below_step HB.out hb); clear HO HM HB hb; have HO := n0_; have HM := n1_; have HB := n2_; clear n0_ n1_ n2_) | ((with_reducible refine gate_dst (N := 16) rfl ?_); refine box_event ?hg (N := 16) ?hd (cs := #[.string (⟨#[]⟩ : ByteArray), .bool false]) (t := 38) ?hr ?_; (case hd => rfl); (case hg => rfl); (case hr => first | (go_simp; done) | (go_simp; rfl)); intro gb hg w10 hbox hb; have n0_ := Aside0.mk (names_Fold_keep HO.out (names_Fold_low hb) (fun _ _ h_ => by cases h_)); have n3_ : Aside0 (∀ k, u13.ownBlock = some k → some gb ≠ some k) := ⟨fun k hk he => by have h1 := own_lt HO.out k hk; injection he with he; omega⟩; have n4_ : Aside0 (gb ≠ w.heap.size) := ⟨fun he => by have h1 := HM.out.lt; omega⟩; have n1_ := Aside0.mk (HM.out.kept (names_Fold_low hb) (by simp)); have n5_ : Aside0 (w.heap.size ≤ gb) := ⟨by rw [hg]; exact HB.out.size⟩; have n2_ := Aside0.mk (below_step HB.out hb); have BK := Aside0.mk hbox; clear HO HM HB hb hg hbox; have HO := n0_; have HM := n1_; have HB := n2_; have HN := n3_; have HE := n4_; have HGE := n5_; clear n0_ n1_ n2_ n3_ n4_ n5_; have hcz11_0 : w10.cell? ⟨gb, 0, none⟩ = some (.string (⟨#[]⟩ : ByteArray)) := (blk_cell BK.out 0).trans rfl; have hcz11_1 : w10.cell? ⟨gb, 1, none⟩ = some (.bool false) := (blk_cell BK.out 1).trans rfl; have hfz11_0 := blk_frozen BK.out 0; have hfz11_1 := blk_frozen BK.out 1) | ((with_reducible refine gate_store (t := 38) (p := 16) rfl ?_); refine store_event (t := 38) (p := 16) (v := ?vo_w12) (w1 := ((w10.setCell ⟨gb, 0, none⟩ (.string q1)).setCell ⟨gb, 1, none⟩ (.bool q2))) ?hg ?ho ?hn ?hr ?_; (case ho => rfl); (case hg => rfl); (case hn => rfl); (case hr => first | (go_simp; done) | (go_simp; rfl)); intro w12 hw; have n0_ : Aside0 (w12.ownsRow w.heap.size 38 2 u13 acc.length (names_Fold_cells acc)) := ⟨by rw [hw]; exact names_Fold_keep HO.out (names_Fold_two _ _ _ _) HN.out⟩; have n1_ : Aside0 (w12.ownsMap Try.prog 38 (plainElem Try.prog 3) w.heap.size j D) := ⟨by rw [hw]; exact HM.out.kept (names_Fold_two _ _ _ _) (fun h_ => HE.out (by injection h_ with h_; exact h_.symm))⟩; have n2_ : Aside0 (w12.heap[gb]? = some (.cells #[.string q1, .bool q2] 38 (0, 0))) := ⟨by rw [hw]; refine blk_put (cs := #[.string q1, .bool false]) ?_ 1 _ rfl; refine blk_put (cs := #[.string (⟨#[]⟩ : ByteArray), .bool false]) ?_ 0 _ rfl; exact BK.out⟩; have n3_ : Aside0 (Below w.heap.size w w12) := ⟨by rw [hw]; exact below_set (below_set HB.out HGE.out) HGE.out⟩; clear hw HO HM HB BK; have HO := n0_; have HM := n1_; have BK := n2_; have HB := n3_; clear n0_ n1_ n2_ n3_; have hcz13_0 : w12.cell? ⟨gb, 0, none⟩ = some (.string q1) := (blk_cell BK.out 0).trans rfl; have hcz13_1 : w12.cell? ⟨gb, 1, none⟩ = some (.bool q2) := (blk_cell BK.out 1).trans rfl; have hfz13_0 := blk_frozen BK.out 0; have hfz13_1 := blk_frozen BK.out 1))
        exact ⟨⟨j + 1, acc, D, by go_num, by omega, HA, ⟨by have := HL.out; omega⟩, HO, ⟨HM.out.mono (by omega)⟩, ⟨fun x hx => let ⟨c, h1, h2, h3, h4⟩ := HX.out x hx; ⟨c, h1, h2, by omega, h4⟩⟩, HB⟩, by simp [intOf]; omega⟩
      | true =>
        rcases (Bool.eq_false_or_eq_true (Op.bytesLess a3.toList q1.toList)).symm with hbl | hbl
        · simp only [hbl, Bool.and_false, Bool.false_eq_true, if_false] at hA
          have HA := Aside0.mk hA
          clear hA
          go_wp2_with (first | ((with_reducible refine gate_callee (f := 19) rfl ?_); refine goesL_ (some 29) rfl rfl Try.func19 (by kernel_rfl) rfl #[.string s0, .string a1, .string a2] rfl (by (try simp only [List.map_toArray, List.map_cons, List.map_nil]); first | done | rfl) ?_; (with_reducible refine (names_item.calls s0 a1 a2 q1 q2 _ _ A6.out ?sideG).mono ?_); (case sideG => exact gg_below HG.out HB.out); rintro e w9 ⟨rfl, hb⟩; refine ⟨_, rfl, ?_⟩; have n0_ := Aside0.mk (names_Fold_keep HO.out (names_Fold_low hb) (fun _ _ h_ => by cases h_)); have n1_ := Aside0.mk (HM.out.kept (names_Fold_low hb) (by simp)); have n2_ := Aside0.mk (below_step HB.out hb); clear HO HM HB hb; have HO := n0_; have HM := n1_; have HB := n2_; clear n0_ n1_ n2_) | ((with_reducible refine gate_dst (N := 16) rfl ?_); refine box_event ?hg (N := 16) ?hd (cs := #[.string (⟨#[]⟩ : ByteArray), .bool false]) (t := 38) ?hr ?_; (case hd => rfl); (case hg => rfl); (case hr => first | (go_simp; done) | (go_simp; rfl)); intro gb hg w10 hbox hb; have n0_ := Aside0.mk (names_Fold_keep HO.out (names_Fold_low hb) (fun _ _ h_ => by cases h_)); have n3_ : Aside0 (∀ k, u13.ownBlock = some k → some gb ≠ some k) := ⟨fun k hk he => by have h1 := own_lt HO.out k hk; injection he with he; omega⟩; have n4_ : Aside0 (gb ≠ w.heap.size) := ⟨fun he => by have h1 := HM.out.lt; omega⟩; have n1_ := Aside0.mk (HM.out.kept (names_Fold_low hb) (by simp)); have n5_ : Aside0 (w.heap.size ≤ gb) := ⟨by rw [hg]; exact HB.out.size⟩; have n2_ := Aside0.mk (below_step HB.out hb); have BK := Aside0.mk hbox; clear HO HM HB hb hg hbox; have HO := n0_; have HM := n1_; have HB := n2_; have HN := n3_; have HE := n4_; have HGE := n5_; clear n0_ n1_ n2_ n3_ n4_ n5_; have hcz11_0 : w10.cell? ⟨gb, 0, none⟩ = some (.string (⟨#[]⟩ : ByteArray)) := (blk_cell BK.out 0).trans rfl; have hcz11_1 : w10.cell? ⟨gb, 1, none⟩ = some (.bool false) := (blk_cell BK.out 1).trans rfl; have hfz11_0 := blk_frozen BK.out 0; have hfz11_1 := blk_frozen BK.out 1) | ((with_reducible refine gate_store (t := 38) (p := 16) rfl ?_); refine store_event (t := 38) (p := 16) (v := ?vo_w12) (w1 := ((w10.setCell ⟨gb, 0, none⟩ (.string q1)).setCell ⟨gb, 1, none⟩ (.bool q2))) ?hg ?ho ?hn ?hr ?_; (case ho => rfl); (case hg => rfl); (case hn => rfl); (case hr => first | (go_simp; done) | (go_simp; rfl)); intro w12 hw; have n0_ : Aside0 (w12.ownsRow w.heap.size 38 2 u13 acc.length (names_Fold_cells acc)) := ⟨by rw [hw]; exact names_Fold_keep HO.out (names_Fold_two _ _ _ _) HN.out⟩; have n1_ : Aside0 (w12.ownsMap Try.prog 38 (plainElem Try.prog 3) w.heap.size j D) := ⟨by rw [hw]; exact HM.out.kept (names_Fold_two _ _ _ _) (fun h_ => HE.out (by injection h_ with h_; exact h_.symm))⟩; have n2_ : Aside0 (w12.heap[gb]? = some (.cells #[.string q1, .bool q2] 38 (0, 0))) := ⟨by rw [hw]; refine blk_put (cs := #[.string q1, .bool false]) ?_ 1 _ rfl; refine blk_put (cs := #[.string (⟨#[]⟩ : ByteArray), .bool false]) ?_ 0 _ rfl; exact BK.out⟩; have n3_ : Aside0 (Below w.heap.size w w12) := ⟨by rw [hw]; exact below_set (below_set HB.out HGE.out) HGE.out⟩; clear hw HO HM HB BK; have HO := n0_; have HM := n1_; have BK := n2_; have HB := n3_; clear n0_ n1_ n2_ n3_; have hcz13_0 : w12.cell? ⟨gb, 0, none⟩ = some (.string q1) := (blk_cell BK.out 0).trans rfl; have hcz13_1 : w12.cell? ⟨gb, 1, none⟩ = some (.bool q2) := (blk_cell BK.out 1).trans rfl; have hfz13_0 := blk_frozen BK.out 0; have hfz13_1 := blk_frozen BK.out 1))
          exact ⟨⟨j + 1, acc, D, by go_num, by omega, HA, ⟨by have := HL.out; omega⟩, HO, ⟨HM.out.mono (by omega)⟩, ⟨fun x hx => let ⟨c, h1, h2, h3, h4⟩ := HX.out x hx; ⟨c, h1, h2, by omega, h4⟩⟩, HB⟩, by simp [intOf]; omega⟩
        · simp only [hbl, Bool.and_self, if_true] at hA
          have HA := Aside0.mk hA
          clear hA
          go_wp2_with (first | ((with_reducible refine gate_callee (f := 19) rfl ?_); refine goesL_ (some 29) rfl rfl Try.func19 (by kernel_rfl) rfl #[.string s0, .string a1, .string a2] rfl (by (try simp only [List.map_toArray, List.map_cons, List.map_nil]); first | done | rfl) ?_; (with_reducible refine (names_item.calls s0 a1 a2 q1 q2 _ _ A6.out ?sideG).mono ?_); (case sideG => exact gg_below HG.out HB.out); rintro e w9 ⟨rfl, hb⟩; refine ⟨_, rfl, ?_⟩; have n0_ := Aside0.mk (names_Fold_keep HO.out (names_Fold_low hb) (fun _ _ h_ => by cases h_)); have n1_ := Aside0.mk (HM.out.kept (names_Fold_low hb) (by simp)); have n2_ := Aside0.mk (below_step HB.out hb); clear HO HM HB hb; have HO := n0_; have HM := n1_; have HB := n2_; clear n0_ n1_ n2_) | ((with_reducible refine gate_dst (N := 16) rfl ?_); refine box_event ?hg (N := 16) ?hd (cs := #[.string (⟨#[]⟩ : ByteArray), .bool false]) (t := 38) ?hr ?_; (case hd => rfl); (case hg => rfl); (case hr => first | (go_simp; done) | (go_simp; rfl)); intro gb hg w10 hbox hb; have n0_ := Aside0.mk (names_Fold_keep HO.out (names_Fold_low hb) (fun _ _ h_ => by cases h_)); have n3_ : Aside0 (∀ k, u13.ownBlock = some k → some gb ≠ some k) := ⟨fun k hk he => by have h1 := own_lt HO.out k hk; injection he with he; omega⟩; have n4_ : Aside0 (gb ≠ w.heap.size) := ⟨fun he => by have h1 := HM.out.lt; omega⟩; have n1_ := Aside0.mk (HM.out.kept (names_Fold_low hb) (by simp)); have n5_ : Aside0 (w.heap.size ≤ gb) := ⟨by rw [hg]; exact HB.out.size⟩; have n2_ := Aside0.mk (below_step HB.out hb); have BK := Aside0.mk hbox; clear HO HM HB hb hg hbox; have HO := n0_; have HM := n1_; have HB := n2_; have HN := n3_; have HE := n4_; have HGE := n5_; clear n0_ n1_ n2_ n3_ n4_ n5_; have hcz11_0 : w10.cell? ⟨gb, 0, none⟩ = some (.string (⟨#[]⟩ : ByteArray)) := (blk_cell BK.out 0).trans rfl; have hcz11_1 : w10.cell? ⟨gb, 1, none⟩ = some (.bool false) := (blk_cell BK.out 1).trans rfl; have hfz11_0 := blk_frozen BK.out 0; have hfz11_1 := blk_frozen BK.out 1) | ((with_reducible refine gate_store (t := 38) (p := 16) rfl ?_); refine store_event (t := 38) (p := 16) (v := ?vo_w12) (w1 := ((w10.setCell ⟨gb, 0, none⟩ (.string q1)).setCell ⟨gb, 1, none⟩ (.bool q2))) ?hg ?ho ?hn ?hr ?_; (case ho => rfl); (case hg => rfl); (case hn => rfl); (case hr => first | (go_simp; done) | (go_simp; rfl)); intro w12 hw; have n0_ : Aside0 (w12.ownsRow w.heap.size 38 2 u13 acc.length (names_Fold_cells acc)) := ⟨by rw [hw]; exact names_Fold_keep HO.out (names_Fold_two _ _ _ _) HN.out⟩; have n1_ : Aside0 (w12.ownsMap Try.prog 38 (plainElem Try.prog 3) w.heap.size j D) := ⟨by rw [hw]; exact HM.out.kept (names_Fold_two _ _ _ _) (fun h_ => HE.out (by injection h_ with h_; exact h_.symm))⟩; have n2_ : Aside0 (w12.heap[gb]? = some (.cells #[.string q1, .bool q2] 38 (0, 0))) := ⟨by rw [hw]; refine blk_put (cs := #[.string q1, .bool false]) ?_ 1 _ rfl; refine blk_put (cs := #[.string (⟨#[]⟩ : ByteArray), .bool false]) ?_ 0 _ rfl; exact BK.out⟩; have n3_ : Aside0 (Below w.heap.size w w12) := ⟨by rw [hw]; exact below_set (below_set HB.out HGE.out) HGE.out⟩; clear hw HO HM HB BK; have HO := n0_; have HM := n1_; have BK := n2_; have HB := n3_; clear n0_ n1_ n2_ n3_; have hcz13_0 : w12.cell? ⟨gb, 0, none⟩ = some (.string q1) := (blk_cell BK.out 0).trans rfl; have hcz13_1 : w12.cell? ⟨gb, 1, none⟩ = some (.bool q2) := (blk_cell BK.out 1).trans rfl; have hfz13_0 := blk_frozen BK.out 0; have hfz13_1 := blk_frozen BK.out 1))
          have hkey := names_Fold_keyed ⟨q1, q2⟩ HS.out
          obtain ⟨c0', hat0, hc0n, hcj, hciff⟩ := HX.out ⟨q1, q2⟩ HS.out
          obtain ⟨c, st, w1, hL1, hat, hE1, hL2, hS1⟩ := Entry.entry_law names_Fold_klaw Try.underlying43 Try.underlying3 names_Fold_zero HM.out.drew (by unfold maxLen; omega) hkey
          have hcc : c0' = c := by
            rw [hat] at hat0
            injection hat0 with h1
            injection h1 with _ h1
            exact h1.symm
          subst hcc
          have hwf : (Lit.int .i64 (c0' + 1)).wf = true := WalkArith.wf_i64 (by omega)
          obtain ⟨w2, hS2, hM2, hg2⟩ := hS1 (c0' + 1) hwf
          obtain ⟨c3, hL3, hat3, _⟩ := hM2.lookup_int (Go.Maps.Keyed.of_law names_Fold_klaw) Try.underlying43 Try.underlying3 (names_Fold_zero w2) hkey
          rw [Go.Maps.atKey_put_same (by obtain ⟨es, _, _, _, _, hD⟩ := HM.out; exact ⟨_, hD⟩) ((Go.Maps.Keyed.of_law names_Fold_klaw).key hkey)] at hat3
          have hc3 : c3 = c0' + 1 := by
            injection hat3 with h1
            injection h1 with _ h1
            exact h1.symm
          subst hc3
          have hE1' : (Instr.mapEntry 43 (.map (some w.heap.size)) (.agg #[.string q1, .bool q2])).run Try.prog w12.drew = .ok (.tuple #[.int .i64 c0', .int .i64 st]) w1 := hE1
          have hS2' : (Instr.entryStore 43 (.map (some w.heap.size)) (.int .i64 st) (.int .i64 (c0' + 1))).run Try.prog w1 = .ok () w2 := hS2
          have hBK2 : w2.heap[gb]? = some (.cells #[.string q1, .bool q2] 38 (0, 0)) := (hg2.block gb (Array.getElem?_eq_some_iff.1 BK.out).1 (fun h_ => HE.out (by injection h_))).trans BK.out
          have HNM : Aside0 (some w.heap.size ≠ u13.ownBlock) := ⟨fun he => by obtain ⟨cells, hcl⟩ := own_typed HO.out _ he.symm; obtain ⟨es, _, hbm, _⟩ := HM.out; rw [hbm] at hcl; cases hcl⟩
          have n0_ := Aside0.mk (names_Fold_keep (W := w12.drew) (show w12.drew.ownsRow w.heap.size 38 2 u13 acc.length (names_Fold_cells acc) from HO.out) hg2 (fun k hk he => by have h1 := own_typed HO.out k hk; obtain ⟨cells, hcl⟩ := h1; obtain ⟨es, _, hbm, _⟩ := HM.out; injection he with he; subst he; rw [hbm] at hcl; cases hcl))
          have n1_ := Aside0.mk ((below_drew1 HB.out).grown hg2 HB.out.size (fun k hk => by injection hk with hk; omega))
          have n2_ := Aside0.mk hM2
          have HX' : Aside0 (∀ x : S38, x.f0.size ≤ 9223372036854775807 → ∃ c : Int, (D.put (.string (keyBytes [.string q1.data.toList, .bool q2])) (.lit (.int .i64 (c0' + 1)))).atKey (.string (keyBytes [.string x.f0.data.toList, .bool x.f1])) (.lit (.int .i64 0)) = .lit (.int .i64 c) ∧ 0 ≤ c ∧ c ≤ ((j + 1 : Nat) : Int) ∧ (c = 0 ↔ x ∉ (if (⟨q1, q2⟩ : S38) ∈ acc then acc else acc ++ [⟨q1, q2⟩]))) := by
            refine ⟨fun x hx => ?_⟩
            by_cases hxq : x = ⟨q1, q2⟩
            · subst hxq
              refine ⟨c0' + 1, Go.Maps.atKey_put_same (by obtain ⟨es, _, _, _, _, hD⟩ := HM.out; exact ⟨_, hD⟩) ((Go.Maps.Keyed.of_law names_Fold_klaw).key hkey) _ _, by omega, by omega, ?_⟩
              constructor
              · intro h; omega
              · intro h; exact absurd (by split <;> simp_all) h
            · obtain ⟨c, h1, h2, h3, h4⟩ := HX.out x hx
              have hkx := names_Fold_keyed x hx
              have hne : Lit.string (keyBytes [.string x.f0.data.toList, .bool x.f1]) ≠ Lit.string (keyBytes [.string q1.data.toList, .bool q2]) := fun he => by
                rw [he] at hkx
                have h5 := names_Fold_klaw.inj hkx hkey
                apply hxq
                obtain ⟨x0, x1⟩ := x
                simp only [Value.agg.injEq, Array.mk.injEq, List.cons.injEq, Value.string.injEq, Value.bool.injEq, and_true] at h5
                rw [h5.1, h5.2]
              refine ⟨c, (Go.Maps.atKey_put_other hne _ _).trans h1, h2, by omega, h4.trans ?_⟩
              split
              · exact Iff.rfl
              · simp [hxq]
          have hcz2_0 : w2.cell? ⟨gb, 0, none⟩ = some (.string q1) := (blk_cell hBK2 0).trans rfl
          have hcz2_1 : w2.cell? ⟨gb, 1, none⟩ = some (.bool q2) := (blk_cell hBK2 1).trans rfl
          have hfz2_0 := blk_frozen hBK2 0
          have hfz2_1 := blk_frozen hBK2 1
          clear HO HB HM HX hE1 hS2 hS1 hat0 hat hat3 hkey hBK2
          have HO := n0_
          have HB := n1_
          have HM := n2_
          clear n0_ n1_ n2_
          obtain ⟨i0, hi0, hi1, hi2, hi3⟩ := info_parts (show (Try.prog.info? 38).map (fun i => (i.zero, i.size, i.bytes)) = some (some (.agg #[.string ⟨#[]⟩, .bool false]), 2, 24) by kernel_rfl)
          by_cases hz : c0' = 0
          · have hnin : (⟨q1, q2⟩ : S38) ∉ acc := hciff.1 hz
            have hz1 : (c0' + 1 == (1 : Int)) = true := by rw [hz]; rfl
            clear hz
            go_region
            go_wp2_with (at_builtin; refine wpList_append_own _ rfl _ _ 26 rfl w.heap.size 38 i0 (.agg #[.string ⟨#[]⟩, .bool false]) 2 24 Try.underlying26 hi0 hi1 hi2 hi3 rfl (by decide) _ acc.length (names_Fold_cells acc) rfl (names_Fold_keep HO.out (World.grownBy_alloc _ _ none) (fun _ _ h_ => by cases h_)) ⟨w2.heap.size, 0, none⟩ 1 1 [.string q1, .bool q2] rfl rfl (names_Fold_new w2 q1 q2) (by intro u hu; simp at hu; rcases hu with rfl | rfl <;> rfl) (by have := HL.out; unfold maxLen; omega) (by have := HL.out; omega) (by have := HB.out.size; simp; omega) ?_)
            intro v3 w3 ho3 hg3 hn3
            have hl3 : (acc ++ [(⟨q1, q2⟩ : S38)]).length = acc.length + 1 := by simp
            have hc3 : names_Fold_cells (acc ++ [⟨q1, q2⟩]) = names_Fold_cells acc ++ [.string q1, .bool q2] := by simp [names_Fold_cells, names_Fold_enc]
            rw [← hl3, ← hc3] at ho3
            have HO3 := Aside0.mk ho3
            have HM3 := Aside0.mk ((HM.out.alloc (.cells #[.string q1, .bool q2] 38)).kept hg3 HNM.out)
            have HB3 := Aside0.mk ((below_alloc HB.out (.cells #[.string q1, .bool q2] 38)).grown hg3 (by have := HB.out.size; simp; omega) (fun k hk => own_base HO.out k hk))
            clear ho3 hg3 hl3 hc3 hn3
            go_wp2
            exact ⟨⟨j + 1, acc ++ [⟨q1, q2⟩], _, by go_num, by omega, (by have h1 := HA.out; rw [if_neg hnin] at h1; exact ⟨h1⟩), ⟨by have := HL.out; simp; omega⟩, HO3, HM3, (by rw [if_neg hnin] at HX'; exact HX'), HB3⟩, by simp [intOf]; omega⟩
          · have hin : (⟨q1, q2⟩ : S38) ∈ acc := Classical.byContradiction fun h => hz (hciff.2 h)
            have hz1 : (c0' + 1 == (1 : Int)) = false := beq_eq_false_iff_ne.2 (by omega)
            go_region
            go_wp2_with fail
            exact ⟨⟨j + 1, acc, _, by go_num, by omega, (by have h1 := HA.out; rw [if_pos hin] at h1; exact ⟨h1⟩), ⟨by have := HL.out; omega⟩, HO, HM, (by rw [if_pos hin] at HX'; exact HX'), HB⟩, by simp [intOf]; omega⟩
    · obtain rfl : j = l0.length := by omega
      have hA := HA.out
      rw [List.drop_length, names_Fold_its] at hA
      cases hA
      have hfl : fin.length ≤ 1048576 := Nat.le_trans HL.out hl
      have hsl : (names_Fold_srt fin).length = fin.length := List.length_mergeSort fin
      clear HA HX HM
      obtain ⟨A, cap, hv, hcap⟩ := names_Fold_shape HO.out
      subst hv
      go_wp2_with (first | ((with_reducible refine gate_callee (f := 20) rfl ?_); refine goesL_ (some 56) rfl rfl Try.func20 (by kernel_rfl) rfl #[.slice A fin.length cap, .func (.func 21) #[] #[]] rfl (by (try simp only [List.map_toArray, List.map_cons, List.map_nil]); first | done | rfl) ?_; refine (names_Fold_sort _ _ _ fin HO.out hfl).mono ?_; rintro e w1 ⟨rfl, ho, hg⟩; refine ⟨_, rfl, ?_⟩; have n0_ := Aside0.mk ho; have n1_ := Aside0.mk (HB.out.grown hg HB.out.size (fun k_ hk_ => own_base HO.out k_ hk_)); clear HB HO ho hg; have HB := n1_; have HO := n0_; clear n0_ n1_))
      all_goals go_ret2
      all_goals have hF := HF.out
      · have hm : (max a4 0).toNat = 0 := by omega
        rw [if_pos (by omega), hm] at hF
        simp only [Prod.mk.injEq] at hF
        obtain ⟨rfl, rfl⟩ := hF
        exact ⟨_, rfl, names_Fold_view HO.out hsl 0 (by omega) _ (by omega), HB.out⟩
      · have hm : (max a4 0).toNat = a4.toNat := by omega
        have hm2 : a4.toNat ≤ fin.length := by split at * <;> omega
        rw [if_pos (by split at * <;> omega), hm] at hF
        simp only [Prod.mk.injEq] at hF
        obtain ⟨rfl, rfl⟩ := hF
        exact ⟨_, rfl, names_Fold_view HO.out hsl a4.toNat hm2 _ (Nat.le_refl _), HB.out⟩
      all_goals
        rw [if_neg (by split at * <;> omega)] at hF
        simp only [Prod.mk.injEq] at hF
        obtain ⟨rfl, rfl⟩ := hF
        exact ⟨_, rfl, by have := names_Fold_view HO.out hsl fin.length (Nat.le_refl _) cap hcap; rw [← hsl, List.take_length, hsl] at this; exact this, HB.out⟩
theorem names_Fold.calls (A0 : Option Addr) (c0 : Nat) (l0 : List ByteArray) (a1 a2 a3 : ByteArray) (a4 : Int) (r1 : List S38) (r2 : Bool) (w : World) (hr0 : Kd.C Kd.string w A0 l0.length l0) (hc0 : l0.length ≤ c0) (h : names_Fold.f l0 a1 a2 a3 a4 = some (r1, r2)) (hG : GG w) :
    Calls Try.prog 9 #[.slice A0 l0.length c0, .string a1, .string a2, .string a3, .int .i64 a4] w fun e w' => ∃ v0_ : Value, e = .returned (.tuple #[v0_, .bool r2]) ∧ Kd.V k38 38 w' w.heap.size (fun k_ => (w.heap.size ≤ k_)) v0_ r1 ∧ Below w.heap.size w w' := by
  unfold names_Fold.f at h
  split at h
  · rename_i hl
    obtain ⟨fin, hi, h⟩ := Option.bind_eq_some_iff.mp h
    exact names_Fold_walk A0 c0 l0 a1 a2 a3 a4 fin r1 r2 w hr0 hc0 hl hG hi (by split at h <;> (injection h with h; rw [← h]; first | rw [if_pos ‹_›] | rw [if_neg ‹_›]))
  · cases h

end Go.Proofs.Ytapkojfodhdnaaa.Hx
