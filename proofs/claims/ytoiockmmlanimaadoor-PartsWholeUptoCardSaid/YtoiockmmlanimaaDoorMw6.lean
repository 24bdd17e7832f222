/- Merged of several texts of this session's by merge.py. -/
import Derived.ChangeArms
import Derived.Deep.Slices
import Derived.Test.YtoiockmmlanimaaDoorMw1
import Derived.Test.YtoiockmmlanimaaDoorRows
import Derived.Laws.CopyRow
import Derived.Laws.AppendOwn
import Derived.Lib.AppendZerosOnto
import Derived.Lib.Overlaps
section
/- An argument's reading, kind by kind: what the form's reader gives of a value (bools, whole numbers, strings, structs, slices, nested as they like) is what the printer's kinds ask; with it, the bounds that the form's reach and the bulk give. No program of this seat's. -/
namespace Go.Proofs.YtoiockmmlanimaaDoor.KO
open Go.Proofs.YtoiockmmlanimaaDoorW.PrintWords Go.Deep

def WT {H : Type} (P : Program) (t : TypeId) (x : DataW H) : Prop := ∀ m ∈ DataW.weights P t x, m ≤ reachBytes

/-- What a reading of type t gives: a datum of the kind d; what the reach says of it; its bulk. -/
structure Opens (P : Program) (t : TypeId) {α : Type} (d : Kd α) (L : α → Prop) (bk : α → Nat) : Prop where
  out : ∀ {H : Type} (enc : TypeId × Value → H) (w : World) (base : Nat) (spare : Nat → Bool) (held : Bool) (fuel : Nat) (cs : List Value) (x : DataW H × List MemPlace),
    DataW.trod enc P w base spare held fuel t cs = some x → ∃ y, d.K w y cs ∧ (WT P t x.1 → L y) ∧ bk y ≤ Rows.uptoBulk x.1

theorem opens_int {P : Program} {t : TypeId} {k : IntKind} (ht : P.underlying t = some (.int k)) : Opens P t (Kd.int k) (fun n => (Lit.int k n).wf = true) (fun _ => 1) := ⟨by
  intro H enc w base spare held fuel cs x h
  obtain ⟨n, rfl, rfl, hw⟩ := DataW.trod_int ht h
  exact ⟨n, rfl, fun _ => hw, by simp [Rows.uptoBulk]⟩⟩
theorem opens_bool {P : Program} {t : TypeId} (ht : P.underlying t = some .bool) : Opens P t Kd.bool (fun _ => True) (fun _ => 1) := ⟨by
  intro H enc w base spare held fuel cs x h
  obtain ⟨n, rfl, rfl⟩ := DataW.trod_bool ht h
  exact ⟨n, rfl, fun _ => trivial, by simp [Rows.uptoBulk]⟩⟩
theorem opens_string {P : Program} {t : TypeId} (ht : P.underlying t = some .string) : Opens P t Kd.string (fun s => s.size ≤ reachBytes) (fun s => s.size + 1) := ⟨by
  intro H enc w base spare held fuel cs x h
  obtain ⟨s, rfl, rfl, hm⟩ := DataW.trod_string ht h
  refine ⟨s, rfl, fun hw => ?_, ?_⟩
  · have := hw s.data.toList.length (by simp [DataW.weights])
    simpa using this
  · simp [Rows.uptoBulk]⟩

theorem weightsAll_mem {H : Type} {P : Program} {e : TypeId} {m : Nat} : ∀ {l : List (DataW H)} {x : DataW H}, x ∈ l → m ∈ DataW.weights P e x → m ∈ DataW.weightsAll P e l
  | y :: l, x, hx, hm => by
    rw [DataW.weightsAll, List.mem_append]
    rcases List.mem_cons.1 hx with rfl | hx
    · exact .inl hm
    · exact .inr (weightsAll_mem hx hm)
theorem bulkAll_eq {H : Type} : ∀ l : List (DataW H), Rows.uptoBulkAll l = (l.map Rows.uptoBulk).sum
  | [] => by simp [Rows.uptoBulkAll]
  | x :: l => by rw [Rows.uptoBulkAll, bulkAll_eq l]; simp
theorem cells_at {w : World} {base : Nat} {a : Addr} {n : Nat} {cs : List Value} (h : w.cells? base a n = some cs) : cs.length = n ∧ ∀ i u, cs[i]? = some u → w.cell? (a.add i) = some u := by
  obtain ⟨_, hl, hc⟩ := World.cells?_some h
  refine ⟨hl, fun i u hu => ?_⟩
  have hi : i < n := by
    rcases Nat.lt_or_ge i cs.length with h0 | h0
    · omega
    · rw [List.getElem?_eq_none h0] at hu; cases hu
  rw [hc i hi, hu]
theorem add_add (a : Addr) (i j : Nat) : (a.add i).add j = a.add (i + j) := by
  unfold Addr.add
  by_cases h0 : i = 0
  · subst h0; simp
  · by_cases h1 : j = 0
    · subst h1; simp
    · rw [if_neg h1, if_neg h0, if_neg (by omega)]
      simp [Nat.add_assoc]
theorem sum_le {α β : Type} (f : α → Nat) (g : β → Nat) : ∀ (l : List α) (m : List β), l.length = m.length → (∀ (i : Nat) (x : α) (y : β), l[i]? = some x → m[i]? = some y → f x ≤ g y) → (l.map f).sum ≤ (m.map g).sum
  | [], [], _, _ => by simp
  | x :: l, y :: m, hl, h => by
    have h0 := h 0 x y rfl rfl
    have h1 := sum_le f g l m (by simpa using hl) (fun i a b ha hb => h (i + 1) a b ha hb)
    simp only [List.map_cons, List.sum_cons]
    omega
  | [], _ :: _, hl, _ => by simp at hl
  | _ :: _, [], hl, _ => by simp at hl
theorem choose_list {α : Type} {Q : Nat → α → Prop} : ∀ n, (∀ i, i < n → ∃ y, Q i y) → ∃ ys : List α, ys.length = n ∧ ∀ (i : Nat) (y : α), ys[i]? = some y → Q i y
  | 0, _ => ⟨[], rfl, fun i y h => by simp at h⟩
  | n + 1, h => by
    obtain ⟨ys, hl, hq⟩ := choose_list n (fun i hi => h i (by omega))
    obtain ⟨y, hy⟩ := h n (by omega)
    refine ⟨ys ++ [y], by simp [hl], fun i z hz => ?_⟩
    rcases Nat.lt_or_ge i n with hi | hi
    · rw [List.getElem?_append_left (by omega)] at hz
      exact hq i z hz
    · rw [List.getElem?_append_right (by omega)] at hz
      have : i - ys.length = 0 := by
        rcases Nat.eq_zero_or_pos (i - ys.length) with h0 | h0
        · exact h0
        · rw [List.getElem?_eq_none (by simp; omega)] at hz; cases hz
      rw [this] at hz
      obtain rfl : y = z := by simpa using hz
      obtain rfl : i = n := by omega
      exact hy

theorem opens_slice {P : Program} {t e : TypeId} {α : Type} {d : Kd α} {L : α → Prop} {bk : α → Nat} {b : Nat} (ht : P.underlying t = some (.slice e)) (he : Opens P e d L bk) (hs : P.cellsOf e = d.sz) (hb : P.bytesOf e = b) :
    Opens P t (Kd.slice e d) (fun ys => ys.length * b ≤ reachBytes ∧ ∀ y ∈ ys, L y) (fun ys => (ys.map bk).sum + 1) := ⟨by
  intro H enc w base spare held fuel cs x h
  rcases open_slice ht h with ⟨rfl, rfl⟩ | ⟨a, len, cap, m, n, D, Pl, rfl, _, hlc, hcm, hm, rfl, hx⟩
  · exact ⟨[], ⟨none, 0, rfl, by simp, by simp, by simp, fun h0 => by simp at h0⟩, fun _ => ⟨by simp, fun y hy => by simp at hy⟩, by simp [Rows.uptoBulk]⟩
  · have hlm : len ≤ m := by rw [hm]; split <;> omega
    obtain ⟨ys, hyl, hys⟩ := choose_list (Q := fun i y => (∃ c, c.length = d.sz ∧ d.K w y c ∧ ∀ j u, c[j]? = some u → w.cell? (a.add (i * d.sz + j)) = some u) ∧ (WT P e (D i) → L y) ∧ bk y ≤ Rows.uptoBulk (D i)) len (fun i hi => by
      obtain ⟨cs', hc, ht'⟩ := hx i (by omega)
      obtain ⟨y, hK, hL, hB⟩ := he.out enc w base spare held n cs' _ ht'
      obtain ⟨hl, hat⟩ := cells_at hc
      refine ⟨y, ⟨cs', d.K_len hK, hK, fun j u hu => ?_⟩, hL, hB⟩
      have := hat j u hu
      rw [hs] at this
      rw [← this, add_add])
    refine ⟨ys, ⟨some a, cap, by rw [hyl], by omega, by rw [hyl], by have : maxLen = 9223372036854775807 := rfl; omega, fun _ => ⟨a, rfl, fun j p hp => ?_⟩⟩, fun hw => ⟨?_, fun y hy => ?_⟩, ?_⟩
    · obtain ⟨⟨c, h1, h2, h3⟩, _⟩ := hys j p hp
      exact ⟨c, h1, h2, h3⟩
    · have := hw ((((List.range len).map D).length + ((List.range (m - len)).map fun j => D (len + j)).length) * P.bytesOf e) (by simp [DataW.weights, ht])
      rw [hb] at this
      refine Nat.le_trans (Nat.mul_le_mul_right _ ?_) this
      simp [hyl]
    · obtain ⟨i, hi⟩ := List.mem_iff_getElem?.1 hy
      obtain ⟨_, hL, _⟩ := hys i y hi
      have hil : i < len := by
        rcases Nat.lt_or_ge i ys.length with h0 | h0
        · omega
        · rw [List.getElem?_eq_none h0] at hi; cases hi
      refine hL (fun k hk => hw k ?_)
      simp only [DataW.weights, ht, List.mem_cons, List.mem_append]
      refine .inr (.inl (weightsAll_mem (List.mem_map.2 ⟨i, by simpa using hil, rfl⟩) hk))
    · simp only [Rows.uptoBulk, bulkAll_eq]
      have := sum_le bk Rows.uptoBulk ys ((List.range len).map D) (by simp [hyl]) (fun i y z hy hz => by
        obtain ⟨_, _, hB⟩ := hys i y hy
        rw [List.getElem?_map] at hz
        obtain ⟨j, hj, rfl⟩ := Option.map_eq_some_iff.1 hz
        have : j = i := by
          rw [List.getElem?_range] at hj
          · exact (Option.some.inj hj).symm
          · rcases Nat.lt_or_ge i len with h0 | h0
            · exact h0
            · rw [List.getElem?_eq_none (by simpa using h0)] at hj; cases hj
        subst this
        exact hB)
      omega⟩

/-- A struct's fields from one on. -/
structure OpensFs (P : Program) (off : Nat) (fs : List Field) (tot : Nat) {α : Type} (d : Kd α) (L : α → Prop) (bk : α → Nat) : Prop where
  out : ∀ {H : Type} (enc : TypeId × Value → H) (w : World) (base : Nat) (spare : Nat → Bool) (held : Bool) (fuel : Nat) (cs : List Value) (xs : List (DataW H × List MemPlace)),
    xs.length = fs.length → (∀ (i : Nat) (f : Field), fs[i]? = some f → DataW.trod enc P w base spare held fuel f.type ((cs.drop f.offset).take (P.cellsOf f.type)) = xs[i]?) → cs.length = tot →
    ∃ y, d.K w y (cs.drop off) ∧ ((∀ m ∈ DataW.weightsEach P (fs.map (·.type)) (xs.map (·.1)), m ≤ reachBytes) → L y) ∧ bk y ≤ Rows.uptoBulkAll (xs.map (·.1))
theorem opens_last {P : Program} {off tot : Nat} {f : Field} {α : Type} {d : Kd α} {L : α → Prop} {bk : α → Nat} (ho : f.offset = off) (h : Opens P f.type d L bk) (hc : off + P.cellsOf f.type = tot) : OpensFs P off [f] tot d L bk := ⟨by
  intro H enc w base spare held fuel cs xs hl hx hcs
  match xs, hl with
  | [x], _ =>
    have h0 := hx 0 f rfl
    simp only [List.getElem?_cons_zero] at h0
    rw [ho, List.take_of_length_le (by rw [List.length_drop]; omega)] at h0
    obtain ⟨y, hK, hL, hB⟩ := h.out enc w base spare held fuel _ _ h0
    exact ⟨y, hK, fun hw => hL (fun m hm => hw m (by simp [DataW.weightsEach, hm])), by simpa [Rows.uptoBulkAll] using hB⟩⟩
theorem opens_cons {P : Program} {off off' tot : Nat} {f : Field} {fs : List Field} {α β : Type} {d : Kd α} {L : α → Prop} {bk : α → Nat} {d' : Kd β} {L' : β → Prop} {bk' : β → Nat} (ho : f.offset = off) (h : Opens P f.type d L bk) (hc : off + P.cellsOf f.type = off') (hr : OpensFs P off' fs tot d' L' bk') :
    OpensFs P off (f :: fs) tot (Kd.pair d d') (fun y => L y.1 ∧ L' y.2) (fun y => bk y.1 + bk' y.2) := ⟨by
  intro H enc w base spare held fuel cs xs hl hx hcs
  match xs, hl with
  | x :: xs, hl =>
    have h0 := hx 0 f rfl
    simp only [List.getElem?_cons_zero] at h0
    rw [ho] at h0
    obtain ⟨y, hK, hL, hB⟩ := h.out enc w base spare held fuel _ _ h0
    obtain ⟨z, hK', hL', hB'⟩ := hr.out enc w base spare held fuel cs xs (by simpa using hl) (fun i g hg => hx (i + 1) g hg) hcs
    refine ⟨(y, z), ⟨_, _, ?_, hK, hK'⟩, fun hw => ⟨hL (fun m hm => hw m ?_), hL' (fun m hm => hw m ?_)⟩, ?_⟩
    · rw [← hc, ← List.drop_drop, List.take_append_drop]
    · simp only [List.map_cons, DataW.weightsEach, List.mem_append]; exact .inl hm
    · simp only [List.map_cons, DataW.weightsEach, List.mem_append]; exact .inr hm
    · simp only [List.map_cons, Rows.uptoBulkAll]; omega⟩
theorem opens_struct {P : Program} {t : TypeId} {fs : Array Field} {α β : Type} {d : Kd α} {L : α → Prop} {bk : α → Nat} (f : β → α) (g : α → β) (hfg : ∀ a, f (g a) = a) (ht : P.underlying t = some (.struct fs)) (h : OpensFs P 0 fs.toList (P.cellsOf t) d L bk) :
    Opens P t (Kd.iso d f) (fun y => L (f y)) (fun y => bk (f y) + 1) := ⟨by
  intro H enc w base spare held fuel cs x hx
  obtain ⟨xs, n, rfl, rfl, hl, hxl, hat⟩ := DataW.trod_struct ht hx
  obtain ⟨y, hK, hL, hB⟩ := h.out enc w base spare held n cs xs (by simpa using hxl) (fun i f hf => hat i f (by simpa using hf)) hl
  refine ⟨g y, ?_, fun hw => ?_, ?_⟩
  · show d.K w (f (g y)) cs
    rw [hfg]
    simpa using hK
  · show L (f (g y))
    rw [hfg]
    exact hL (fun m hm => hw m (by simpa [DataW.weights, ht] using hm))
  · show bk (f (g y)) + 1 ≤ _
    rw [hfg]
    simp only [Rows.uptoBulk]
    omega⟩
end Go.Proofs.YtoiockmmlanimaaDoor.KO
end
section
namespace Go.Proofs.YtoiockmmlanimaaDoor.RowK
open Go
set_option linter.unusedVariables false
set_option linter.unusedSimpArgs false

theorem run_copy_rowK {P : Program} (w : World) (dT sT ty elem : TypeId) (k g o dLen dCap : Nat) (a : Addr) (sLen sCap n : Nat) (cur : Array Value) (t : TypeId) (cs : List Value)
    (hu : P.underlying dT = some (.slice elem)) (hs : (P.info? elem).map (·.size) = some k)
    (hg : w.heap[g]? = some (.cells cur t (0, 0))) (hn : n = Nat.min sLen dLen) (hcl : cs.length = n * k)
    (hsrc : ∀ j v, cs[j]? = some v → w.cell? (a.add j) = some v) (hfit : o + cs.length ≤ cur.size) (h1 : ∀ v ∈ cs, v.oneCell' = true) :
    (Builtin.copy_ #[dT, sT] ty #[.slice (some ⟨g, o, none⟩) dLen dCap, .slice (some a) sLen sCap]).run P w =
      .ok (goInt n) (w.setRow g (cur.toList.take o ++ cs ++ cur.toList.drop (o + cs.length)).toArray) := by
  have hl := run_loadCells_list (P := P) w a cs hsrc
  rw [hcl] at hl
  have hst := run_storeCells_at P g o t cs 0 cur w hg (by simpa using hfit) h1
  cases hq : P.info? elem with
  | none => simp [hq] at hs
  | some i =>
    have hi : i.size = k := by simpa [hq] using hs
    simp [Builtin.copy_, run_underlying hu, Builtin.lenOf, Builtin.firstCells, sizeOf, typeInfo, hq, hi, ← hn, hl, hst]

theorem setRow_other (w : World) (g : Nat) (cs : Array Value) (k : Nat) (h : k ≠ g) : (w.setRow g cs).heap[k]? = w.heap[k]? := by
  unfold World.setRow
  simp only [Array.getElem?_modify]
  rw [if_neg (fun e => h e.symm)]

theorem ownsRow_low {w : World} {base base' size n : Nat} {e : TypeId} {v : Value} {xs : List Value} (h : w.ownsRow base e size v n xs) (hb : base' ≤ base) : w.ownsRow base' e size v n xs := by
  refine ⟨h.1, ?_⟩
  rcases h.2 with h2 | ⟨g, cap, cur, e1, e2, e3⟩
  · exact .inl h2
  · exact .inr ⟨g, cap, cur, e1, Nat.le_trans hb e2, e3⟩

theorem put_mid (A Z B vs : List Value) : ∀ (p : Nat), A.length = p → vs.length ≤ Z.length → (A ++ Z).take p ++ vs ++ (A ++ Z).drop (p + vs.length) = A ++ vs ++ Z.drop vs.length := by
  intro p hp hz
  subst hp
  rw [List.take_left, List.drop_append]
  simp

/-- room: the tail goes up by k, the new ones in. -/
theorem shift_list (cur xs vs : List Value) (p q k : Nat) (hx : cur.take q = xs) (hp : p ≤ q) (hq : q + k ≤ cur.length) (hv : vs.length = k) (hk : p + k ≤ q + k)
    (d1 : List Value) (hd1 : d1 = cur.take (p + k) ++ xs.drop p ++ cur.drop (p + k + (xs.drop p).length))
    (d2 : List Value) (hd2 : d2 = d1.take p ++ vs ++ d1.drop (p + vs.length)) :
    d2.take (q + k) = xs.take p ++ vs ++ xs.drop p ∧ d2.length = cur.length ∧ d1.length = cur.length := by
  have hxl : xs.length = q := by rw [← hx, List.length_take]; omega
  have hA : xs.take p = cur.take p := by rw [← hx, List.take_take, Nat.min_eq_left hp]
  obtain ⟨B, hB⟩ : ∃ B, xs.drop p = B := ⟨_, rfl⟩
  have hBl : B.length = q - p := by rw [← hB, List.length_drop, hxl]
  obtain ⟨R, hR⟩ : ∃ R, cur.drop (p + k + B.length) = R := ⟨_, rfl⟩
  have hRl : R.length = cur.length - (p + k + B.length) := by rw [← hR, List.length_drop]
  have ht : cur.take (p + k) = cur.take p ++ (cur.drop p).take k := by rw [List.take_add]
  obtain ⟨A, hA'⟩ : ∃ A, cur.take p = A := ⟨_, rfl⟩
  have hAl : A.length = p := by rw [← hA', List.length_take]; omega
  obtain ⟨S, hS⟩ : ∃ S, (cur.drop p).take k = S := ⟨_, rfl⟩
  have hSl : S.length = k := by rw [← hS, List.length_take, List.length_drop]; omega
  rw [hB, hR, ht, hA', hS] at hd1
  rw [hA, hA', hB]
  have e1 : d1.take p = A := by rw [hd1, List.append_assoc, List.append_assoc, List.take_left' hAl]
  have e2 : d1.drop (p + vs.length) = B ++ R := by
    rw [hd1, List.append_assoc (A ++ S), List.drop_left' (by rw [List.length_append]; omega)]
  rw [e1, e2] at hd2
  refine ⟨?_, ?_, ?_⟩
  · rw [hd2, ← List.append_assoc, List.take_left' (by simp only [List.length_append]; omega)]
  · rw [hd2]; simp only [List.length_append]; omega
  · rw [hd1]; simp only [List.length_append]; omega

/-- no room: a new row. -/
theorem grow_list (xs vs Z cur d1 d2 : List Value) (p q k : Nat) (hxl : xs.length = q) (hp : p ≤ q) (hv : vs.length = k) (hcur : cur = xs.take p ++ Z) (hz : q + k - p ≤ Z.length)
    (hd1 : d1 = cur.take p ++ vs ++ cur.drop (p + vs.length)) (hd2 : d2 = d1.take (p + k) ++ xs.drop p ++ d1.drop (p + k + (xs.drop p).length)) :
    d2.take (q + k) = xs.take p ++ vs ++ xs.drop p ∧ d2.length = cur.length ∧ d1.length = cur.length := by
  obtain ⟨A, hA⟩ : ∃ A, xs.take p = A := ⟨_, rfl⟩
  have hAl : A.length = p := by rw [← hA, List.length_take]; omega
  obtain ⟨B, hB⟩ : ∃ B, xs.drop p = B := ⟨_, rfl⟩
  have hBl : B.length = q - p := by rw [← hB, List.length_drop, hxl]
  rw [hA] at hcur ⊢
  rw [hB] at hd2 ⊢
  have e1 : cur.take p = A := by rw [hcur, List.take_left' hAl]
  rw [e1] at hd1
  have hcl : cur.length = p + Z.length := by rw [hcur, List.length_append, hAl]
  have e2 : d1.take (p + k) = A ++ vs := by rw [hd1, List.take_left' (by rw [List.length_append]; omega)]
  have e3 : d1.length = cur.length := by rw [hd1]; simp only [List.length_append, List.length_drop]; omega
  rw [e2] at hd2
  refine ⟨?_, ?_, e3⟩
  · rw [hd2, List.take_left' (by simp only [List.length_append]; omega)]
  · rw [hd2]; simp only [List.length_append, List.length_drop]; omega
end Go.Proofs.YtoiockmmlanimaaDoor.RowK
end
