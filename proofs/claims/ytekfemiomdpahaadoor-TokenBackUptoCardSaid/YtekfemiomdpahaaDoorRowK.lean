import Derived.Laws.CopyRow
import Derived.Laws.AppendOwn
import Derived.Lib.AppendZerosOnto
import Derived.Lib.Overlaps
namespace Go.Proofs.YtekfemiomdpahaaDoor.RowK
open Go
set_option linter.unusedVariables false
set_option linter.unusedSimpArgs false

theorem run_copy_rowK {P : Program} (w : World) (dT sT ty elem : TypeId) (k g o dLen dCap : Nat) (a : Addr) (sLen sCap n : Nat) (cur : Array Value) (t : TypeId) (cs : List Value)
    (hu : P.underlying dT = some (.slice elem)) (hs : (P.info? elem).map (·.size) = some k)
    (hg : w.heap[g]? = some (.cells cur t (0, 0))) (hn : n = Nat.min sLen dLen) (hcl : cs.length = n * k)
    (hsrc : ∀ j v, cs[j]? = some v → w.cell? (a.add j) = some v) (hfit : o + cs.length ≤ cur.size) (h1 : ∀ v ∈ cs, v.oneCell' = true) :
    (Builtin.copy_ #[dT, sT] ty #[.slice (some ⟨g, o, none⟩) dLen dCap, .slice (some a) sLen sCap]).run P w =
      .ok (goInt n) (w.setRow g (cur.toList.take o ++ cs ++ cur.toList.drop (o + cs.length)).toArray) := by
  have hl := run_loadCells_list (P := P) w a cs hsrc
  rw [hcl] at hl
  have hst := run_storeCells_at P g o t cs 0 cur w hg (by simpa using hfit) h1
  cases hq : P.info? elem with
  | none => simp [hq] at hs
  | some i =>
    have hi : i.size = k := by simpa [hq] using hs
    simp [Builtin.copy_, run_underlying hu, Builtin.lenOf, Builtin.firstCells, sizeOf, typeInfo, hq, hi, ← hn, hl, hst]

theorem setRow_other (w : World) (g : Nat) (cs : Array Value) (k : Nat) (h : k ≠ g) : (w.setRow g cs).heap[k]? = w.heap[k]? := by
  unfold World.setRow
  simp only [Array.getElem?_modify]
  rw [if_neg (fun e => h e.symm)]

theorem ownsRow_low {w : World} {base base' size n : Nat} {e : TypeId} {v : Value} {xs : List Value} (h : w.ownsRow base e size v n xs) (hb : base' ≤ base) : w.ownsRow base' e size v n xs := by
  refine ⟨h.1, ?_⟩
  rcases h.2 with h2 | ⟨g, cap, cur, e1, e2, e3⟩
  · exact .inl h2
  · exact .inr ⟨g, cap, cur, e1, Nat.le_trans hb e2, e3⟩

theorem put_mid (A Z B vs : List Value) : ∀ (p : Nat), A.length = p → vs.length ≤ Z.length → (A ++ Z).take p ++ vs ++ (A ++ Z).drop (p + vs.length) = A ++ vs ++ Z.drop vs.length := by
  intro p hp hz
  subst hp
  rw [List.take_left, List.drop_append]
  simp

/-- room: the tail goes up by k, the new ones in. -/
theorem shift_list (cur xs vs : List Value) (p q k : Nat) (hx : cur.take q = xs) (hp : p ≤ q) (hq : q + k ≤ cur.length) (hv : vs.length = k) (hk : p + k ≤ q + k)
    (d1 : List Value) (hd1 : d1 = cur.take (p + k) ++ xs.drop p ++ cur.drop (p + k + (xs.drop p).length))
    (d2 : List Value) (hd2 : d2 = d1.take p ++ vs ++ d1.drop (p + vs.length)) :
    d2.take (q + k) = xs.take p ++ vs ++ xs.drop p ∧ d2.length = cur.length ∧ d1.length = cur.length := by
  have hxl : xs.length = q := by rw [← hx, List.length_take]; omega
  have hA : xs.take p = cur.take p := by rw [← hx, List.take_take, Nat.min_eq_left hp]
  obtain ⟨B, hB⟩ : ∃ B, xs.drop p = B := ⟨_, rfl⟩
  have hBl : B.length = q - p := by rw [← hB, List.length_drop, hxl]
  obtain ⟨R, hR⟩ : ∃ R, cur.drop (p + k + B.length) = R := ⟨_, rfl⟩
  have hRl : R.length = cur.length - (p + k + B.length) := by rw [← hR, List.length_drop]
  have ht : cur.take (p + k) = cur.take p ++ (cur.drop p).take k := by rw [List.take_add]
  obtain ⟨A, hA'⟩ : ∃ A, cur.take p = A := ⟨_, rfl⟩
  have hAl : A.length = p := by rw [← hA', List.length_take]; omega
  obtain ⟨S, hS⟩ : ∃ S, (cur.drop p).take k = S := ⟨_, rfl⟩
  have hSl : S.length = k := by rw [← hS, List.length_take, List.length_drop]; omega
  rw [hB, hR, ht, hA', hS] at hd1
  rw [hA, hA', hB]
  have e1 : d1.take p = A := by rw [hd1, List.append_assoc, List.append_assoc, List.take_left' hAl]
  have e2 : d1.drop (p + vs.length) = B ++ R := by
    rw [hd1, List.append_assoc (A ++ S), List.drop_left' (by rw [List.length_append]; omega)]
  rw [e1, e2] at hd2
  refine ⟨?_, ?_, ?_⟩
  · rw [hd2, ← List.append_assoc, List.take_left' (by simp only [List.length_append]; omega)]
  · rw [hd2]; simp only [List.length_append]; omega
  · rw [hd1]; simp only [List.length_append]; omega

/-- no room: a new row. -/
theorem grow_list (xs vs Z cur d1 d2 : List Value) (p q k : Nat) (hxl : xs.length = q) (hp : p ≤ q) (hv : vs.length = k) (hcur : cur = xs.take p ++ Z) (hz : q + k - p ≤ Z.length)
    (hd1 : d1 = cur.take p ++ vs ++ cur.drop (p + vs.length)) (hd2 : d2 = d1.take (p + k) ++ xs.drop p ++ d1.drop (p + k + (xs.drop p).length)) :
    d2.take (q + k) = xs.take p ++ vs ++ xs.drop p ∧ d2.length = cur.length ∧ d1.length = cur.length := by
  obtain ⟨A, hA⟩ : ∃ A, xs.take p = A := ⟨_, rfl⟩
  have hAl : A.length = p := by rw [← hA, List.length_take]; omega
  obtain ⟨B, hB⟩ : ∃ B, xs.drop p = B := ⟨_, rfl⟩
  have hBl : B.length = q - p := by rw [← hB, List.length_drop, hxl]
  rw [hA] at hcur ⊢
  rw [hB] at hd2 ⊢
  have e1 : cur.take p = A := by rw [hcur, List.take_left' hAl]
  rw [e1] at hd1
  have hcl : cur.length = p + Z.length := by rw [hcur, List.length_append, hAl]
  have e2 : d1.take (p + k) = A ++ vs := by rw [hd1, List.take_left' (by rw [List.length_append]; omega)]
  have e3 : d1.length = cur.length := by rw [hd1]; simp only [List.length_append, List.length_drop]; omega
  rw [e2] at hd2
  refine ⟨?_, ?_, e3⟩
  · rw [hd2, List.take_left' (by simp only [List.length_append]; omega)]
  · rw [hd2]; simp only [List.length_append, List.length_drop]; omega
end Go.Proofs.YtekfemiomdpahaaDoor.RowK
