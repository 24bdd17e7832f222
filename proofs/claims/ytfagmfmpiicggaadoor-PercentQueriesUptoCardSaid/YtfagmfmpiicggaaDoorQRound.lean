/- Plain words: pairs' text read again. No program. -/
import Derived.Lib.Join
import Derived.Test.YtfagmfmpiicggaaDoorQPercent
import Derived.Test.YtfagmfmpiicggaaDoorQSplit
namespace Go.Proofs.YtfagmfmpiicggaaDoor.Q
open Go
theorem escB_signs (c : UInt8) : ∀ x ∈ escB 0 c, x ≠ 38 ∧ x ≠ 61 := by
  have H : ∀ n < 256, ∀ x ∈ escB 0 (UInt8.ofNat n), x ≠ 38 ∧ x ≠ 61 := by decide +kernel
  have := H c.toNat c.toNat_lt
  rwa [UInt8.ofNat_toNat] at this
theorem escL_signs (l : List UInt8) : ∀ x ∈ escL 0 l, x ≠ 38 ∧ x ≠ 61 := by
  intro x hx
  obtain ⟨c, _, hc⟩ := List.mem_flatMap.1 hx
  exact escB_signs c x hc
theorem escL_ne {l : List UInt8} (h : l ≠ []) (more : Int) : escL more l ≠ [] := by
  intro e
  have := (escL_length more l).1
  rw [e] at this
  exact h (List.length_eq_zero_iff.1 (by simpa using this))
/-- A pair's text. -/
def itemL (n v : List UInt8) : List UInt8 := escL 0 n ++ (if v = [] then [] else 61 :: escL 0 v)
theorem itemL_no38 (n v : List UInt8) : ∀ x ∈ itemL n v, x ≠ 38 := by
  intro x hx
  unfold itemL at hx
  rcases List.mem_append.1 hx with h | h
  · exact (escL_signs n x h).1
  · split at h
    · cases h
    · rcases List.mem_cons.1 h with rfl | h
      · decide
      · exact (escL_signs v x h).1
theorem splitL_app (c : UInt8) : ∀ (a l : List UInt8), (∀ x ∈ a, x ≠ c) → splitL c (a ++ c :: l) = a :: splitL c l
  | [], l, _ => splitL_hit c c l (by simp)
  | x :: a, l, h => by
    have hx : (x == c) = false := by simpa using h x (by simp)
    exact splitL_miss c x _ _ _ hx (splitL_app c a l fun y hy => h y (by simp [hy]))
theorem splitL_self (c : UInt8) : ∀ (a : List UInt8), (∀ x ∈ a, x ≠ c) → splitL c a = [a]
  | [], _ => rfl
  | x :: a, h => by
    have hx : (x == c) = false := by simpa using h x (by simp)
    exact splitL_miss c x _ _ _ hx (splitL_self c a fun y hy => h y (by simp [hy]))
theorem join_cons2 (x y : List UInt8) (l : List (List UInt8)) (sep : List UInt8) : Lib.join (x :: y :: l) sep = x ++ (sep ++ Lib.join (y :: l) sep) := by
  simp [Lib.join, List.intercalate, List.intersperse]
theorem splitL_join (c : UInt8) : ∀ (l : List (List UInt8)), l ≠ [] → (∀ a ∈ l, ∀ x ∈ a, x ≠ c) → splitL c (Lib.join l [c]) = l
  | [], h, _ => absurd rfl h
  | [a], _, h => by rw [Lib.join_one]; exact splitL_self c a (h a (by simp))
  | a :: b :: l, _, h => by
    rw [join_cons2]
    show splitL c (a ++ c :: Lib.join (b :: l) [c]) = _
    rw [splitL_app c a _ (h a (by simp)), splitL_join c (b :: l) (by simp) fun a' ha' => h a' (by simp [ha'])]
theorem indexByte_app (c : UInt8) : ∀ (a l : List UInt8), (∀ x ∈ a, x ≠ c) → Lib.indexByte (a ++ c :: l) c = (a.length : Int)
  | [], l, _ => by simp [Lib.indexByte]
  | x :: a, l, h => by
    have hx : (x == c) = false := by simpa using h x (by simp)
    have ih := indexByte_app c a l fun y hy => h y (by simp [hy])
    rw [List.cons_append, Lib.indexByte, hx, ih]
    simp only [Bool.false_eq_true, if_false]
    rw [if_neg (by simp)]
    simp
theorem indexByte_none (c : UInt8) : ∀ (a : List UInt8), (∀ x ∈ a, x ≠ c) → Lib.indexByte a c = -1
  | [], _ => rfl
  | x :: a, h => by
    have hx : (x == c) = false := by simpa using h x (by simp)
    have ih := indexByte_none c a fun y hy => h y (by simp [hy])
    rw [Lib.indexByte, hx, ih]
    rfl
theorem cutB_item (n v : List UInt8) : cutB 61 (itemL n v) = (escL 0 n, escL 0 v) := by
  unfold itemL
  have hs := fun x hx => (escL_signs n x hx).2
  by_cases hv : v = []
  · rw [if_pos hv, List.append_nil, cutB_none _ _ (by rw [indexByte_none _ _ hs]; omega), hv]
    rfl
  · rw [if_neg hv, cutB_some _ _ _ (indexByte_app 61 _ _ hs)]
    simp
theorem join_ne (l : List (List UInt8)) (hl : l ≠ []) (h : ∀ a ∈ l, a ≠ []) (sep : List UInt8) : Lib.join l sep ≠ [] := by
  match l with
  | [] => exact absurd rfl hl
  | [a] => rw [Lib.join_one]; exact h a (by simp)
  | a :: b :: l => rw [join_cons2]; simp [h a (by simp)]
theorem itemL_ne {n : List UInt8} (h : n ≠ []) (v : List UInt8) : itemL n v ≠ [] := by
  unfold itemL
  simp [escL_ne h]
theorem itemL_length (n v : List UInt8) : (itemL n v).length ≤ 3 * n.length + 3 * v.length + 1 := by
  unfold itemL
  have h1 := (escL_length 0 n).2
  have h2 := (escL_length 0 v).2
  rw [List.length_append]
  split
  · simp; omega
  · simp; omega
theorem readL_ne (bar : List UInt8) (plus : Bool) (c : UInt8) (l r : List UInt8) (h : readL bar plus (c :: l) = some r) : r ≠ [] := by
  unfold readL at h
  split at h
  · match l with
    | [] => simp at h
    | [_] => simp at h
    | a :: b :: l' =>
      simp only at h
      split at h
      · obtain ⟨q, _, rfl⟩ := Option.map_eq_some_iff.1 h
        simp
      · simp at h
  · split at h
    · simp at h
    · obtain ⟨q, _, rfl⟩ := Option.map_eq_some_iff.1 h
      simp
end Go.Proofs.YtfagmfmpiicggaaDoor.Q
