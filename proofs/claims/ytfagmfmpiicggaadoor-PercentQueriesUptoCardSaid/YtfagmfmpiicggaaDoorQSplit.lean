/- Plain words: a text cut at a byte. No program. -/
import Derived.Lib.IndexAny
import Derived.Lib.IndexLaws
namespace Go.Proofs.YtfagmfmpiicggaaDoor.Q
open Go
/-- The pieces of a text between a byte's places. -/
def splitL (c : UInt8) : List UInt8 → List (List UInt8)
  | [] => [[]]
  | x :: l => if x == c then [] :: splitL c l else match splitL c l with
    | [] => [[x]]
    | p :: ps => (x :: p) :: ps
theorem splitL_hit (c x : UInt8) (l : List UInt8) (h : (x == c) = true) : splitL c (x :: l) = [] :: splitL c l := by
  rw [splitL, if_pos h]
theorem splitL_miss (c x : UInt8) (l p : List UInt8) (ps : List (List UInt8)) (h : (x == c) = false) (hs : splitL c l = p :: ps) : splitL c (x :: l) = (x :: p) :: ps := by
  rw [splitL, if_neg (by rw [h]; simp), hs]
theorem splitL_ne (c : UInt8) (l : List UInt8) : splitL c l ≠ [] := by
  cases l with
  | nil => simp [splitL]
  | cons x l =>
    unfold splitL
    split
    · simp
    · split <;> simp
theorem splitL_none (c : UInt8) : ∀ l : List UInt8, Lib.indexByte l c < 0 → splitL c l = [l]
  | [], _ => rfl
  | x :: l, h => by
    unfold Lib.indexByte at h
    cases hx : (x == c) with
    | true => rw [hx] at h; simp at h
    | false =>
      rw [hx] at h
      simp only [Bool.false_eq_true, if_false] at h
      have hge := Lib.indexByte_ge l c
      split at h
      · rename_i h1
        have h2 : Lib.indexByte l c = -1 := by simpa using h1
        have := splitL_none c l (by omega)
        exact splitL_miss c x l _ _ hx this
      · rename_i h1
        have : Lib.indexByte l c ≠ -1 := by simpa using h1
        omega
theorem splitL_some (c : UInt8) : ∀ (l : List UInt8) (i : Nat), Lib.indexByte l c = i → splitL c l = l.take i :: splitL c (l.drop (i + 1))
  | [], i, h => by simp [Lib.indexByte] at h
  | x :: l, i, h => by
    unfold Lib.indexByte at h
    cases hx : (x == c) with
    | true =>
      rw [hx] at h
      simp only [if_true] at h
      obtain rfl : i = 0 := by omega
      rw [splitL_hit c x l hx]
      simp
    | false =>
      rw [hx] at h
      simp only [Bool.false_eq_true, if_false] at h
      have hge := Lib.indexByte_ge l c
      split at h
      · omega
      · rename_i h1
        have h1 : Lib.indexByte l c ≠ -1 := by simpa using h1
        obtain ⟨j, rfl⟩ : ∃ j, i = j + 1 := ⟨i - 1, by omega⟩
        have := splitL_some c l j (by omega)
        rw [splitL_miss c x l _ _ hx this]
        simp
theorem splitL_length (c : UInt8) : ∀ l : List UInt8, (splitL c l).length = l.count c + 1
  | [] => rfl
  | x :: l => by
    have ih := splitL_length c l
    cases hx : (x == c) with
    | true =>
      rw [splitL_hit c x l hx]
      obtain rfl : x = c := by simpa using hx
      simp [ih]
    | false =>
      have : x ≠ c := by simpa using hx
      rw [List.count_cons_of_ne this]
      cases hs : splitL c l with
      | nil => exact absurd hs (splitL_ne c l)
      | cons p ps => rw [splitL_miss c x l p ps hx hs]; rw [hs] at ih; simpa using ih
theorem indexByte_lt (l : List UInt8) (c : UInt8) (i : Nat) (h : Lib.indexByte l c = i) : i < l.length := by
  have := (Lib.indexByte_some h).1
  rcases Nat.lt_or_ge i l.length with h1 | h1
  · exact h1
  · rw [List.getElem?_eq_none h1] at this; cases this
/-- A text cut at a byte's first place. -/
def cutB (c : UInt8) (l : List UInt8) : List UInt8 × List UInt8 := if Lib.indexByte l c < 0 then (l, []) else (l.take (Lib.indexByte l c).toNat, l.drop ((Lib.indexByte l c).toNat + 1))
theorem cutB_none (c : UInt8) (l : List UInt8) (h : Lib.indexByte l c < 0) : cutB c l = (l, []) := if_pos h
theorem cutB_some (c : UInt8) (l : List UInt8) (i : Nat) (h : Lib.indexByte l c = i) : cutB c l = (l.take i, l.drop (i + 1)) := by
  unfold cutB
  rw [h, if_neg (by omega)]
  simp
theorem cutB_length (c : UInt8) (l : List UInt8) : (cutB c l).1.length ≤ l.length ∧ (cutB c l).2.length ≤ l.length := by
  unfold cutB
  split <;> simp
  omega
end Go.Proofs.YtfagmfmpiicggaaDoor.Q
