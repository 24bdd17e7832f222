/- Layer 12, the plain side: strictly sorted lists, told by what is in them. No program in sight. -/
namespace Go.Proofs.Ytapkojfodhdnaaa.Pure
set_option linter.unusedVariables false
set_option linter.unusedSectionVars false
section
variable {α : Type} [DecidableEq α] (lt : α → α → Bool) (irr : ∀ a, lt a a = false) (tr : ∀ a b c, lt a b = true → lt b c = true → lt a c = true) (tot : ∀ a b, lt a b = false → lt b a = false → a = b)
include irr tr
omit [DecidableEq α] in
theorem sorted_ext : ∀ (l1 l2 : List α), l1.Pairwise (fun a b => lt a b = true) → l2.Pairwise (fun a b => lt a b = true) → (∀ x, x ∈ l1 ↔ x ∈ l2) → l1 = l2
  | [], [], _, _, _ => rfl
  | [], b :: t, _, _, h => by have := (h b).2 (by simp); cases this
  | a :: t, [], _, _, h => by have := (h a).1 (by simp); cases this
  | a :: t1, b :: t2, h1, h2, h => by
    rw [List.pairwise_cons] at h1 h2
    have hab : a = b := by
      rcases List.mem_cons.1 ((h a).1 (by simp)) with e | e
      · exact e
      · rcases List.mem_cons.1 ((h b).2 (by simp)) with e2 | e2
        · exact e2.symm
        · have := tr a b a (h1.1 b e2) (h2.1 a e)
          rw [irr] at this
          cases this
    subst hab
    congr 1
    refine sorted_ext t1 t2 h1.2 h2.2 (fun x => ?_)
    constructor
    · intro hx
      rcases List.mem_cons.1 ((h x).1 (List.mem_cons_of_mem _ hx)) with e | e
      · subst e
        have := h1.1 x hx
        rw [irr] at this
        cases this
      · exact e
    · intro hx
      rcases List.mem_cons.1 ((h x).2 (List.mem_cons_of_mem _ hx)) with e | e
      · subst e
        have := h2.1 x hx
        rw [irr] at this
        cases this
      · exact e
omit irr tr
/-- One put among others that lie in order. -/
def put1 (x : α) : List α → List α
  | [] => [x]
  | y :: l => if lt y x = true then y :: put1 x l else if y = x then y :: l else x :: y :: l
theorem put1_mem (x : α) : ∀ (l : List α) (z : α), z ∈ put1 lt x l ↔ z = x ∨ z ∈ l
  | [], z => by simp [put1]
  | y :: l, z => by
    rw [put1]
    split
    · rw [List.mem_cons, put1_mem x l z, List.mem_cons]
      constructor
      · rintro (h | h | h)
        · exact .inr (.inl h)
        · exact .inl h
        · exact .inr (.inr h)
      · rintro (h | h | h)
        · exact .inr (.inl h)
        · exact .inl h
        · exact .inr (.inr h)
    · split
      · rename_i h
        subst h
        constructor
        · exact .inr
        · rintro (h | h)
          · rw [h]; simp
          · exact h
      · simp
include irr tr tot
theorem put1_sorted (x : α) : ∀ (l : List α), l.Pairwise (fun a b => lt a b = true) → (put1 lt x l).Pairwise (fun a b => lt a b = true)
  | [], _ => by simp [put1]
  | y :: l, h => by
    rw [put1]
    rw [List.pairwise_cons] at h
    split
    · rename_i hyx
      rw [List.pairwise_cons]
      refine ⟨fun z hz => ?_, put1_sorted x l h.2⟩
      rcases (put1_mem lt x l z).1 hz with e | e
      · rw [e]; exact hyx
      · exact h.1 z e
    · rename_i hyx
      split
      · rw [List.pairwise_cons]; exact h
      · rename_i hne
        have hxy : lt x y = true := by
          cases hq : lt x y with
          | true => rfl
          | false => exact absurd (tot y x (by simpa using hyx) hq) hne
        rw [List.pairwise_cons, List.pairwise_cons]
        refine ⟨fun z hz => ?_, h.1, h.2⟩
        rcases List.mem_cons.1 hz with e | e
        · rw [e]; exact hxy
        · exact tr x y z hxy (h.1 z e)
/-- Many, one after the other. -/
theorem put_all (l : List α) : ∀ (acc : List α), acc.Pairwise (fun a b => lt a b = true) → (l.foldl (fun a x => put1 lt x a) acc).Pairwise (fun a b => lt a b = true) ∧ ∀ z, z ∈ l.foldl (fun a x => put1 lt x a) acc ↔ z ∈ l ∨ z ∈ acc := by
  induction l with
  | nil => intro acc h; exact ⟨h, fun z => by simp⟩
  | cons x l ih =>
    intro acc h
    obtain ⟨h1, h2⟩ := ih (put1 lt x acc) (put1_sorted lt irr tr tot x acc h)
    refine ⟨h1, fun z => ?_⟩
    rw [List.foldl_cons, h2 z, put1_mem lt x acc z, List.mem_cons]
    constructor
    · rintro (h | h | h)
      · exact .inl (.inr h)
      · exact .inl (.inl h)
      · exact .inr h
    · rintro ((h | h) | h)
      · exact .inr (.inl h)
      · exact .inl h
      · exact .inr (.inr h)
end
/-- Each one once, in the order of its first coming. -/
def once {α : Type} [DecidableEq α] : List α → List α → List α
  | acc, [] => acc
  | acc, x :: l => if x ∈ acc then once acc l else once (acc ++ [x]) l
theorem once_mem {α : Type} [DecidableEq α] : ∀ (l acc : List α) (z : α), z ∈ once acc l ↔ z ∈ acc ∨ z ∈ l
  | [], acc, z => by simp [once]
  | x :: l, acc, z => by
    rw [once]
    split
    · rename_i h
      rw [once_mem l acc z, List.mem_cons]
      constructor
      · rintro (h1 | h1)
        · exact .inl h1
        · exact .inr (.inr h1)
      · rintro (h1 | h1 | h1)
        · exact .inl h1
        · rw [h1]; exact .inl h
        · exact .inr h1
    · rw [once_mem l (acc ++ [x]) z, List.mem_append, List.mem_singleton, List.mem_cons]
      constructor
      · rintro ((h1 | h1) | h1)
        · exact .inl h1
        · exact .inr (.inl h1)
        · exact .inr (.inr h1)
      · rintro (h1 | h1 | h1)
        · exact .inl (.inl h1)
        · exact .inl (.inr h1)
        · exact .inr h1
theorem once_nodup {α : Type} [DecidableEq α] : ∀ (l acc : List α), acc.Nodup → (once acc l).Nodup
  | [], _, h => h
  | x :: l, acc, h => by
    rw [once]
    split
    · exact once_nodup l acc h
    · rename_i hx
      refine once_nodup l _ ?_
      rw [List.nodup_append]
      exact ⟨h, by simp, fun a ha b hb => by rintro rfl; exact hx (List.mem_singleton.1 hb ▸ ha)⟩
theorem strict_sort {α : Type} [DecidableEq α] (lt : α → α → Bool) (irr : ∀ a, lt a a = false) (tr : ∀ a b c, lt a b = true → lt b c = true → lt a c = true) (tot : ∀ a b, lt a b = false → lt b a = false → a = b) (l : List α) (hn : l.Nodup) :
    (l.mergeSort fun x y => !lt y x).Pairwise (fun a b => lt a b = true) ∧ ∀ z, z ∈ (l.mergeSort fun x y => !lt y x) ↔ z ∈ l := by
  have asym : ∀ a b, lt a b = true → lt b a = false := fun a b h => by
    cases hq : lt b a with
    | false => rfl
    | true => have := tr a b a h hq; rw [irr] at this; cases this
  have h1 := List.pairwise_mergeSort (le := fun x y => !lt y x) (fun a b c hab hbc => by
    simp only [Bool.not_eq_true'] at hab hbc ⊢
    cases hq : lt c a with
    | false => rfl
    | true =>
      by_cases hbc' : lt b c = true
      · have := tr b c a hbc' hq
        rw [hab] at this; cases this
      · have e := tot b c (by simpa using hbc') hbc
        subst e
        rw [hab] at hq; cases hq) (fun a b => by
    cases hq : lt b a with
    | false => simp
    | true => simp [asym b a hq]) l
  have h2 : (l.mergeSort fun x y => !lt y x).Nodup := (List.mergeSort_perm l _).nodup_iff.2 hn
  refine ⟨?_, fun z => (List.mergeSort_perm l _).mem_iff⟩
  have h3 := h1.and h2
  refine h3.imp ?_
  rintro a b ⟨hab, hne⟩
  simp only [Bool.not_eq_true'] at hab
  cases hq : lt a b with
  | true => rfl
  | false => exact absurd (tot a b hq hab) hne
end Go.Proofs.Ytapkojfodhdnaaa.Pure
