/- Layer 12, the plain side: the law NamesOrder. No program in sight. -/
import Derived.Test.YtapkojfodhdnaaaPureND
import Derived.Test.YtapkojfodhdnaaaHx15
namespace Go.Proofs.Ytapkojfodhdnaaa.Pure
open Go.RowKit Go.Proofs.Ytapkojfodhdnaaa.Hx Go.Proofs.YtapkojfodhdnaaaW.PrintWords Go.Proofs.YtapkojfodhdnaaaW.PrintLast Go.Proofs.YtapkojfodhdnaaaW.PrintMore
set_option linter.unusedVariables false
set_option linter.unusedSimpArgs false
theorem allIn_perm (p d : ByteArray) (l m : List ByteArray) (h : ∀ k, k ∈ l ↔ k ∈ m) : allIn p d l [] = allIn p d m [] :=
  sorted_ext lt names_Fold_irr names_Fold_tr _ _ (allIn_spec p d l).1 (allIn_spec p d m).1 (fun z => by
    rw [(allIn_spec p d l).2 z, (allIn_spec p d m).2 z]
    constructor
    · rintro ⟨k, h1, h2⟩; exact ⟨k, (h k).1 h1, h2⟩
    · rintro ⟨k, h1, h2⟩; exact ⟨k, (h k).2 h1, h2⟩)
theorem rd_get (l : List It) (i : Nat) (h : i < l.length) : rd_T38 l (i : Int) = l[i] := by
  unfold rd_T38
  rw [Int.toNat_natCast, List.getD_eq_getElem?_getD, List.getElem?_eq_getElem h]; rfl
theorem order_same (l : List It) (hl : l.length ≤ 1048576) : ∀ n i k, i + n = l.length → n + 4000000 < k → stowagelaw12_NamesOrder.l1 k l l (i : Int) = some true := by
  intro n
  induction n with
  | zero =>
    intro i k hi hk
    obtain ⟨k, rfl⟩ : ∃ j, k = j + 1 := ⟨k - 1, by omega⟩
    rw [stowagelaw12_NamesOrder.l1, if_neg (by omega), awake_true k (by omega)]; rfl
  | succ n ih =>
    intro i k hi hk
    obtain ⟨k, rfl⟩ : ∃ j, k = j + 1 := ⟨k - 1, by omega⟩
    have hil : i < l.length := by omega
    have hw1 : wrap64 ((i : Int) + 1) = ((i + 1 : Nat) : Int) := by rw [IntWalk.wrap64_in _ (by omega)]; omega
    rw [stowagelaw12_NamesOrder.l1, if_pos (by omega), if_pos (by omega), if_pos (by omega), rd_get l i hil, beq_self_eq_true, beq_self_eq_true, if_neg (by simp), hw1]
    exact ih (i + 1) k (by omega) (by omega)
theorem tmod_in (t : Int) (n : Nat) (h0 : 0 < n) (hn : n ≤ 1000) (ht : (Lit.int .i64 t).wf = true) : ∃ j : Nat, j < n ∧ Int.tmod (wrap64 ((Int.tmod t (n : Int)) + (n : Int))) (n : Int) = (j : Int) := by
  have h1 : -(n : Int) < Int.tmod t n := by
    have := Int.lt_tmod_of_pos t (show (0 : Int) < n by omega)
    omega
  have h2 : Int.tmod t n < (n : Int) := Int.tmod_lt_of_pos t (by omega)
  have h3 : wrap64 (Int.tmod t n + (n : Int)) = Int.tmod t n + n := IntWalk.wrap64_in _ (by omega)
  have h4 := Int.tmod_lt_of_pos (Int.tmod t n + (n : Int)) (show (0 : Int) < n by omega)
  have h5 : 0 ≤ Int.tmod (Int.tmod t n + (n : Int)) n := Int.tmod_nonneg _ (by omega)
  refine ⟨(Int.tmod (Int.tmod t n + (n : Int)) n).toNat, by omega, ?_⟩
  rw [h3]
  omega
theorem order_loop (ks : List ByteArray) (t : Int) (ht : (Lit.int .i64 t).wf = true) (p d a : ByteArray) (m : Int) (hks : ∀ k ∈ ks, k.size ≤ 1048576) (hp : p.size ≤ 1048576) (hd : d.size ≤ 1048576) (hl : ks.length ≤ 100) (h0 : 0 < ks.length) :
    ∀ i k (acc : List ByteArray), i ≤ ks.length → i + 4000200 < k → acc = (ks.drop i).reverse → stowagelaw12_NamesOrder.l0 k ks t acc ((i : Int) - 1) p d a m = some true := by
  intro i
  induction i with
  | zero =>
    intro k acc hi hk hacc
    obtain ⟨k, rfl⟩ : ∃ j, k = j + 2 := ⟨k - 2, by omega⟩
    obtain ⟨j, hj, hje⟩ := tmod_in t ks.length h0 (by omega) ht
    have hal : acc.length = ks.length := by rw [hacc]; simp
    rw [stowagelaw12_NamesOrder.l0, if_neg (by omega), if_neg (by omega), hje, if_pos (by omega), if_pos (by omega), if_pos (by rw [hal]; omega), rdOf_get ks j hj]
    have hmem : ∀ k, k ∈ ks ↔ k ∈ acc ++ [ks[j]] := by
      intro x
      rw [hacc]
      simp only [List.drop_zero, List.mem_append, List.mem_reverse, List.mem_singleton]
      constructor
      · exact .inl
      · rintro (h | h)
        · exact h
        · rw [h]; exact List.getElem_mem hj
    have hks2 : ∀ x ∈ acc ++ [ks[j]], x.size ≤ 1048576 := fun x hx => hks x ((hmem x).2 hx)
    have hsame : listed (acc ++ [ks[j]]) p d a m = listed ks p d a m := by
      unfold listed
      rw [allIn_perm p d ks _ hmem]
    have hll := listed_length ks p d a m
    rw [names_Fold_eq ks p d a m hks hp hd (by omega), Option.bind_some, names_Fold_eq _ p d a m hks2 hp hd (by simp [hal]; omega), Option.bind_some, hsame]
    have hbn : (((listed ks p d a m).1.length : Int) != ((listed ks p d a m).1.length : Int)) = false := by simp
    rw [if_neg (by simp), hbn, stowagelaw12_NamesOrder.j2, if_neg (by simp)]
    exact order_same (listed ks p d a m).1 (by omega) (listed ks p d a m).1.length 0 k (by omega) (by omega)
  | succ i ih =>
    intro k acc hi hk hacc
    obtain ⟨k, rfl⟩ : ∃ j, k = j + 1 := ⟨k - 1, by omega⟩
    have hw1 : wrap64 ((((i + 1 : Nat) : Int) - 1) - 1) = (i : Int) - 1 := by rw [IntWalk.wrap64_in _ (by omega)]; omega
    have e1 : (((i + 1 : Nat) : Int) - 1) = (i : Int) := by omega
    have hal : acc.length ≤ 100 := by rw [hacc]; simp; omega
    rw [stowagelaw12_NamesOrder.l0, hw1, e1, if_pos (by omega), if_pos (by omega), if_pos (by omega), if_pos (by omega), rdOf_get ks i (by omega)]
    exact ih k _ (by omega) (by omega) (by rw [hacc, List.drop_eq_getElem_cons (show i < ks.length by omega), List.reverse_cons])
theorem NamesOrder_true (ks : List ByteArray) (p d a : ByteArray) (m t : Int) (hks : ∀ k ∈ ks, k.size ≤ 1048576) (hp : p.size ≤ 1048576) (hd : d.size ≤ 1048576) (ht : (Lit.int .i64 t).wf = true) : ∃ k, stowagelaw12_NamesOrder.f k ks p d a m t = some true := by
  refine ⟨4001000, ?_⟩
  unfold stowagelaw12_NamesOrder.f
  by_cases hl : ks.length ≤ 100
  · rw [if_neg (by omega), stowagelaw12_NamesOrder.j0]
    by_cases h0 : ks.length = 0
    · rw [if_pos (by simp [h0]), awake_true _ (by omega)]; rfl
    · rw [if_neg (by simp; exact fun h => h0 (by rw [h]; rfl)), IntWalk.wrap64_in _ (by omega)]
      exact order_loop ks t ht p d a m hks hp hd hl (by omega) ks.length _ [] (by omega) (by omega) (by simp)
  · rw [if_pos (by omega), stowagelaw12_NamesOrder.j0, if_pos rfl, awake_true _ (by omega)]; rfl
end Go.Proofs.Ytapkojfodhdnaaa.Pure
