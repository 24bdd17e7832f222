/- Layer 12, the plain side: the law NamesPages. No program in sight. -/
import Derived.Test.YtapkojfodhdnaaaPureND
import Derived.Test.YtapkojfodhdnaaaHx14
namespace Go.Proofs.Ytapkojfodhdnaaa.Pure
open Go.RowKit Go.Proofs.Ytapkojfodhdnaaa.Hx Go.Proofs.YtapkojfodhdnaaaW.PrintWords Go.Proofs.YtapkojfodhdnaaaW.PrintLast Go.Proofs.YtapkojfodhdnaaaW.PrintMore
set_option linter.unusedVariables false
set_option linter.unusedSimpArgs false
abbrev less (x y : It) : Prop := Op.bytesLess x.f0.toList y.f0.toList = true
theorem strict_names : ∀ (S : List It), Srt S → (∀ i, (h : i + 1 < S.length) → S[i].f0.toList ≠ S[i + 1].f0.toList) → S.Pairwise less
  | [], _, _ => .nil
  | [a], _, _ => by simp
  | a :: b :: l, hs, hd => by
    have hs : _ ∧ Srt (b :: l) := List.pairwise_cons.1 hs
    have ih := strict_names (b :: l) hs.2 (fun i h => by have := hd (i + 1) (by simpa using h); simpa using this)
    have hab : less a b := by
      have h1 := hs.1 b (by simp)
      have h2 := hd 0 (by simp)
      simp only [List.getElem_cons_zero, List.getElem_cons_succ] at h2
      rw [lt_def] at h1
      have h3 : (a.f0.toList == b.f0.toList) = false := beq_eq_false_iff_ne.2 h2
      rw [h3, Bool.false_and, Bool.or_false] at h1
      exact h1
    rw [List.pairwise_cons]
    refine ⟨fun c hc => ?_, ih⟩
    rcases List.mem_cons.1 hc with rfl | hc
    · exact hab
    · exact Ord.bl_trans _ _ _ hab ((List.pairwise_cons.1 ih).1 c hc)
theorem filter_drop (p : It → Bool) (S : List It) (g : Nat) (hg : g ≤ S.length) (h1 : ∀ i, (h : i < S.length) → i < g → p S[i] = false) (h2 : ∀ i, (h : i < S.length) → g ≤ i → p S[i] = true) : S.filter p = S.drop g := by
  conv => lhs; rw [← List.take_append_drop g S]
  rw [List.filter_append]
  have e1 : (S.take g).filter p = [] := by
    rw [List.filter_eq_nil_iff]
    intro x hx
    obtain ⟨i, hi, rfl⟩ := List.mem_iff_getElem.1 hx
    rw [List.length_take] at hi
    rw [List.getElem_take, h1 i (by omega) (by omega)]
    simp
  have e2 : (S.drop g).filter p = S.drop g := by
    rw [List.filter_eq_self]
    intro x hx
    obtain ⟨i, hi, rfl⟩ := List.mem_iff_getElem.1 hx
    rw [List.length_drop] at hi
    rw [List.getElem_drop, h2 (g + i) (by omega) (by omega)]
  rw [e1, e2, List.nil_append]
theorem less_nil (l : List UInt8) (h : l ≠ []) : Op.bytesLess [] l = true := by
  cases l with
  | nil => exact absurd rfl h
  | cons a l => rfl
def standing (S : List It) (g : Nat) (after : ByteArray) : Prop := (g = 0 ∧ after = ⟨#[]⟩) ∨ ∃ h : g - 1 < S.length, 0 < g ∧ after = S[g - 1].f0
theorem rest_eq (S : List It) (hs : S.Pairwise less) (hn : ∀ x ∈ S, x.f0.toList ≠ []) (g : Nat) (hg : g ≤ S.length) (after : ByteArray) (ha : standing S g after) : S.filter (good after) = S.drop g := by
  rw [List.pairwise_iff_getElem] at hs
  rcases ha with ⟨rfl, rfl⟩ | ⟨h, h0, rfl⟩
  · refine filter_drop _ S 0 (by omega) (fun i h hi => by omega) (fun i h _ => ?_)
    unfold good
    rw [show (⟨#[]⟩ : ByteArray).toList = [] from by rw [ByteArray.toList_eq]]
    exact less_nil _ (hn _ (List.getElem_mem h))
  · refine filter_drop _ S g hg (fun i h1 hi => ?_) (fun i h1 hi => hs (g - 1) i h h1 (by omega))
    unfold good
    by_cases he : i = g - 1
    · subst he; exact Ord.bl_irrefl _
    · have h2 := hs i (g - 1) h1 h (by omega)
      rw [Bool.eq_false_iff]
      intro h3
      have h4 := Ord.bl_trans _ _ _ h2 h3
      rw [Ord.bl_irrefl] at h4
      cases h4
theorem one_to_five (v : Int) : ∃ N : Nat, 1 ≤ N ∧ N ≤ 5 ∧ wrap64 (1 + (Int.tmod (wrap64 ((Int.tmod v 5) + 5)) 5)) = (N : Int) := by
  have h1 : -5 < Int.tmod v 5 := by
    have := Int.lt_tmod_of_pos v (show (0 : Int) < 5 by omega)
    omega
  have h2 : Int.tmod v 5 < 5 := Int.tmod_lt_of_pos v (by omega)
  have h3 : wrap64 (Int.tmod v 5 + 5) = Int.tmod v 5 + 5 := IntWalk.wrap64_in _ (by omega)
  have h4 := Int.tmod_lt_of_pos (Int.tmod v 5 + 5) (show (0 : Int) < 5 by omega)
  have h5 : 0 ≤ Int.tmod (Int.tmod v 5 + 5) 5 := Int.tmod_nonneg _ (by omega)
  refine ⟨(1 + Int.tmod (Int.tmod v 5 + 5) 5).toNat, by omega, by omega, ?_⟩
  rw [h3, IntWalk.wrap64_in _ (by omega)]
  omega
theorem pages_loop (ks : List ByteArray) (most : List Int) (p d a : ByteArray) (m : Int) (hks : ∀ k ∈ ks, k.size ≤ 1048576) (hp : p.size ≤ 1048576) (hd : d.size ≤ 1048576) (hl : ks.length ≤ 1000)
    (S : List It) (hS : S = allIn p d ks []) (hs : S.Pairwise less) (hn : ∀ x ∈ S, x.f0.toList ≠ []) :
    ∀ n i g k (after : ByteArray), S.length - g ≤ n → g ≤ S.length → i ≤ g → standing S g after → 3 * n + 4000010 < k → stowagelaw12_NamesPages.l1 k ks most (S.map cv) (S.take g) after (i : Int) p d a m = some true := by
  have hSl : S.length ≤ 1000 := by have := allIn_length p d ks []; rw [← hS] at this; simp at this; omega
  intro n
  induction n with
  | zero =>
    intro i g k after hn0 hg hi ha hk
    have step : ∀ N : Nat, 1 ≤ N → ∀ k, 4000000 < k → stowagelaw12_NamesPages.j2 k ks most (S.map cv) (S.take g) after (i : Int) (N : Int) p d a m = some true := by
      intro N hN k hk
      obtain ⟨k, rfl⟩ : ∃ j, k = j + 2 := ⟨k - 2, by omega⟩
      have hge : g = S.length := by omega
      have hrest := rest_eq S hs hn g hg after ha
      have hL : listed ks p d after N = ([], false) := by
        unfold listed
        rw [← hS, hrest, hge, List.drop_length]
        unfold page
        rw [if_neg (by first | (simp; done) | (simp; omega))]
      rw [stowagelaw12_NamesPages.j2, names_Fold_eq ks p d after N hks hp hd hl, Option.bind_some, hL, hge, List.take_length]
      simp only [List.append_nil]
      rw [if_pos (by simp only [List.length_nil]; omega), Option.bind_some, if_neg (by simp), if_neg (by simp), stowagelaw12_NamesPages.j3, if_neg (by simp), if_neg (by simp), awake_true k (by omega), Option.bind_some, if_pos rfl, same_eq S (by omega) k (by omega)]
      rfl
    obtain ⟨k, rfl⟩ : ∃ j, k = j + 1 := ⟨k - 1, by omega⟩
    rw [stowagelaw12_NamesPages.l1, if_pos (by rw [List.length_map]; omega)]
    by_cases h0 : 0 < most.length
    · have t1 : 0 ≤ Int.tmod (i : Int) (most.length : Int) := Int.tmod_nonneg _ (by omega)
      have t2 : Int.tmod (i : Int) (most.length : Int) < (most.length : Int) := Int.tmod_lt_of_pos _ (by omega)
      obtain ⟨N, hN1, hN5, hNe⟩ := one_to_five (rd most (Int.tmod (i : Int) (most.length : Int)))
      rw [if_pos (by omega), if_neg (by omega), if_pos t1, if_pos t2, hNe]
      exact step N hN1 k (by omega)
    · rw [if_neg (by omega)]
      exact step 1 (by omega) k (by omega)
  | succ n ih =>
    intro i g k after hn0 hg hi ha hk
    by_cases hsmall : S.length - g ≤ n
    · exact ih i g k after hsmall hg hi ha (by omega)
    have step : ∀ N : Nat, 1 ≤ N → N ≤ 5 → ∀ k, 3 * n + 4000012 < k → stowagelaw12_NamesPages.j2 k ks most (S.map cv) (S.take g) after (i : Int) (N : Int) p d a m = some true := by
      intro N hN hN5 k hk
      obtain ⟨k, rfl⟩ : ∃ j, k = j + 2 := ⟨k - 2, by omega⟩
      have hrest := rest_eq S hs hn g hg after ha
      have hmax : (max (N : Int) 0).toNat = N := by omega
      by_cases hmore : N < S.length - g
      · have htl : ((S.drop g).take N).length = N := by rw [List.length_take, List.length_drop]; omega
        have hL : listed ks p d after N = ((S.drop g).take N, true) := by
          unfold listed
          rw [← hS, hrest]
          unfold page
          rw [if_pos (by rw [List.length_drop]; omega), hmax]
        rw [stowagelaw12_NamesPages.j2, names_Fold_eq ks p d after N hks hp hd hl, Option.bind_some, hL]
        simp only
        have hgl : (S.take (g + N)).length = g + N := by rw [List.length_take]; omega
        rw [if_pos (by rw [htl, List.length_take]; omega), ← List.take_add, Option.bind_some, List.length_map, hgl, if_neg (by simp; omega), if_pos trivial, htl]
        rw [show ((N : Int) != (N : Int)) = false by simp, stowagelaw12_NamesPages.j3, if_neg (by simp), if_pos rfl, htl, IntWalk.wrap64_in ((N : Int) - 1) (by omega), if_pos (by omega), if_pos (by omega), IntWalk.wrap64_in ((i : Int) + 1) (by omega)]
        have hlast : (rd_T38 ((S.drop g).take N) ((N : Int) - 1)).f0 = S[g + N - 1].f0 := by
          unfold rd_T38
          rw [show (((N : Int) - 1)).toNat = N - 1 by omega, List.getD_eq_getElem?_getD, List.getElem?_eq_getElem (by rw [htl]; omega)]
          simp only [Option.getD_some, List.getElem_take, List.getElem_drop]
          congr 2
          omega
        rw [hlast]
        exact ih (i + 1) (g + N) k _ (by omega) (by omega) (by omega) (.inr ⟨by omega, by omega, rfl⟩) (by omega)
      · have hL : listed ks p d after N = (S.drop g, false) := by
          unfold listed
          rw [← hS, hrest]
          unfold page
          rw [if_neg (by rw [List.length_drop]; omega)]
        rw [stowagelaw12_NamesPages.j2, names_Fold_eq ks p d after N hks hp hd hl, Option.bind_some, hL]
        simp only
        rw [if_pos (by rw [List.length_take, List.length_drop]; omega), List.take_append_drop, Option.bind_some, List.length_map, if_neg (by simp), if_neg (by simp), stowagelaw12_NamesPages.j3, if_neg (by simp), if_neg (by simp), awake_true k (by omega), Option.bind_some, if_pos rfl, same_eq S (by omega) k (by omega)]
        rfl
    obtain ⟨k, rfl⟩ : ∃ j, k = j + 1 := ⟨k - 1, by omega⟩
    rw [stowagelaw12_NamesPages.l1, if_pos (by rw [List.length_map]; omega)]
    by_cases h0 : 0 < most.length
    · have t1 : 0 ≤ Int.tmod (i : Int) (most.length : Int) := Int.tmod_nonneg _ (by omega)
      have t2 : Int.tmod (i : Int) (most.length : Int) < (most.length : Int) := Int.tmod_lt_of_pos _ (by omega)
      obtain ⟨N, hN1, hN5, hNe⟩ := one_to_five (rd most (Int.tmod (i : Int) (most.length : Int)))
      rw [if_pos (by omega), if_neg (by omega), if_pos t1, if_pos t2, hNe]
      exact step N hN1 hN5 k (by omega)
    · rw [if_neg (by omega)]
      exact step 1 (by omega) (by omega) k (by omega)
theorem first_loop (ks : List ByteArray) (most : List Int) (p d a : ByteArray) (m : Int) (hks : ∀ k ∈ ks, k.size ≤ 1048576) (hp : p.size ≤ 1048576) (hd : d.size ≤ 1048576) (hl : ks.length ≤ 1000)
    (S : List It) (hS : S = allIn p d ks []) :
    ∀ n i k, i + n = S.length → n + 3 * S.length + 4000020 < k → (∀ j, (h : j + 1 < S.length) → j + 1 < i → S[j].f0.toList ≠ S[j + 1].f0.toList) → (∀ j, (h : j < S.length) → j < i → S[j].f0.toList ≠ []) →
      stowagelaw12_NamesPages.l0 k ks most (S.map cv) (i : Int) p d a m = some true := by
  have hSl : S.length ≤ 1000 := by have := allIn_length p d ks []; rw [← hS] at this; simp at this; omega
  intro n
  induction n with
  | zero =>
    intro i k hi hk h1 h2
    obtain ⟨k, rfl⟩ : ∃ j, k = j + 1 := ⟨k - 1, by omega⟩
    have hsrt : Srt S := by rw [hS]; exact (allIn_spec p d ks).1
    have hst := strict_names S hsrt (fun j h => h1 j h (by omega))
    have hne : ∀ x ∈ S, x.f0.toList ≠ [] := fun x hx => by
      obtain ⟨j, hj, rfl⟩ := List.mem_iff_getElem.1 hx
      exact h2 j hj (by omega)
    rw [stowagelaw12_NamesPages.l0, if_neg (by rw [List.length_map]; omega)]
    have := pages_loop ks most p d a m hks hp hd hl S hS hst hne S.length 0 0 k ⟨#[]⟩ (by omega) (by omega) (by omega) (.inl ⟨rfl, rfl⟩) (by omega)
    simpa using this
  | succ n ih =>
    intro i k hi hk h1 h2
    obtain ⟨k, rfl⟩ : ∃ j, k = j + 1 := ⟨k - 1, by omega⟩
    have hil : i < S.length := by omega
    have hw1 : wrap64 ((i : Int) + 1) = ((i + 1 : Nat) : Int) := by rw [IntWalk.wrap64_in _ (by omega)]; omega
    have hr : (rd_T37 (S.map cv) (i : Int)).f0 = S[i].f0 := by rw [rd_map S i hil]; rfl
    have haw := awake_true k (by omega)
    rw [stowagelaw12_NamesPages.l0, if_pos (by rw [List.length_map]; omega), hr]
    have hnext : S[i].f0.toList ≠ [] → (∀ j, (h : j + 1 < S.length) → j + 1 < i + 1 → S[j].f0.toList ≠ S[j + 1].f0.toList) → stowagelaw12_NamesPages.l0 k ks most (S.map cv) (wrap64 ((i : Int) + 1)) p d a m = some true := fun he hj => by
      rw [hw1]
      exact ih (i + 1) k (by omega) (by omega) hj (fun j h hji => by
        by_cases e : j = i
        · subst e; exact he
        · exact h2 j h (by omega))
    by_cases h0 : 0 < i
    · have hr2 : (rd_T37 (S.map cv) (wrap64 ((i : Int) - 1))).f0 = S[i - 1].f0 := by
        rw [IntWalk.wrap64_in _ (by omega), show ((i : Int) - 1) = ((i - 1 : Nat) : Int) by omega, rd_map S (i - 1) (by omega)]; rfl
      rw [if_pos (by omega), hr2, IntWalk.wrap64_in ((i : Int) - 1) (by omega), if_pos (by omega), if_pos (by rw [List.length_map]; omega), if_pos (by omega)]
      by_cases he : S[i - 1].f0.toList = S[i].f0.toList
      · rw [if_pos he, haw]; rfl
      · rw [if_neg he]
        by_cases hz : S[i].f0.toList = []
        · rw [if_pos hz, haw]; rfl
        · rw [if_neg hz]
          exact hnext hz (fun j h hji => by
            by_cases e : j + 1 = i
            · subst e
              simpa using he
            · exact h1 j h (by omega))
    · rw [if_neg (by omega), if_pos (by omega)]
      by_cases hz : S[i].f0.toList = []
      · rw [if_pos hz, haw]; rfl
      · rw [if_neg hz]
        exact hnext hz (fun j h hji => by omega)
theorem NamesPages_true (ks : List ByteArray) (p d a : ByteArray) (m : Int) (most : List Int) (hks : ∀ k ∈ ks, k.size ≤ 1048576) (hp : p.size ≤ 1048576) (hd : d.size ≤ 1048576) : ∃ k, stowagelaw12_NamesPages.f k ks p d a m most = some true := by
  refine ⟨4010000, ?_⟩
  unfold stowagelaw12_NamesPages.f
  by_cases hl : ks.length ≤ 100
  · have hal := allIn_length p d ks []
    simp only [List.length_nil, Nat.add_zero] at hal
    rw [if_neg (by omega), ref_Items_eq ks p d hks hp hd (by omega) _ (by omega), Option.bind_some]
    exact first_loop ks most p d a m hks hp hd (by omega) _ rfl (allIn p d ks []).length 0 _ (by omega) (by omega) (fun j h hj => by omega) (fun j h hj => by omega)
  · rw [if_pos (by omega), awake_true _ (by omega)]; rfl
end Go.Proofs.Ytapkojfodhdnaaa.Pure
