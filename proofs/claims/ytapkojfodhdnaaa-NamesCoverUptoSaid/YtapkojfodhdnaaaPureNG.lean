/- Layer 12, the plain side: the law NamesCover. No program in sight. -/
import Derived.Test.YtapkojfodhdnaaaPureND
import Derived.Test.YtapkojfodhdnaaaHx16
namespace Go.Proofs.Ytapkojfodhdnaaa.Pure
open Go.RowKit Go.Proofs.Ytapkojfodhdnaaa.Hx Go.Proofs.YtapkojfodhdnaaaW.PrintWords Go.Proofs.YtapkojfodhdnaaaW.PrintLast Go.Proofs.YtapkojfodhdnaaaW.PrintMore
set_option linter.unusedVariables false
set_option linter.unusedSimpArgs false
theorem item_cases (k p d : ByteArray) (x : It) (h : itemOf k p d = some x) :
    (p.size ≤ k.size ∧ k.data.toList.take p.size = p.data.toList) ∧ ((x = ⟨k, false⟩ ∧ (d.size = 0 ∨ Lib.index (k.data.toList.drop p.size) d.data.toList = -1)) ∨
      ∃ i : Nat, 0 < d.size ∧ x = ⟨k.extract 0 (p.size + i + d.size), true⟩ ∧ p.size + i + d.size ≤ k.size ∧ (k.data.toList.drop (p.size + i)).take d.size = d.data.toList) := by
  have lk := len_eq k
  have lp := len_eq p
  have ld := len_eq d
  unfold itemOf at h
  split at h
  · rename_i hpre
    have hke := pre_eq _ _ hpre
    rw [lp] at hke
    have hsz : p.size ≤ k.size := by
      have := congrArg List.length hke
      rw [List.length_append, List.length_drop] at this
      omega
    have htk : k.data.toList.take p.size = p.data.toList := by
      have := (prefix_take p.data.toList k.data.toList).1 hpre
      rwa [lp] at this
    refine ⟨⟨hsz, htk⟩, ?_⟩
    split at h
    · rename_i h0
      cases h
      exact .inl ⟨rfl, .inl h0⟩
    · rename_i h0
      have hg := Lib.index_ge (k.data.toList.drop p.size) d.data.toList
      split at h
      · rename_i hi
        cases h
        have hroom := Lib.index_room _ _ hi
        obtain ⟨i, hie⟩ : ∃ i : Nat, Lib.index (k.data.toList.drop p.size) d.data.toList = (i : Int) := ⟨(Lib.index (k.data.toList.drop p.size) d.data.toList).toNat, by omega⟩
        have hat := index_at _ _ i hie
        rw [hie] at hroom ⊢
        rw [List.length_drop, lk, ld] at hroom
        refine .inr ⟨i, by omega, by rw [Int.toNat_natCast], by omega, ?_⟩
        rw [List.drop_drop] at hat
        rw [hat, ← ld, List.take_left']
        rfl
      · rename_i hi
        cases h
        exact .inl ⟨rfl, .inr (by omega)⟩
  · cases h
/-- An item tells a key. -/
def hitB (x : It) (k : ByteArray) : Bool := if x.f1 = true then (decide (x.f0.size ≤ k.size) && ((k.extract 0 x.f0.size).toList == x.f0.toList)) else (x.f0.toList == k.toList)
theorem rd_it (l : List It) (i : Nat) (h : i < l.length) : rd_T38 l (i : Int) = l[i] := by
  unfold rd_T38
  rw [Int.toNat_natCast, List.getD_eq_getElem?_getD, List.getElem?_eq_getElem h]; rfl
theorem found_loop (ks : List ByteArray) (p d k : ByteArray) (L : List It) (j : Nat) (hL : L.length ≤ 1000) : ∀ n i f (b : Bool), i + n = L.length → n < f →
    ∃ f', f ≤ f' + (n + 1) ∧ stowagelaw12_NamesCover.l1 f ks p d L (j : Int) k b (i : Int) = if (b || (L.drop i).any (fun x => hitB x k)) = true then stowagelaw12_NamesCover.l0 f' ks p d L (wrap64 ((j : Int) + 1)) else some false := by
  intro n
  induction n with
  | zero =>
    intro i f b hi hf
    obtain ⟨f, rfl⟩ : ∃ j, f = j + 1 := ⟨f - 1, by omega⟩
    refine ⟨f, by omega, ?_⟩
    rw [stowagelaw12_NamesCover.l1, if_neg (by omega), List.drop_of_length_le (by omega)]
    simp
  | succ n ih =>
    intro i f b hi hf
    obtain ⟨f, rfl⟩ : ∃ j, f = j + 1 := ⟨f - 1, by omega⟩
    have hil : i < L.length := by omega
    have hw1 : wrap64 ((i : Int) + 1) = ((i + 1 : Nat) : Int) := by rw [IntWalk.wrap64_in _ (by omega)]; omega
    obtain ⟨f', hf', hx⟩ := ih (i + 1) f (b || hitB L[i] k) (by omega) (by omega)
    refine ⟨f', by omega, ?_⟩
    rw [List.drop_eq_getElem_cons hil, List.any_cons, ← Bool.or_assoc, ← hx, stowagelaw12_NamesCover.l1, if_pos (by omega), if_pos (by omega), rd_it L i hil, hw1]
    cases b with
    | true => rw [if_pos rfl]; rfl
    | false =>
      rw [if_neg (by simp), Bool.false_or]
      unfold hitB
      cases hf1 : L[i].f1 with
      | true =>
        rw [if_pos rfl, if_pos rfl, if_pos rfl]
        by_cases hs : L[i].f0.size ≤ k.size
        · rw [if_pos (by omega), if_pos (by omega), decide_eq_true hs, Bool.true_and]; rfl
        · rw [if_neg (by omega), decide_eq_false hs]; rfl
      | false =>
        by_cases he : L[i].f0.toList = k.toList
        · simp [he]
        · rw [show (L[i].f0.toList == k.toList) = false from beq_eq_false_iff_ne.2 he]
          simp [he]
theorem found_all (ks : List ByteArray) (p d : ByteArray) (hp : p.size ≤ 1048576) (L : List It) (hL : L.length ≤ 1000) (hl : ks.length ≤ 1000)
    (H : ∀ k ∈ ks, p.size ≤ k.size → k.data.toList.take p.size = p.data.toList → k.size ≠ 0 → L.any (fun x => hitB x k) = true) (f2 : Nat) (H2 : ∀ f, f2 ≤ f → stowagelaw12_NamesCover.l2 f ks p d L 0 = some true) :
    ∀ n i f, i + n = ks.length → f2 + 2000 * n + 2000 < f → stowagelaw12_NamesCover.l0 f ks p d L (i : Int) = some true := by
  intro n
  induction n with
  | zero =>
    intro i f hi hf
    obtain ⟨f, rfl⟩ : ∃ j, f = j + 1 := ⟨f - 1, by omega⟩
    rw [stowagelaw12_NamesCover.l0, if_neg (by omega)]
    exact H2 f (by omega)
  | succ n ih =>
    intro i f hi hf
    obtain ⟨f, rfl⟩ : ∃ j, f = j + 2 := ⟨f - 2, by omega⟩
    have hil : i < ks.length := by omega
    have lk := len_eq ks[i]
    have hw1 : wrap64 ((i : Int) + 1) = ((i + 1 : Nat) : Int) := by rw [IntWalk.wrap64_in _ (by omega)]; omega
    have step : ∀ b : Bool, (b = true ∨ L.any (fun x => hitB x ks[i]) = true) → stowagelaw12_NamesCover.j1 (f + 1) ks p d L (i : Int) ks[i] b = some true := by
      intro b hb
      obtain ⟨f', hf', hx⟩ := found_loop ks p d ks[i] L i hL L.length 0 f b (by omega) (by omega)
      rw [stowagelaw12_NamesCover.j1]
      refine Eq.trans hx ?_
      rw [List.drop_zero, if_pos (by rcases hb with h | h <;> simp [h]), hw1]
      exact ih (i + 1) f' (by omega) (by omega)
    rw [stowagelaw12_NamesCover.l0, if_pos (by omega), if_pos (by omega), rdOf_get ks i hil]
    by_cases h1 : ks[i].size < p.size
    · rw [if_pos (by omega)]; exact step true (.inl rfl)
    · rw [if_neg (by omega), if_pos (by omega), if_pos (by omega)]
      have hx : (ks[i].extract 0 ((p.size : Int)).toNat).toList = ks[i].data.toList.take p.size := by rw [ext_list]; simp
      rw [hx]
      by_cases h2 : ks[i].data.toList.take p.size = p.toList
      · rw [if_pos h2]
        by_cases h0 : ks[i].size = 0
        · exact step _ (.inl (by rw [beq_iff_eq]; exact (toList_nil _).2 h0))
        · exact step _ (.inr (H _ (List.getElem_mem hil) (by omega) (by rw [h2, ByteArray.toList_eq]) h0))
      · rw [if_neg h2]; exact step true (.inl rfl)
theorem of_loop (ks : List ByteArray) (p d : ByteArray) (L : List It) (j : Nat) (hj : j < L.length) (hl : ks.length ≤ 1000) : ∀ n i f (b : Bool), i + n = ks.length → n < f →
    ∃ f', f ≤ f' + (n + 1) ∧ stowagelaw12_NamesCover.l3 f ks p d L (j : Int) L[j].f0 b (i : Int) = stowagelaw12_NamesCover.l3 (f' + 1) ks p d L (j : Int) L[j].f0 (b || (ks.drop i).any (fun k => (k.toList == L[j].f0.toList) || hitB L[j] k && L[j].f1)) (ks.length : Int) := by
  intro n
  induction n with
  | zero =>
    intro i f b hi hf
    obtain ⟨f, rfl⟩ : ∃ j, f = j + 1 := ⟨f - 1, by omega⟩
    refine ⟨f, by omega, ?_⟩
    rw [List.drop_of_length_le (by omega), show i = ks.length by omega]
    simp
  | succ n ih =>
    intro i f b hi hf
    obtain ⟨f, rfl⟩ : ∃ j, f = j + 1 := ⟨f - 1, by omega⟩
    have hil : i < ks.length := by omega
    have hw1 : wrap64 ((i : Int) + 1) = ((i + 1 : Nat) : Int) := by rw [IntWalk.wrap64_in _ (by omega)]; omega
    obtain ⟨f', hf', hx⟩ := ih (i + 1) f (b || ((ks[i].toList == L[j].f0.toList) || hitB L[j] ks[i] && L[j].f1)) (by omega) (by omega)
    refine ⟨f', by omega, ?_⟩
    rw [List.drop_eq_getElem_cons hil, List.any_cons, ← Bool.or_assoc, ← hx, stowagelaw12_NamesCover.l3, if_pos (by omega), hw1]
    cases b with
    | true => rw [if_pos rfl]; rfl
    | false =>
      rw [if_neg (by simp), if_pos (by omega), rdOf_get ks i hil, Bool.false_or]
      by_cases he : ks[i].toList = L[j].f0.toList
      · rw [if_pos he, beq_iff_eq.2 he]; rfl
      · rw [if_neg he, if_pos (by omega), if_pos (by omega), rd_it L j hj, beq_eq_false_iff_ne.2 he, Bool.false_or]
        unfold hitB
        cases hf1 : L[j].f1 with
        | false => rw [if_neg (by simp)]; simp
        | true =>
          rw [if_pos rfl, if_pos rfl, Bool.and_true]
          by_cases hs : L[j].f0.size ≤ ks[i].size
          · rw [if_pos (by omega), if_pos (by omega), if_pos (by omega), decide_eq_true hs, Bool.true_and]; rfl
          · rw [if_neg (by omega), decide_eq_false hs]; rfl
theorem cover_loop (ks : List ByteArray) (p d : ByteArray) (hp : p.size ≤ 1048576) (hd : d.size ≤ 1048576) (hks : ∀ k ∈ ks, k.size ≤ 1048576) (L : List It) (hL : L.length ≤ 1000) (hl : ks.length ≤ 1000)
    (H : ∀ x ∈ L, ∃ k ∈ ks, itemOf k p d = some x) : ∀ n i f, i + n = L.length → 2000 * n + 4002010 < f → stowagelaw12_NamesCover.l2 f ks p d L (i : Int) = some true := by
  intro n
  induction n with
  | zero =>
    intro i f hi hf
    obtain ⟨f, rfl⟩ : ∃ j, f = j + 1 := ⟨f - 1, by omega⟩
    rw [stowagelaw12_NamesCover.l2, if_neg (by omega), awake_true f (by omega)]; rfl
  | succ n ih =>
    intro i f hi hf
    obtain ⟨f, rfl⟩ : ∃ j, f = j + 1 := ⟨f - 1, by omega⟩
    have hil : i < L.length := by omega
    have hw1 : wrap64 ((i : Int) + 1) = ((i + 1 : Nat) : Int) := by rw [IntWalk.wrap64_in _ (by omega)]; omega
    obtain ⟨k, hk, hit⟩ := H _ (List.getElem_mem hil)
    have hkz := hks k hk
    have lk := len_eq k
    have ld := len_eq d
    have lp := len_eq p
    obtain ⟨⟨hpk, hpt⟩, hc⟩ := item_cases k p d _ hit
    rw [stowagelaw12_NamesCover.l2, if_pos (by omega), if_pos (by omega), rd_it L i hil]
    obtain ⟨f', hf', hx⟩ := of_loop ks p d L i hil hl ks.length 0 f false (by omega) (by omega)
    refine Eq.trans hx ?_
    have hlist : L[i].f0.data.toList.length = L[i].f0.size := len_eq _
    -- what is known of the name
    have hname : p.size ≤ L[i].f0.size ∧ L[i].f0.size ≤ k.size ∧ L[i].f0.data.toList = k.data.toList.take L[i].f0.size := by
      rcases hc with ⟨he, _⟩ | ⟨m, h0, he, hm, _⟩
      · rw [he]; exact ⟨hpk, Nat.le_refl _, by rw [List.take_of_length_le (by show k.data.toList.length ≤ k.size; omega)]⟩
      · rw [he]
        have hsz : (k.extract 0 (p.size + m + d.size)).size = p.size + m + d.size := by simp; omega
        refine ⟨by simp only [hsz]; omega, by simp only [hsz]; omega, ?_⟩
        simp only [hsz]
        rw [Lib.extract_data]
        simp
    obtain ⟨hn1, hn2, hn3⟩ := hname
    have hany : (ks.drop 0).any (fun k => (k.toList == L[i].f0.toList) || hitB L[i] k && L[i].f1) = true := by
      rw [List.drop_zero, List.any_eq_true]
      refine ⟨k, hk, ?_⟩
      rcases hc with ⟨he, _⟩ | ⟨m, h0, he, hm, _⟩
      · rw [he]; simp
      · have hf1 : L[i].f1 = true := by rw [he]
        unfold hitB
        rw [hf1, if_pos rfl, decide_eq_true hn2, ext_list, ByteArray.toList_eq, ByteArray.toList_eq]
        simp [hn3]
    rw [hany, Bool.or_true, stowagelaw12_NamesCover.l3, if_neg (by omega), if_pos rfl, if_neg (by omega), if_pos (by omega), if_pos (by omega)]
    have hpe : (L[i].f0.extract 0 ((p.size : Int)).toNat).toList = p.toList := by
      rw [ext_list, Int.toNat_natCast, List.drop_zero, Nat.sub_zero, hn3, List.take_take, Nat.min_eq_left hn1, hpt, ByteArray.toList_eq]
    rw [if_pos hpe, if_pos (by omega), if_pos (by omega), rd_it L i hil, hw1]
    have hnx := ih (i + 1) f' (by omega) (by omega)
    by_cases hd0 : d.size = 0
    · rw [if_pos ((toList_nil d).2 hd0)]
      have hf1 : L[i].f1 = false := by
        rcases hc with ⟨he, _⟩ | ⟨m, h0, _⟩
        · rw [he]
        · omega
      rw [hf1, if_neg (by simp)]
      exact hnx
    · rw [if_neg (fun h => hd0 ((toList_nil d).1 h)), IntWalk.wrap64_in ((p.size : Int) + (d.size : Int)) (by omega)]
      by_cases hfit : p.size + d.size ≤ L[i].f0.size
      · rw [if_pos (by omega), IntWalk.wrap64_in ((L[i].f0.size : Int) - (d.size : Int)) (by omega), if_pos (by omega), if_pos (by omega)]
        have hext : (L[i].f0.extract ((L[i].f0.size : Int) - (d.size : Int)).toNat L[i].f0.size).toList = (k.data.toList.drop (L[i].f0.size - d.size)).take d.size := by
          rw [ext_list, show ((L[i].f0.size : Int) - (d.size : Int)).toNat = L[i].f0.size - d.size by omega, hn3, List.drop_take]
          rw [List.take_take]
          congr 1
          omega
        rw [hext]
        rcases hc with ⟨he, hz⟩ | ⟨m, h0, he, hm, hat⟩
        · have hf1 : L[i].f1 = false := by rw [he]
          have hsz : L[i].f0.size = k.size := by rw [he]
          have hno : ((k.data.toList.drop (L[i].f0.size - d.size)).take d.size == d.toList) = false := by
            rw [beq_eq_false_iff_ne]
            intro hh
            rcases hz with hz | hz
            · omega
            · rcases Lib.index_spec (k.data.toList.drop p.size) d.data.toList with ⟨_, h2⟩ | ⟨q, h1, _⟩
              · have h3 := h2 (k.size - d.size - p.size) (by rw [List.length_drop, lk]; omega)
                unfold Lib.occAt at h3
                rw [List.drop_drop, show p.size + (k.size - d.size - p.size) = L[i].f0.size - d.size by omega] at h3
                have h4 := (prefix_take d.data.toList (k.data.toList.drop (L[i].f0.size - d.size))).2 (by rw [ld, hh, ByteArray.toList_eq])
                rw [h4] at h3
                cases h3
              · omega
          rw [hf1, hno, if_neg (by simp)]
          exact hnx
        · have hf1 : L[i].f1 = true := by rw [he]
          have hsz : L[i].f0.size = p.size + m + d.size := by rw [he]; simp; omega
          have hyes : ((k.data.toList.drop (L[i].f0.size - d.size)).take d.size == d.toList) = true := by
            rw [beq_iff_eq, hsz, show p.size + m + d.size - d.size = p.size + m by omega, hat, ByteArray.toList_eq]
          rw [hf1, hyes, if_neg (by simp)]
          exact hnx
      · rw [if_neg (by omega)]
        have hf1 : L[i].f1 = false := by
          rcases hc with ⟨he, _⟩ | ⟨m, h0, he, hm, _⟩
          · rw [he]
          · have hsz : L[i].f0.size = p.size + m + d.size := by rw [he]; simp; omega
            omega
        rw [hf1, if_neg (by simp)]
        exact hnx
theorem NamesCover_true (ks : List ByteArray) (p d : ByteArray) (hks : ∀ k ∈ ks, k.size ≤ 1048576) (hp : p.size ≤ 1048576) (hd : d.size ≤ 1048576) : ∃ k, stowagelaw12_NamesCover.f k ks p d = some true := by
  refine ⟨10000000, ?_⟩
  unfold stowagelaw12_NamesCover.f
  by_cases hl : ks.length ≤ 100
  · have hal := allIn_length p d ks []
    have hfl := List.length_filter_le (good ⟨#[]⟩) (allIn p d ks [])
    simp only [List.length_nil, Nat.add_zero] at hal
    have hlist : listed ks p d ⟨#[]⟩ ((ks.length : Int) + 1) = ((allIn p d ks []).filter (good ⟨#[]⟩), false) := by
      unfold listed page
      rw [if_neg (by omega)]
    rw [if_neg (by omega), IntWalk.wrap64_in _ (by omega), names_Fold_eq ks p d _ _ hks hp hd (by omega), Option.bind_some, hlist]
    simp only
    rw [if_neg (by simp)]
    have hgood : ∀ x : It, x.f0.size ≠ 0 → good ⟨#[]⟩ x = true := by
      intro x hx
      unfold good
      rw [show (⟨#[]⟩ : ByteArray).toList = [] from by rw [ByteArray.toList_eq]]
      cases hxl : x.f0.toList with
      | nil => exact absurd ((toList_nil _).1 hxl) hx
      | cons a l => rfl
    refine found_all ks p d hp _ (by omega) (by omega) ?_ 5000000 (fun f hf => cover_loop ks p d hp hd hks _ (by omega) (by omega) (fun x hx => ((allIn_spec p d ks).2 x).1 (List.mem_filter.1 hx).1) ((allIn p d ks []).filter (good ⟨#[]⟩)).length 0 f (by omega) (by omega)) ks.length 0 _ (by omega) (by omega)
    intro k hk h1 h2 h3
    rw [List.any_eq_true]
    have hpre : Lib.hasPrefix k.data.toList p.data.toList = true := (prefix_take _ _).2 (by rw [len_eq]; exact h2)
    obtain ⟨x, hx⟩ : ∃ x, itemOf k p d = some x := by
      unfold itemOf
      rw [if_pos hpre]
      split
      · exact ⟨_, rfl⟩
      · split <;> exact ⟨_, rfl⟩
    have hmem := ((allIn_spec p d ks).2 x).2 ⟨k, hk, hx⟩
    obtain ⟨_, hc⟩ := item_cases k p d x hx
    rcases hc with ⟨rfl, _⟩ | ⟨m, h0, rfl, hm, _⟩
    · exact ⟨_, List.mem_filter.2 ⟨hmem, hgood _ h3⟩, by unfold hitB; simp⟩
    · have hsz : (k.extract 0 (p.size + m + d.size)).size = p.size + m + d.size := by simp; omega
      refine ⟨_, List.mem_filter.2 ⟨hmem, hgood _ (by simp only [hsz]; omega)⟩, ?_⟩
      unfold hitB
      simp only [hsz]
      rw [if_pos trivial, decide_eq_true (by omega)]
      simp
  · rw [if_pos (by omega), awake_true _ (by omega)]; rfl
end Go.Proofs.Ytapkojfodhdnaaa.Pure
