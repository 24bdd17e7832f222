/- Layer 18, the plain side of PercentPairs: pairs are read as they were written. No program in sight. -/
import Derived.Test.YtfagmfmpiicggaaDoorHx11
import Derived.Test.YtfagmfmpiicggaaDoorPureBack
import Derived.Test.YtfagmfmpiicggaaDoorQRound
namespace Go.Proofs.YtfagmfmpiicggaaDoor.Pure
open Go Go.RowKit Go.Proofs.YtfagmfmpiicggaaDoor.Hx Go.Proofs.YtfagmfmpiicggaaDoorW.PrintWords
set_option linter.unusedVariables false
abbrev PairP := S24
abbrev PairR := S57
theorem rdP_cons {xs : List PairP} {i : Nat} {p : PairP} {l : List PairP} (h : xs.drop i = p :: l) : (i : Int) < xs.length ∧ rd_T24 xs (i : Int) = p ∧ xs.drop (i + 1) = l := by
  have hi : i < xs.length := by
    rcases Nat.lt_or_ge i xs.length with h1 | h1
    · exact h1
    · rw [List.drop_eq_nil_of_le h1] at h; cases h
  have hd := List.drop_eq_getElem_cons hi
  rw [h] at hd
  injection hd with h1 h2
  refine ⟨by omega, ?_, h2.symm⟩
  unfold rd_T24
  rw [Int.toNat_natCast, List.getD_eq_getElem?_getD, List.getElem?_eq_getElem hi, h1]
  rfl
theorem rdP_nil {α : Type} {xs : List α} {i : Nat} (h : xs.drop i = []) : ¬ (i : Int) < xs.length := by
  have := List.drop_eq_nil_iff.1 h
  omega
def itemB (p : PairP) : ByteArray := ⟨(Q.itemL p.f0.data.toList p.f1.data.toList).toArray⟩
def qOk (l : List PairP) : Bool := l.all fun p => !(p.f0.data.toList == [])
def small (l : List PairP) : Prop := ∀ p ∈ l, p.f0.size ≤ 5000 ∧ p.f1.size ≤ 5000
def queryRes (acc : List ByteArray) (l : List PairP) : Option (ByteArray × Int) := if qOk l = true then (strings_Join.f (acc ++ l.map itemB) (⟨#[38]⟩ : ByteArray)).bind (fun t => some (t, 0)) else some (⟨#[]⟩, 3)
theorem query_loop (x : List PairP) (hx : x.length ≤ 16) : ∀ (l : List PairP) (i : Nat) (acc : List ByteArray) (k : Nat), x.drop i = l → small l → acc.length + l.length ≤ 16 → i + l.length ≤ 16 → l.length + 1 ≤ k →
    percent_Query.l0 k acc x (x.length : Int) (i : Int) = queryRes acc l := by
  intro l
  induction l with
  | nil =>
    intro i acc k hl hs ha hi hk
    obtain ⟨k, rfl⟩ : ∃ m, k = m + 1 := ⟨k - 1, by omega⟩
    rw [percent_Query.l0, if_neg (rdP_nil hl)]
    unfold queryRes
    rw [if_pos (show qOk [] = true from rfl), List.map_nil, List.append_nil]
  | cons p l ih =>
    intro i acc k hl hs ha hi hk
    obtain ⟨k, rfl⟩ : ∃ m, k = m + 1 := ⟨k - 1, by omega⟩
    simp only [List.length_cons] at ha hk hi
    obtain ⟨h1, h2, h3⟩ := rdP_cons hl
    obtain ⟨s0, s1⟩ := hs p (by simp)
    have hih := fun (a : List ByteArray) (hal : a.length = acc.length + 1) => ih (i + 1) a k h3 (fun q hq => hs q (by simp [hq])) (by omega) (by omega) (by omega)
    rw [percent_Query.l0, if_pos h1, if_pos (by omega), if_pos h1, h2, IntWalk.wrap64_in ((i : Int) + 1) (by omega), show ((i : Int) + 1) = ((i + 1 : Nat) : Int) by omega, ByteArray.toList_eq, ByteArray.toList_eq]
    by_cases hn : p.f0.data.toList = []
    · rw [if_pos hn]
      unfold queryRes
      rw [if_neg (by unfold qOk; rw [List.all_cons, show (p.f0.data.toList == []) = true by rw [hn]; rfl]; simp)]
    · have hq : ∀ a : List ByteArray, queryRes acc (p :: l) = queryRes (acc ++ [itemB p]) l := by
        intro _
        unfold queryRes qOk
        have hb : (p.f0.data.toList == []) = false := by simpa using hn
        rw [List.all_cons, hb]
        simp
      rw [if_neg hn, name_eq p.f0 s0, hq acc]
      simp only [Option.bind_some]
      by_cases hv : p.f1.data.toList = []
      · rw [if_pos hv, if_pos (by omega)]
        have e : (⟨(Q.escL 0 p.f0.data.toList).toArray⟩ : ByteArray) = itemB p := by
          unfold itemB Q.itemL
          rw [if_pos hv, List.append_nil]
        rw [e]
        exact hih _ (by simp)
      · rw [if_neg hv, name_eq p.f1 s1]
        simp only [Option.bind_some]
        have z0 := size_esc 0 p.f0
        have z1 := size_esc 0 p.f1
        rw [if_pos (by omega), if_pos (by have : (⟨#[61]⟩ : ByteArray).size = 1 := rfl; simp only [ByteArray.size_append]; omega), if_pos (by omega)]
        have e : (⟨(Q.escL 0 p.f0.data.toList).toArray⟩ : ByteArray) ++ ((⟨#[61]⟩ : ByteArray) ++ ⟨(Q.escL 0 p.f1.data.toList).toArray⟩) = itemB p := by
          unfold itemB Q.itemL
          rw [if_neg hv]
          apply ByteArray.ext
          simp [ByteArray.data_append]
        rw [e]
        exact hih _ (by simp)
theorem join_le (B : Nat) (c : UInt8) : ∀ (l : List (List UInt8)), (∀ a ∈ l, a.length ≤ B) → (Lib.join l [c]).length ≤ l.length * (B + 1)
  | [], _ => by simp [Lib.join_nil]
  | [a], h => by
    rw [Lib.join_one]
    have := h a (by simp)
    simp
    omega
  | a :: b :: l, h => by
    rw [Q.join_cons2]
    have h1 := h a (by simp)
    have h2 := join_le B c (b :: l) fun x hx => h x (by simp [hx])
    simp only [List.length_append, List.length_cons, List.length_nil] at h2 ⊢
    rw [Nat.add_mul (l.length + 1) 1 (B + 1)]
    omega
/-- The text of pairs. -/
def pairsL (l : List PairP) : List UInt8 := Lib.join (l.map fun p => Q.itemL p.f0.data.toList p.f1.data.toList) [38]
theorem pairsL_length (l : List PairP) (hl : l.length ≤ 16) (hs : small l) : (pairsL l).length ≤ 16 * 30002 := by
  have := join_le 30001 38 (l.map fun p => Q.itemL p.f0.data.toList p.f1.data.toList) (fun a ha => by
    obtain ⟨p, hp, rfl⟩ := List.mem_map.1 ha
    obtain ⟨s0, s1⟩ := hs p hp
    have := Q.itemL_length p.f0.data.toList p.f1.data.toList
    have e0 := len_eq p.f0
    have e1 := len_eq p.f1
    omega)
  rw [List.length_map] at this
  have h2 : l.length * (30001 + 1) ≤ 16 * 30002 := Nat.mul_le_mul_right _ hl
  exact Nat.le_trans this h2
theorem query_eq (l : List PairP) (hl : l.length ≤ 16) (hs : small l) (k : Nat) (hk : 17 ≤ k) : percent_Query.f k l = if qOk l = true then some (⟨(pairsL l).toArray⟩, 0) else some (⟨#[]⟩, 3) := by
  unfold percent_Query.f
  rw [if_neg (by omega)]
  have := query_loop l hl l 0 [] k rfl hs (by simpa using hl) (by omega) (by omega)
  rw [show ((0 : Nat) : Int) = 0 from rfl] at this
  rw [this]
  unfold queryRes
  by_cases hq : qOk l = true
  · rw [if_pos hq, if_pos hq]
    have hm : (l.map itemB).map (·.data.toList) = l.map fun p => Q.itemL p.f0.data.toList p.f1.data.toList := by
      rw [List.map_map]
      apply List.map_congr_left
      intro p _
      simp [itemB]
    have hz := pairsL_length l hl hs
    unfold strings_Join.f
    rw [List.nil_append, hm, show (⟨#[38]⟩ : ByteArray).data.toList = [38] from rfl, if_pos ⟨by rw [List.length_map]; omega, by unfold pairsL at hz; omega⟩]
    rfl
  · rw [if_neg hq, if_neg hq]
theorem query_many (l : List PairP) (hl : 16 < l.length) (k : Nat) : percent_Query.f k l = some (⟨#[]⟩, 131) := by
  unfold percent_Query.f
  rw [if_pos (by omega)]
theorem all_items : ∀ (l : List PairP), qOk l = true → percent_Unquery_all (l.map fun p => Q.itemL p.f0.data.toList p.f1.data.toList) = some l
  | [], _ => rfl
  | p :: l, h => by
    unfold qOk at h
    rw [List.all_cons, Bool.and_eq_true] at h
    have hn : p.f0.data.toList ≠ [] := by simpa using h.1
    have hp : percent_Unquery_pair (Q.itemL p.f0.data.toList p.f1.data.toList) = some p := by
      unfold percent_Unquery_pair
      rw [Q.cutB_item, if_neg (Q.escL_ne hn 0), readL_escL 0 (.inr rfl) [35] (.inr rfl) true, readL_escL 0 (.inr rfl) [35] (.inr rfl) true]
    rw [List.map_cons, percent_Unquery_all, hp, all_items l h.2]
    rfl
theorem unquery_pairs (l : List PairP) (hl : l.length ≤ 16) (hs : small l) (hq : qOk l = true) : percent_Unquery.f ⟨(pairsL l).toArray⟩ = some (l, 0) := by
  have hz := pairsL_length l hl hs
  have hz2 : (⟨(pairsL l).toArray⟩ : ByteArray).size = (pairsL l).length := List.size_toArray
  unfold percent_Unquery.f
  rw [if_pos (by omega), show (⟨(pairsL l).toArray⟩ : ByteArray).data.toList = pairsL l by simp]
  by_cases he : l = []
  · subst he
    rw [if_pos (show pairsL [] = [] from rfl)]
  · have hne : ∀ a ∈ l.map (fun p => Q.itemL p.f0.data.toList p.f1.data.toList), a ≠ [] := fun a ha => by
      obtain ⟨p, hp, rfl⟩ := List.mem_map.1 ha
      have := List.all_eq_true.1 hq p hp
      exact Q.itemL_ne (by simpa using this) _
    have hsp : Q.splitL 38 (pairsL l) = l.map fun p => Q.itemL p.f0.data.toList p.f1.data.toList :=
      Q.splitL_join 38 _ (by simpa using he) fun a ha => by
        obtain ⟨p, hp, rfl⟩ := List.mem_map.1 ha
        exact Q.itemL_no38 _ _
    have hc := Q.splitL_length 38 (pairsL l)
    rw [hsp, List.length_map] at hc
    rw [if_neg (show ¬ pairsL l = [] from Q.join_ne _ (by simpa using he) hne _), if_neg (by omega), hsp, all_items l hq]
theorem splitL_le (c : UInt8) : ∀ (l : List UInt8), ∀ p ∈ Q.splitL c l, p.length ≤ l.length
  | [], p, hp => by simp [Q.splitL] at hp; subst hp; simp
  | x :: l, p, hp => by
    cases hx : (x == c) with
    | true =>
      rw [Q.splitL_hit c x l hx] at hp
      rcases List.mem_cons.1 hp with rfl | hp
      · simp
      · have := splitL_le c l p hp
        simp
        omega
    | false =>
      cases hs : Q.splitL c l with
      | nil => exact absurd hs (Q.splitL_ne c l)
      | cons q qs =>
        rw [Q.splitL_miss c x l q qs hx hs] at hp
        have ih := splitL_le c l
        rw [hs] at ih
        rcases List.mem_cons.1 hp with rfl | hp
        · have := ih q (by simp)
          simp
          omega
        · have := ih p (by simp [hp])
          simp
          omega
theorem pair_ok {q : List UInt8} {p : PairP} (h : percent_Unquery_pair q = some p) : p.f0.data.toList ≠ [] ∧ p.f0.size ≤ q.length ∧ p.f1.size ≤ q.length := by
  unfold percent_Unquery_pair at h
  have hl := Q.cutB_length 61 q
  split at h
  · cases h
  · rename_i hne
    split at h
    · rename_i x y hx hy
      cases h
      have r1 := Q.readL_length _ _ _ _ (Nat.le_refl _) _ hx
      have r2 := Q.readL_length _ _ _ _ (Nat.le_refl _) _ hy
      have e1 : (⟨x.toArray⟩ : ByteArray).size = x.length := List.size_toArray
      have e2 : (⟨y.toArray⟩ : ByteArray).size = y.length := List.size_toArray
      refine ⟨?_, by simp only [e1]; omega, by simp only [e2]; omega⟩
      cases hc : (Q.cutB 61 q).1 with
      | nil => exact absurd hc hne
      | cons c l =>
        rw [hc] at hx
        show (⟨x.toArray⟩ : ByteArray).data.toList ≠ []
        rw [show (⟨x.toArray⟩ : ByteArray).data.toList = x by simp]
        exact Q.readL_ne _ _ _ _ _ hx
    · cases h
theorem all_ok (B : Nat) : ∀ (ps : List (List UInt8)) (ys : List PairP), (∀ q ∈ ps, q.length ≤ B) → percent_Unquery_all ps = some ys → qOk ys = true ∧ ∀ p ∈ ys, p.f0.size ≤ B ∧ p.f1.size ≤ B
  | [], ys, _, h => by simp [percent_Unquery_all] at h; subst h; exact ⟨rfl, by simp⟩
  | q :: ps, ys, hB, h => by
    rw [percent_Unquery_all] at h
    cases hq : percent_Unquery_pair q with
    | none => rw [hq] at h; cases h
    | some p =>
      rw [hq] at h
      obtain ⟨zs, hz, rfl⟩ := Option.map_eq_some_iff.1 h
      obtain ⟨i1, i2⟩ := all_ok B ps zs (fun a ha => hB a (by simp [ha])) hz
      obtain ⟨p1, p2, p3⟩ := pair_ok hq
      have hb := hB q (by simp)
      refine ⟨?_, ?_⟩
      · unfold qOk at i1 ⊢
        rw [List.all_cons, i1, show (p.f0.data.toList == []) = false by simpa using p1]
        rfl
      · intro a ha
        rcases List.mem_cons.1 ha with rfl | ha
        · exact ⟨by omega, by omega⟩
        · exact i2 a ha
/-- What a text says: an error and no pair, or pairs that can be written. -/
theorem unquery_cases (t : ByteArray) (ht : t.size ≤ 5000) : (∃ e, e ≠ 0 ∧ percent_Unquery.f t = some ([], e)) ∨ ∃ m, m.length ≤ 16 ∧ small m ∧ qOk m = true ∧ percent_Unquery.f t = some (m, 0) := by
  unfold percent_Unquery.f
  rw [if_pos (by omega)]
  by_cases h0 : t.data.toList = []
  · rw [if_pos h0]
    exact .inr ⟨[], by simp, fun p hp => by simp at hp, rfl, rfl⟩
  · rw [if_neg h0]
    by_cases h1 : 16 ≤ t.data.toList.count 38
    · rw [if_pos h1]
      exact .inl ⟨131, by omega, rfl⟩
    · rw [if_neg h1]
      cases ha : percent_Unquery_all (Q.splitL 38 t.data.toList) with
      | none => exact .inl ⟨3, by omega, rfl⟩
      | some m =>
        have hlen := percent_Unquery_all_length _ _ ha
        rw [Q.splitL_length] at hlen
        obtain ⟨hq, hs⟩ := all_ok t.data.toList.length _ m (splitL_le 38 _) ha
        have e0 := len_eq t
        exact .inr ⟨m, by omega, fun p hp => by have := hs p hp; omega, hq, rfl⟩
def conv (p : PairP) : PairR := ⟨p.f0, p.f1⟩
theorem refs_loop (x : List PairP) (hx : x.length ≤ 1000000000) : ∀ (l : List PairP) (i : Nat) (acc : List PairR) (k : Nat), x.drop i = l → acc.length + l.length ≤ 1000000000 → i + l.length ≤ 1000000000 → l.length + 1 ≤ k →
    stowagelaw18_Refs.l0 k x acc (i : Int) = some (acc ++ l.map conv) := by
  intro l
  induction l with
  | nil =>
    intro i acc k hl ha hi hk
    obtain ⟨k, rfl⟩ : ∃ m, k = m + 1 := ⟨k - 1, by omega⟩
    rw [stowagelaw18_Refs.l0, if_neg (rdP_nil hl)]
    simp
  | cons p l ih =>
    intro i acc k hl ha hi hk
    obtain ⟨k, rfl⟩ : ∃ m, k = m + 1 := ⟨k - 1, by omega⟩
    simp only [List.length_cons] at ha hk hi
    obtain ⟨h1, h2, h3⟩ := rdP_cons hl
    rw [stowagelaw18_Refs.l0, if_pos h1, if_pos (by omega), if_pos (by omega), h2, IntWalk.wrap64_in ((i : Int) + 1) (by omega), show ((i : Int) + 1) = ((i + 1 : Nat) : Int) by omega,
      ih (i + 1) _ k h3 (by simp; omega) (by omega) (by omega)]
    simp [conv]
theorem refs_eq (x : List PairP) (hx : x.length ≤ 1000000000) (k : Nat) (hk : x.length + 1 ≤ k) : stowagelaw18_Refs.f k x = some (x.map conv) := by
  unfold stowagelaw18_Refs.f
  have := refs_loop x hx x 0 [] k rfl (by simpa using hx) (by omega) hk
  simpa using this
theorem same_loop (x : List PairR) (hx : x.length ≤ 1000000000) : ∀ (n i k : Nat), i + n = x.length → n + 1 ≤ k → stowageref18_Same.l0 k x x (i : Int) = some true := by
  intro n
  induction n with
  | zero =>
    intro i k hi hk
    obtain ⟨k, rfl⟩ : ∃ m, k = m + 1 := ⟨k - 1, by omega⟩
    rw [stowageref18_Same.l0, if_neg (by omega)]
  | succ n ih =>
    intro i k hi hk
    obtain ⟨k, rfl⟩ : ∃ m, k = m + 1 := ⟨k - 1, by omega⟩
    rw [stowageref18_Same.l0, if_pos (by omega), if_pos (by omega), if_pos (by omega), if_neg (by simp), IntWalk.wrap64_in ((i : Int) + 1) (by omega), show ((i : Int) + 1) = ((i + 1 : Nat) : Int) by omega]
    exact ih (i + 1) k (by omega) (by omega)
theorem same_eq (x : List PairR) (hx : x.length ≤ 1000000000) (k : Nat) (hk : x.length + 1 ≤ k) : stowageref18_Same.f k x x = some true := by
  unfold stowageref18_Same.f
  rw [if_pos rfl]
  exact same_loop x hx x.length 0 k (by omega) hk
theorem awake_at (k : Nat) (hk : 4 ≤ k) : stowagelaw18_awake.f k = some true := at_rounds stowagelaw18_awake.mono hk awake_true
theorem pairs_j1 (t : ByteArray) (ht : t.size ≤ 5000) (k : Nat) (hk : 20 ≤ k) : stowagelaw18_PercentPairs.j1 (k + 1) t = some true := by
  rw [stowagelaw18_PercentPairs.j1]
  rcases unquery_cases t ht with ⟨e, he, h⟩ | ⟨m, hl, hs, hq, h⟩
  · rw [h]
    simp only [Option.bind_some]
    rw [if_neg he, awake_at k (by omega)]
    rfl
  · rw [h]
    simp only [Option.bind_some, if_true]
    rw [query_eq m hl hs k (by omega), if_pos hq]
    simp only [Option.bind_some]
    rw [unquery_pairs m hl hs hq, awake_at k (by omega)]
    simp only [Option.bind_some, if_true]
    rw [refs_eq m (by omega) k (by omega)]
    simp only [Option.bind_some]
    rw [same_eq _ (by rw [List.length_map]; omega) k (by rw [List.length_map]; omega)]
    rfl
def tot (l : List PairP) : Nat := (l.map fun p => p.f0.size + p.f1.size).sum
theorem small_of_tot : ∀ (l : List PairP), tot l ≤ 5000 → small l
  | [], _ => fun p hp => by simp at hp
  | q :: l, h => by
    have e : tot (q :: l) = q.f0.size + q.f1.size + tot l := by simp [tot]
    intro p hp
    rcases List.mem_cons.1 hp with rfl | hp
    · exact ⟨by omega, by omega⟩
    · exact small_of_tot l (by omega) p hp
theorem pairs_end (x : List PairP) (t : ByteArray) (n : Nat) (i : Nat) (hi : ¬ (i : Int) < x.length) (hn : n = t.size + tot x) (k : Nat) (hk : 40 ≤ k) (hx : x.length ≤ 1000000000) :
    stowagelaw18_PercentPairs.l0 (k + 1) x t (n : Int) (i : Int) = some true := by
  rw [stowagelaw18_PercentPairs.l0, if_neg hi]
  by_cases hb : (n : Int) > 5000
  · rw [if_pos hb, awake_at k (by omega)]
    rfl
  · have hsm := small_of_tot x (by omega)
    obtain ⟨k, rfl⟩ : ∃ m, k = m + 1 := ⟨k - 1, by omega⟩
    have hj := pairs_j1 t (by omega) k (by omega)
    rw [if_neg hb]
    rcases Nat.lt_or_ge 16 x.length with hm | hm
    · rw [query_many x hm]
      simp only [Option.bind_some]
      rw [if_neg (by omega)]
      exact hj
    · rw [query_eq x hm hsm _ (by omega)]
      by_cases hq : qOk x = true
      · rw [if_pos hq]
        simp only [Option.bind_some, if_true]
        rw [unquery_pairs x hm hsm hq]
        simp only [Option.bind_some, if_true]
        rw [refs_eq x hx _ (by omega)]
        simp only [Option.bind_some]
        rw [same_eq _ (by rw [List.length_map]; omega) _ (by rw [List.length_map]; omega)]
        simp only [Option.bind_some, if_true]
        exact hj
      · rw [if_neg hq]
        simp only [Option.bind_some]
        rw [if_neg (by omega)]
        exact hj
theorem pairs_loop (x : List PairP) (t : ByteArray) (hx : x.length ≤ 1000000000) : ∀ (l : List PairP) (i n k : Nat), x.drop i = l → n + tot l = t.size + tot x → n + tot l ≤ 1000000000 → i + l.length ≤ 1000000000 → l.length + 41 ≤ k →
    stowagelaw18_PercentPairs.l0 k x t (n : Int) (i : Int) = some true := by
  intro l
  induction l with
  | nil =>
    intro i n k hl hn hb hi hk
    obtain ⟨k, rfl⟩ : ∃ m, k = m + 1 := ⟨k - 1, by omega⟩
    exact pairs_end x t n i (rdP_nil hl) (by simpa [tot] using hn) k (by omega) hx
  | cons p l ih =>
    intro i n k hl hn hb hi hk
    obtain ⟨k, rfl⟩ : ∃ m, k = m + 1 := ⟨k - 1, by omega⟩
    simp only [List.length_cons] at hk hi
    have e : tot (p :: l) = p.f0.size + p.f1.size + tot l := by simp [tot]
    obtain ⟨h1, h2, h3⟩ := rdP_cons hl
    rw [stowagelaw18_PercentPairs.l0, if_pos h1, if_pos (by omega), h2, IntWalk.wrap64_in ((i : Int) + 1) (by omega), IntWalk.wrap64_in ((n : Int) + (p.f0.size : Int)) (by omega), IntWalk.wrap64_in _ (by omega),
      show ((i : Int) + 1) = ((i + 1 : Nat) : Int) by omega, show ((n : Int) + (p.f0.size : Int) + (p.f1.size : Int)) = ((n + (p.f0.size + p.f1.size) : Nat) : Int) by omega]
    exact ih (i + 1) _ k h3 (by omega) (by omega) (by omega) (by omega)
theorem PercentPairs_true (l : List PairP) (t : ByteArray) (hl : l.length ≤ 500000000) (h : t.size + tot l ≤ 500000000) : ∃ k, stowagelaw18_PercentPairs.f k l t = some true := by
  refine ⟨l.length + 41, ?_⟩
  unfold stowagelaw18_PercentPairs.f
  exact pairs_loop l t (by omega) l 0 t.size _ rfl rfl (by omega) (by omega) (by omega)
end Go.Proofs.YtfagmfmpiicggaaDoor.Pure
