/- Layer 15, the plain side: the law TokenNotes. No program in sight. -/
import Derived.Test.YtekfemiomdpahaaDoorPureLooks
import Derived.Test.YtekfemiomdpahaaDoorHx17
import Derived.Test.YtekfemiomdpahaaDoorHx18
namespace Go.Proofs.YtekfemiomdpahaaDoor.Pure
open Go.RowKit Go.Proofs.YtekfemiomdpahaaDoor.Hx Go.Proofs.YtekfemiomdpahaaDoorW.PrintWords Go.Proofs.YtekfemiomdpahaaDoorW.PrintLast Go.Proofs.YtekfemiomdpahaaDoorW.PrintMore
set_option linter.unusedVariables false
set_option linter.unusedSimpArgs false
/-! ### Note -/
theorem rnote_hit (l : List Held) (h : Held) (R : Nat) (hR : R < l.length) (hl : l.length ≤ 64) (he : (rd l R).f0.toList = h.f0.toList) (hne : ∀ m, m < R → (rd l m).f0.toList ≠ h.f0.toList) : ∀ n i k x6, i + n = R → n < k → x6.length ≤ i →
    stowageref15_Note.l0 k (l.map ref) x6 (i : Int) h.f0 h.f1 h.f2 h.f3 = some (([] : List Ref), 71) := by
  intro n
  induction n with
  | zero =>
    intro i k x6 hi hk h6
    obtain ⟨k, rfl⟩ : ∃ j, k = j + 1 := ⟨k - 1, by omega⟩
    obtain rfl : i = R := by omega
    rw [stowageref15_Note.l0, List.length_map, if_pos (by omega), if_pos (by omega), rd_ref hR, if_pos (by exact he)]
  | succ n ih =>
    intro i k x6 hi hk h6
    obtain ⟨k, rfl⟩ : ∃ j, k = j + 1 := ⟨k - 1, by omega⟩
    rw [stowageref15_Note.l0, List.length_map, if_pos (by omega), if_pos (by omega), rd_ref (by omega), if_neg (by exact hne i (by omega)), IntWalk.wrap64_in ((i : Int) + 1) (by omega), show ((i : Int) + 1) = ((i + 1 : Nat) : Int) by omega]
    by_cases hb : Op.bytesLess (ref (rd l i)).f0.toList h.f0.toList = true
    · rw [if_pos hb, if_pos (by omega)]
      exact ih (i + 1) k _ (by omega) (by omega) (by simp; omega)
    · rw [if_neg hb]
      exact ih (i + 1) k _ (by omega) (by omega) (by omega)
theorem rnote_miss (l : List Held) (h : Held) (R : Nat) (hR : R ≤ l.length) (hl : l.length ≤ 64) (hlo : ∀ m, m < R → bel l h.f0 m = true) (hhi : ∀ m, R ≤ m → m < l.length → bel l h.f0 m = false) (hne : ∀ m, m < l.length → (rd l m).f0.toList ≠ h.f0.toList) : ∀ n i k, i + n = l.length → n < k →
    stowageref15_Note.l0 k (l.map ref) ((l.take (min i R)).map ref) (i : Int) h.f0 h.f1 h.f2 h.f3 = if l.length = 64 then some (([] : List Ref), 131) else some ((l.take R ++ h :: l.drop R).map ref, 0) := by
  intro n
  induction n with
  | zero =>
    intro i k hi hk
    obtain ⟨k, rfl⟩ : ∃ j, k = j + 1 := ⟨k - 1, by omega⟩
    obtain rfl : i = l.length := by omega
    have hm : min l.length R = R := by omega
    have hlt : ((l.take R).map ref).length = R := by rw [List.length_map, List.length_take]; omega
    rw [stowageref15_Note.l0, hm, hlt, List.length_map, if_neg (by omega)]
    by_cases h64 : l.length = 64
    · rw [if_pos (by omega), if_pos h64]
    · rw [if_neg (by omega), if_neg h64, if_pos (by omega), Option.bind_some, if_pos (by omega), if_pos (by omega), Option.bind_some, Int.toNat_natCast]
      rw [if_pos (by simp only [List.length_append, List.length_drop, List.length_map, List.length_take, List.length_cons, List.length_nil]; omega)]
      congr 1
      rw [List.map_append, List.map_cons, List.map_drop, List.append_assoc]
      rfl
  | succ n ih =>
    intro i k hi hk
    obtain ⟨k, rfl⟩ : ∃ j, k = j + 1 := ⟨k - 1, by omega⟩
    rw [stowageref15_Note.l0, List.length_map, if_pos (by omega), if_pos (by omega), rd_ref (by omega), if_neg (by exact hne i (by omega)), IntWalk.wrap64_in ((i : Int) + 1) (by omega), show ((i : Int) + 1) = ((i + 1 : Nat) : Int) by omega]
    have hbb : Op.bytesLess (ref (rd l i)).f0.toList h.f0.toList = bel l h.f0 i := rfl
    rw [hbb, ← ih (i + 1) k (by omega) (by omega)]
    by_cases hb : i < R
    · rw [hlo i hb, if_pos rfl, if_pos (by rw [List.length_map, List.length_take]; omega)]
      congr 1
      rw [show min i R = i by omega, show min (i + 1) R = i + 1 by omega, List.take_add_one, rd_eq (l := l) (i := i) (by omega), List.map_append]
      rfl
    · rw [hhi i (by omega) (by omega), if_neg (by simp), show min (i + 1) R = min i R by omega]
/-- The program's answer and the reference's. -/
theorem note_eq (l : List Held) (hs : Small l) (h : Held) (h0 : h.f0.size ≤ 1048576) (h1 : h.f1.size ≤ 1048576) (k : Nat) (hk : 6291470 ≤ k) : ∃ r e, r.length ≤ 65 ∧ token_Note.f k l h.f0 h.f1 h.f2 h.f3 = some (r, e) ∧ stowageref15_Note.f k (l.map ref) h.f0 h.f1 h.f2 h.f3 = some (r.map ref, e) := by
  unfold token_Note.f stowageref15_Note.f
  rw [right_eq l hs k (by omega), may15_eq l hs k (by omega), Option.bind_some, Option.bind_some, one_eq _ _ _ _ h0 h1 k (by omega), may_eq _ _ _ _ h0 h1 k (by omega), Option.bind_some, Option.bind_some]
  obtain ⟨k, rfl⟩ : ∃ j, k = j + 1 := ⟨k - 1, by omega⟩
  cases ht : tableOk l with
  | false => exact ⟨[], 1, by simp, by rw [if_neg (by simp)], by rw [if_neg (by simp), stowageref15_Note.j0, if_pos rfl]; rfl⟩
  | true =>
    rw [if_pos rfl, if_pos rfl]
    cases ho : (tokOk h.f0 && (hexOk h.f1 && (decide (h.f2.size ≤ 4096) && (decide (1 ≤ h.f3) && decide (h.f3 ≤ 1099511627776))))) with
    | false => exact ⟨[], 1, by simp, by rw [if_neg (by simp)], by rw [stowageref15_Note.j0]; rfl⟩
    | true =>
      rw [if_pos rfl, stowageref15_Note.j0, if_neg (by simp)]
      have hl := len_of ht
      obtain ⟨R, is, hf, g1, g2, g3, g4, g5, g6⟩ := find_eq l (sorted_of ht) hl h.f0
      rw [hf, Option.bind_some]
      unfold token_Note_ins
      cases is with
      | true =>
        obtain ⟨hR, he⟩ := g4 rfl
        exact ⟨[], 71, by simp, by rw [if_pos rfl], rnote_hit l h R hR hl he g6 R 0 k [] (by omega) (by omega) (by simp)⟩
      | false =>
        have hm := rnote_miss l h R g1 hl g2 g3 (g5 rfl) l.length 0 k (by omega) (by omega)
        rw [show min 0 R = 0 by omega] at hm
        rw [if_neg (by simp)]
        by_cases h64 : l.length = 64
        · rw [if_pos h64] at hm ⊢
          exact ⟨[], 131, by simp, rfl, hm⟩
        · rw [if_neg h64] at hm ⊢
          refine ⟨l.take R ++ h :: l.drop R, 0, by simp only [List.length_append, List.length_cons, List.length_take, List.length_drop]; omega, ?_, hm⟩
          rw [if_pos ⟨by omega, by omega, by omega⟩, Int.toNat_natCast]
/-! ### Expire -/
theorem rexp_l (l : List Held) (u : Int) (hl : l.length ≤ 64) : ∀ n i k, i + n = l.length → n < k →
    stowageref15_Expire.l0 k (l.map ref) u (((l.take i).filter fun h => !decide (h.f3 ≤ u)).map ref) (i : Int) = some ((l.filter fun h => !decide (h.f3 ≤ u)).map ref, (l.length : Int) - ((l.filter fun h => !decide (h.f3 ≤ u)).length : Int)) := by
  intro n
  induction n with
  | zero =>
    intro i k hi hk
    obtain ⟨k, rfl⟩ : ∃ j, k = j + 1 := ⟨k - 1, by omega⟩
    have hfl := List.length_filter_le (fun h : Held => !decide (h.f3 ≤ u)) l
    rw [stowageref15_Expire.l0, List.length_map, if_neg (by omega), List.take_of_length_le (by omega), List.length_map, IntWalk.wrap64_in _ (by omega)]
  | succ n ih =>
    intro i k hi hk
    obtain ⟨k, rfl⟩ : ∃ j, k = j + 1 := ⟨k - 1, by omega⟩
    have hfl := List.length_filter_le (fun h : Held => !decide (h.f3 ≤ u)) (l.take i)
    rw [List.length_take] at hfl
    rw [stowageref15_Expire.l0, List.length_map, if_pos (by omega), if_pos (by omega), rd_ref (by omega), IntWalk.wrap64_in ((i : Int) + 1) (by omega), show ((i : Int) + 1) = ((i + 1 : Nat) : Int) by omega, ← ih (i + 1) k (by omega) (by omega)]
    have ht : l.take (i + 1) = l.take i ++ [rd l i] := by rw [List.take_add_one, rd_eq (l := l) (i := i) (by omega)]; rfl
    rw [ht, List.filter_append, List.map_append]
    show (if (rd l i).f3 > u then _ else _) = _
    by_cases hb : (rd l i).f3 ≤ u
    · rw [if_neg (by omega)]
      rw [show ([rd l i].filter fun h => !decide (h.f3 ≤ u)) = [] by simp [hb]]
      rw [List.map_nil, List.append_nil]
    · rw [if_pos (by omega), if_pos (by rw [List.length_map]; omega)]
      rw [show ([rd l i].filter fun h => !decide (h.f3 ≤ u)) = [rd l i] by simp; omega]
      rfl
theorem expire_eq (l : List Held) (hs : Small l) (u : Int) (k : Nat) (hk : 6291470 ≤ k) : ∃ r e, r.length ≤ 64 ∧ token_Expire.f k l u = some (r, e) ∧ stowageref15_Expire.f k (l.map ref) u = some (r.map ref, e) := by
  unfold token_Expire.f stowageref15_Expire.f
  rw [right_eq l hs k (by omega), may15_eq l hs k (by omega), Option.bind_some, Option.bind_some]
  cases ht : tableOk l with
  | false => exact ⟨[], 0, by simp, by rw [if_neg (by simp)], by rw [if_neg (by simp)]; rfl⟩
  | true =>
    have hl := len_of ht
    have hfl := List.length_filter_le (fun h : Held => !decide (h.f3 ≤ u)) l
    rw [if_pos rfl, if_pos rfl, token_Expire_cut, if_pos hl]
    exact ⟨_, _, Nat.le_trans (List.length_filter_le _ _) hl, rfl, rexp_l l u hl l.length 0 k (by omega) (by omega)⟩
theorem same_l (l : List Ref) (hl : l.length ≤ 65) : ∀ n i k, i + n = l.length → n < k → stowageref15_Same.l0 k l l (i : Int) = some true := by
  intro n
  induction n with
  | zero =>
    intro i k hi hk
    obtain ⟨k, rfl⟩ : ∃ j, k = j + 1 := ⟨k - 1, by omega⟩
    rw [stowageref15_Same.l0, if_neg (by omega)]
  | succ n ih =>
    intro i k hi hk
    obtain ⟨k, rfl⟩ : ∃ j, k = j + 1 := ⟨k - 1, by omega⟩
    rw [stowageref15_Same.l0, if_pos (by omega), if_pos (by omega), if_pos (by omega), if_neg (by simp), IntWalk.wrap64_in ((i : Int) + 1) (by omega), show ((i : Int) + 1) = ((i + 1 : Nat) : Int) by omega]
    exact ih (i + 1) k (by omega) (by omega)
theorem same_eq (l : List Ref) (hl : l.length ≤ 65) (k : Nat) (hk : 66 ≤ k) : stowageref15_Same.f k l l = some true := by
  unfold stowageref15_Same.f
  rw [if_pos rfl]
  exact same_l l hl l.length 0 k (by omega) (by omega)
theorem TokenNotes_true (l : List Held) (h : Held) (u : Int) (hs : Small l) (h0 : h.f0.size ≤ 1048576) (h1 : h.f1.size ≤ 1048576) : ∃ k, stowagelaw15_TokenNotes.f k l h.f0 h.f1 h.f2 h.f3 u = some true := by
  refine ⟨6291470, ?_⟩
  obtain ⟨r, e, hr, a1, a2⟩ := note_eq l hs h h0 h1 6291470 (Nat.le_refl _)
  obtain ⟨x, n, hx, b1, b2⟩ := expire_eq l hs u 6291470 (Nat.le_refl _)
  unfold stowagelaw15_TokenNotes.f
  rw [a1, b1, refs_eq l hs.1 6291470 (by omega), awake_at 6291470 (by omega)]
  simp only [Option.bind_some]
  rw [a2, b2]
  simp only [Option.bind_some]
  rw [refs_eq r (by omega) 6291470 (by omega), refs_eq x (by omega) 6291470 (by omega)]
  simp only [Option.bind_some]
  rw [same_eq _ (by rw [List.length_map]; omega) 6291470 (by omega), same_eq _ (by rw [List.length_map]; omega) 6291470 (by omega)]
  simp
end Go.Proofs.YtekfemiomdpahaaDoor.Pure
