/- Layer 12, the plain side: all items, and how keys are listed: the program's way and the document's. No program in sight. -/
import Derived.Test.YtapkojfodhdnaaaPureNC
namespace Go.Proofs.Ytapkojfodhdnaaa.Pure
open Go.RowKit Go.Proofs.Ytapkojfodhdnaaa.Hx Go.Proofs.YtapkojfodhdnaaaW.PrintWords Go.Proofs.YtapkojfodhdnaaaW.PrintLast Go.Proofs.YtapkojfodhdnaaaW.PrintMore
set_option linter.unusedVariables false
set_option linter.unusedSimpArgs false
abbrev lt := names_Fold_lt
abbrev Srt (l : List It) : Prop := l.Pairwise (fun a b => lt a b = true)
theorem lt_def (x y : It) : lt x y = (Op.bytesLess x.f0.toList y.f0.toList || (x.f0.toList == y.f0.toList && (!x.f1 && y.f1))) := rfl
theorem less_eq (x y : It) : stowageref12_less.f x.f0 x.f1 y.f0 y.f1 = some (lt x y) := by
  rw [lt_def]
  unfold stowageref12_less.f
  cases h1 : Op.bytesLess x.f0.toList y.f0.toList with
  | true => rw [if_pos rfl]; rfl
  | false =>
    rw [if_neg (by simp), Bool.false_or]
    by_cases h2 : x.f0.toList = y.f0.toList
    · rw [if_pos h2, h2, beq_self_eq_true, Bool.true_and]
      cases x.f1 <;> simp
    · rw [if_neg h2, beq_eq_false_iff_ne.2 h2]; rfl
theorem rd_map (l : List It) (i : Nat) (h : i < l.length) : rd_T37 (l.map cv) (i : Int) = cv l[i] := by
  unfold rd_T37
  rw [Int.toNat_natCast, List.getD_eq_getElem?_getD, List.getElem?_map, List.getElem?_eq_getElem h]
  rfl
theorem it_eq (x y : It) : (x.f0.toList == y.f0.toList && x.f1 == y.f1) = true ↔ x = y := by
  rw [Bool.and_eq_true, beq_iff_eq, beq_iff_eq, ByteArray.toList_eq, ByteArray.toList_eq]
  constructor
  · rintro ⟨h1, h2⟩
    obtain ⟨x0, x1⟩ := x
    obtain ⟨y0, y1⟩ := y
    have := ba_ext h1
    simp at h2 this
    rw [this, h2]
  · rintro rfl; exact ⟨rfl, rfl⟩
theorem put1_at (x : It) : ∀ (l : List It) (i : Nat), i ≤ l.length → (∀ j, (h : j < i) → (hl : j < l.length) → lt l[j] x = true) → put1 lt x l = l.take i ++ put1 lt x (l.drop i)
  | l, 0, _, _ => by simp
  | [], i + 1, h, _ => by simp at h
  | y :: l, i + 1, h, hp => by
    have h0 := hp 0 (by omega) (by simp)
    simp only [List.getElem_cons_zero] at h0
    rw [put1, if_pos h0, put1_at x l i (by simpa using h) (fun j hj hl => by
      have := hp (j + 1) (by omega) (by simpa using hl)
      simpa using this)]
    simp
theorem with_loop (l : List It) (x : It) (hl : l.length ≤ 1048576) : ∀ n i k, i + n = l.length → n < k → (∀ j, (h : j < i) → (h2 : j < l.length) → lt l[j] x = true) →
    stowageref12_with.l0 k (l.map cv) (i : Int) x.f0 x.f1 = some ((put1 lt x l).map cv) := by
  intro n
  induction n with
  | zero =>
    intro i k hi hk hp
    obtain ⟨k, rfl⟩ : ∃ j, k = j + 1 := ⟨k - 1, by omega⟩
    have he : i = l.length := by omega
    have hput := put1_at x l i (by omega) hp
    rw [he, List.take_length, List.drop_length] at hput
    rw [stowageref12_with.l0, if_neg (by rw [List.length_map]; omega), if_pos (by omega), if_pos (by rw [List.length_map]; omega), Option.bind_some, hput, Int.toNat_natCast, he]
    simp only [Option.bind_some, List.nil_append]
    have h1 : (l.map cv).take l.length = l.map cv := List.take_of_length_le (by simp)
    have h2 : (l.map cv).drop l.length = [] := List.drop_of_length_le (by simp)
    rw [h1, h2, if_pos (by simp; omega), if_pos (by simp; omega), if_pos (by simp; omega)]
    simp [put1, cv]
  | succ n ih =>
    intro i k hi hk hp
    obtain ⟨k, rfl⟩ : ∃ j, k = j + 1 := ⟨k - 1, by omega⟩
    have hil : i < l.length := by omega
    have hw1 : wrap64 ((i : Int) + 1) = ((i + 1 : Nat) : Int) := by rw [IntWalk.wrap64_in _ (by omega)]; omega
    rw [stowageref12_with.l0, if_pos (by rw [List.length_map]; omega), if_pos (by omega), rd_map l i hil, show (cv l[i]).f0 = l[i].f0 from rfl, show (cv l[i]).f1 = l[i].f1 from rfl, less_eq, Option.bind_some]
    by_cases hlt : lt l[i] x = true
    · rw [if_pos hlt, hw1]
      exact ih (i + 1) k (by omega) (by omega) (fun j hj h2 => by
        by_cases hji : j = i
        · subst hji; exact hlt
        · exact hp j (by omega) h2)
    · rw [if_neg hlt]
      have hput := put1_at x l i (by omega) hp
      have hd : l.drop i = l[i] :: l.drop (i + 1) := List.drop_eq_getElem_cons hil
      by_cases he : l[i] = x
      · rw [if_pos ((it_eq l[i] x).2 he)]
        rw [hd, put1, if_neg hlt, if_pos he, ← hd, List.take_append_drop] at hput
        rw [hput]
      · rw [if_neg (fun h => he ((it_eq l[i] x).1 h)), if_pos (by rw [List.length_map]; omega)]
        rw [hd, put1, if_neg hlt, if_neg he, ← hd] at hput
        rw [hput, Int.toNat_natCast]
        simp only [Option.bind_some, List.nil_append]
        rw [if_pos (by simp; omega), if_pos (by simp; omega), if_pos (by simp; omega)]
        simp [cv]
theorem with_eq (l : List It) (x : It) (hl : l.length ≤ 1048576) (k : Nat) (hk : l.length < k) : stowageref12_with.f k (l.map cv) x.f0 x.f1 = some ((put1 lt x l).map cv) :=
  with_loop l x hl l.length 0 k (by omega) (by omega) (fun j hj _ => by omega)
theorem put1_length (x : It) : ∀ l : List It, (put1 lt x l).length ≤ l.length + 1
  | [] => by simp [put1]
  | y :: l => by
    rw [put1]
    have := put1_length x l
    split
    · simp; omega
    · split <;> simp
theorem rdOf_get (l : List ByteArray) (i : Nat) (h : i < l.length) : rdOf ByteArray.empty l (i : Int) = l[i] := by
  unfold rdOf
  rw [Int.toNat_natCast, List.getD_eq_getElem?_getD, List.getElem?_eq_getElem h]; rfl
/-- All items, one after the other. -/
def allIn (p d : ByteArray) (l : List ByteArray) (acc : List It) : List It := (l.filterMap fun k => itemOf k p d).foldl (fun a x => put1 lt x a) acc
theorem allIn_cons (p d : ByteArray) (k : ByteArray) (l : List ByteArray) (acc : List It) : allIn p d (k :: l) acc = allIn p d l (match itemOf k p d with | none => acc | some x => put1 lt x acc) := by
  unfold allIn
  rw [List.filterMap_cons]
  cases itemOf k p d <;> rfl
theorem items_loop (ks : List ByteArray) (p d : ByteArray) (hks : ∀ k ∈ ks, k.size ≤ 1048576) (hp : p.size ≤ 1048576) (hd : d.size ≤ 1048576) (hl : ks.length ≤ 1000) : ∀ n i f (acc : List It), i + n = ks.length → n + 3000001 < f → acc.length ≤ i →
    stowageref12_Items.l0 f ks p d (acc.map cv) (i : Int) = some ((allIn p d (ks.drop i) acc).map cv) := by
  intro n
  induction n with
  | zero =>
    intro i f acc hi hf ha
    obtain ⟨f, rfl⟩ : ∃ j, f = j + 1 := ⟨f - 1, by omega⟩
    rw [stowageref12_Items.l0, if_neg (by omega), List.drop_of_length_le (by omega)]; rfl
  | succ n ih =>
    intro i f acc hi hf ha
    obtain ⟨f, rfl⟩ : ∃ j, f = j + 1 := ⟨f - 1, by omega⟩
    have hil : i < ks.length := by omega
    have hw1 : wrap64 ((i : Int) + 1) = ((i + 1 : Nat) : Int) := by rw [IntWalk.wrap64_in _ (by omega)]; omega
    rw [stowageref12_Items.l0, if_pos (by omega), if_pos (by omega), rdOf_get ks i hil, ref_Of_eq _ p d (hks _ (List.getElem_mem hil)) hp hd f (by omega), Option.bind_some, List.drop_eq_getElem_cons hil, allIn_cons, hw1]
    cases hit : itemOf ks[i] p d with
    | none =>
      rw [if_neg (show ¬ (told none).2.2 = true by decide)]
      exact ih (i + 1) f acc (by omega) (by omega) (by omega)
    | some x =>
      rw [if_pos (show (told (some x)).2.2 = true from rfl), show stowageref12_with.f f (acc.map cv) (told (some x)).1 (told (some x)).2.1 = some ((put1 lt x acc).map cv) from with_eq acc x (by omega) f (by omega), Option.bind_some]
      exact ih (i + 1) f _ (by omega) (by omega) (by have := put1_length x acc; omega)
theorem ref_Items_eq (ks : List ByteArray) (p d : ByteArray) (hks : ∀ k ∈ ks, k.size ≤ 1048576) (hp : p.size ≤ 1048576) (hd : d.size ≤ 1048576) (hl : ks.length ≤ 1000) (f : Nat) (hf : 4000000 ≤ f) :
    stowageref12_Items.f f ks p d = some ((allIn p d ks []).map cv) :=
  items_loop ks p d hks hp hd hl ks.length 0 f [] (by omega) (by omega) (by simp)
/-- An item stands behind a text. -/
def good (a : ByteArray) (x : It) : Bool := Op.bytesLess a.toList x.f0.toList
def page (l : List It) (m : Int) : List It × Bool := if max m 0 < (l.length : Int) then (l.take (max m 0).toNat, true) else (l, false)
theorem ref_fold_loop (a : ByteArray) (m : Int) (l : List It) (hl : l.length ≤ 1048576) : ∀ n i k (acc : List It), i + n = l.length → n < k → acc.length ≤ i → acc.length ≤ (max m 0).toNat →
    stowageref12_Fold.l0 k a m (l.map cv) (acc.map cv) (i : Int) = some ((page (acc ++ (l.drop i).filter (good a)) m).1.map cv, (page (acc ++ (l.drop i).filter (good a)) m).2) := by
  intro n
  induction n with
  | zero =>
    intro i k acc hi hk ha hm
    obtain ⟨k, rfl⟩ : ∃ j, k = j + 1 := ⟨k - 1, by omega⟩
    rw [stowageref12_Fold.l0, if_neg (by rw [List.length_map]; omega), List.drop_of_length_le (by omega)]
    unfold page
    rw [if_neg (by simp; omega)]
    simp
  | succ n ih =>
    intro i k acc hi hk ha hm
    obtain ⟨k, rfl⟩ : ∃ j, k = j + 1 := ⟨k - 1, by omega⟩
    have hil : i < l.length := by omega
    have hw1 : wrap64 ((i : Int) + 1) = ((i + 1 : Nat) : Int) := by rw [IntWalk.wrap64_in _ (by omega)]; omega
    rw [stowageref12_Fold.l0, if_pos (by rw [List.length_map]; omega), if_pos (by omega), rd_map l i hil, show (cv l[i]).f0 = l[i].f0 from rfl, show (cv l[i]).f1 = l[i].f1 from rfl, List.drop_eq_getElem_cons hil, List.filter_cons, hw1]
    by_cases hg : good a l[i] = true
    · rw [if_pos (show Op.bytesLess a.toList l[i].f0.toList = true from hg), if_pos hg, List.length_map]
      by_cases hm2 : (acc.length : Int) ≥ m
      · rw [if_pos hm2]
        unfold page
        rw [if_pos (by simp; omega)]
        have : (max m 0).toNat = acc.length := by omega
        rw [this]
        simp
      · rw [if_neg hm2, if_pos (by omega)]
        have := ih (i + 1) k (acc ++ [l[i]]) (by omega) (by omega) (by simp; omega) (by simp; omega)
        rw [List.map_append] at this
        rw [show (⟨l[i].f0, l[i].f1⟩ : Rt) = cv l[i] from rfl, show [cv l[i]] = [l[i]].map cv from rfl, this, List.append_assoc]
        rfl
    · rw [if_neg (show ¬ Op.bytesLess a.toList l[i].f0.toList = true from hg), if_neg hg]
      exact ih (i + 1) k acc (by omega) (by omega) (by omega) hm
theorem allIn_spec (p d : ByteArray) (ks : List ByteArray) : Srt (allIn p d ks []) ∧ ∀ z, z ∈ allIn p d ks [] ↔ ∃ k ∈ ks, itemOf k p d = some z := by
  obtain ⟨h1, h2⟩ := put_all lt names_Fold_irr names_Fold_tr names_Fold_tot (ks.filterMap fun k => itemOf k p d) [] List.Pairwise.nil
  refine ⟨h1, fun z => (h2 z).trans ?_⟩
  simp
theorem allIn_length (p d : ByteArray) : ∀ (ks : List ByteArray) (acc : List It), (allIn p d ks acc).length ≤ ks.length + acc.length
  | [], acc => by simp [allIn]
  | k :: ks, acc => by
    rw [allIn_cons]
    cases hit : itemOf k p d with
    | none =>
      have h1 := allIn_length p d ks acc
      show (allIn p d ks acc).length ≤ _
      simp; omega
    | some x =>
      have h1 := allIn_length p d ks (put1 lt x acc)
      have h2 := put1_length x acc
      show (allIn p d ks (put1 lt x acc)).length ≤ _
      simp; omega
/-- What a listing is. -/
def listed (ks : List ByteArray) (p d a : ByteArray) (m : Int) : List It × Bool := page ((allIn p d ks []).filter (good a)) m
theorem ref_Fold_eq (ks : List ByteArray) (p d a : ByteArray) (m : Int) (hks : ∀ k ∈ ks, k.size ≤ 1048576) (hp : p.size ≤ 1048576) (hd : d.size ≤ 1048576) (hl : ks.length ≤ 1000) (f : Nat) (hf : 4000000 ≤ f) :
    stowageref12_Fold.f f ks p d a m = some ((listed ks p d a m).1.map cv, (listed ks p d a m).2) := by
  unfold stowageref12_Fold.f
  rw [ref_Items_eq ks p d hks hp hd hl f hf, Option.bind_some]
  have hal := allIn_length p d ks []
  simp only [List.length_nil, Nat.add_zero] at hal
  exact ref_fold_loop a m (allIn p d ks []) (by omega) (allIn p d ks []).length 0 f [] (by omega) (by omega) (by simp) (by simp)
/-! ### The program's way -/
theorem its_eq (p d a : ByteArray) (hp : p.size ≤ 1048576) (hd : d.size ≤ 1048576) : ∀ (ks : List ByteArray) (acc : List It), (∀ k ∈ ks, k.size ≤ 1048576) →
    names_Fold_its p d a ks acc = some (once acc ((ks.filterMap fun k => itemOf k p d).filter (good a)))
  | [], acc, _ => rfl
  | k :: ks, acc, h => by
    have hk := h k (by simp)
    have ih := fun acc => its_eq p d a hp hd ks acc (fun k hk => h k (by simp [hk]))
    rw [names_Fold_its, names_item_eq k p d hk hp hd, Option.bind_some, List.filterMap_cons]
    have hsz : ∀ x, itemOf k p d = some x → x.f0.size ≤ 1048576 := by
      intro x hx
      unfold itemOf at hx
      split at hx
      · split at hx
        · cases hx; exact hk
        · split at hx
          · cases hx; simp; omega
          · cases hx; exact hk
      · cases hx
    cases hit : itemOf k p d with
    | none =>
      show _ = some (once acc ((ks.filterMap fun k => itemOf k p d).filter (good a)))
      rw [if_pos (show (told none).1.size ≤ 9223372036854775807 by decide), if_neg (show ¬ ((told none).2.2 && Op.bytesLess a.toList (told none).1.toList) = true by simp [told]), ih]
    | some x =>
      have h1 := hsz x hit
      rw [if_pos (show (told (some x)).1.size ≤ 9223372036854775807 from (show x.f0.size ≤ 9223372036854775807 by omega)), ih]
      show _ = some (once acc ((x :: ks.filterMap fun k => itemOf k p d).filter (good a)))
      rw [List.filter_cons]
      by_cases hg : good a x = true
      · rw [if_pos (show ((told (some x)).2.2 && Op.bytesLess a.toList (told (some x)).1.toList) = true from hg), if_pos hg, once]
        show some (once (if x ∈ acc then acc else acc ++ [x]) _) = _
        split <;> rfl
      · rw [if_neg (show ¬ ((told (some x)).2.2 && Op.bytesLess a.toList (told (some x)).1.toList) = true from hg), if_neg hg]
theorem names_Fold_eq (ks : List ByteArray) (p d a : ByteArray) (m : Int) (hks : ∀ k ∈ ks, k.size ≤ 1048576) (hp : p.size ≤ 1048576) (hd : d.size ≤ 1048576) (hl : ks.length ≤ 1000) :
    names_Fold.f ks p d a m = some (listed ks p d a m) := by
  unfold names_Fold.f
  rw [if_pos (by omega), its_eq p d a hp hd ks [] hks, Option.bind_some]
  have hs := allIn_spec p d ks
  have hnd := once_nodup ((ks.filterMap fun k => itemOf k p d).filter (good a)) [] List.nodup_nil
  have he : names_Fold_srt (once [] ((ks.filterMap fun k => itemOf k p d).filter (good a))) = (allIn p d ks []).filter (good a) := by
    refine srt_unique _ _ hnd (hs.1.filter _) (fun z => ?_)
    rw [once_mem, List.mem_filter, hs.2 z, List.mem_filter]
    simp
  have hlen : (once [] ((ks.filterMap fun k => itemOf k p d).filter (good a))).length = ((allIn p d ks []).filter (good a)).length := by
    rw [← he]; exact (List.length_mergeSort _).symm
  unfold listed page
  rw [he, hlen]
  split <;> rfl
theorem same_loop (l : List It) (hl : l.length ≤ 1048576) : ∀ n i k, i + n = l.length → n < k → stowagelaw12_Same.l0 k l (l.map cv) (i : Int) = some true := by
  intro n
  induction n with
  | zero =>
    intro i k hi hk
    obtain ⟨k, rfl⟩ : ∃ j, k = j + 1 := ⟨k - 1, by omega⟩
    rw [stowagelaw12_Same.l0, if_neg (by omega)]
  | succ n ih =>
    intro i k hi hk
    obtain ⟨k, rfl⟩ : ∃ j, k = j + 1 := ⟨k - 1, by omega⟩
    have hil : i < l.length := by omega
    have hw1 : wrap64 ((i : Int) + 1) = ((i + 1 : Nat) : Int) := by rw [IntWalk.wrap64_in _ (by omega)]; omega
    have hr : rd_T38 l (i : Int) = l[i] := by
      unfold rd_T38
      rw [Int.toNat_natCast, List.getD_eq_getElem?_getD, List.getElem?_eq_getElem hil]; rfl
    rw [stowagelaw12_Same.l0, if_pos (by omega), if_pos (by omega), if_pos (by rw [List.length_map]; omega), rd_map l i hil, hr, show (cv l[i]).f0 = l[i].f0 from rfl, show (cv l[i]).f1 = l[i].f1 from rfl, beq_self_eq_true, beq_self_eq_true, if_neg (by simp), hw1]
    exact ih (i + 1) k (by omega) (by omega)
theorem same_eq (l : List It) (hl : l.length ≤ 1048576) (k : Nat) (hk : l.length < k) : stowagelaw12_Same.f k l (l.map cv) = some true := by
  unfold stowagelaw12_Same.f
  rw [if_pos (by simp)]
  exact same_loop l hl l.length 0 k (by omega) (by omega)
theorem page_length (l : List It) (m : Int) : (page l m).1.length ≤ l.length := by
  unfold page
  split
  · simp; omega
  · simp
theorem listed_length (ks : List ByteArray) (p d a : ByteArray) (m : Int) : (listed ks p d a m).1.length ≤ ks.length := by
  have h1 := page_length ((allIn p d ks []).filter (good a)) m
  have h2 := List.length_filter_le (good a) (allIn p d ks [])
  have h3 := allIn_length p d ks []
  unfold listed
  simp at h3
  omega
theorem NamesFolds_true (ks : List ByteArray) (p d a : ByteArray) (m : Int) (hks : ∀ k ∈ ks, k.size ≤ 1048576) (hp : p.size ≤ 1048576) (hd : d.size ≤ 1048576) : ∃ k, stowagelaw12_NamesFolds.f k ks p d a m = some true := by
  refine ⟨4000000, ?_⟩
  unfold stowagelaw12_NamesFolds.f
  by_cases hl : ks.length ≤ 200
  · have hll := listed_length ks p d a m
    rw [if_neg (by omega), names_Fold_eq ks p d a m hks hp hd (by omega), Option.bind_some, ref_Fold_eq ks p d a m hks hp hd (by omega) _ (by omega), Option.bind_some, awake_true _ (by omega), Option.bind_some, if_pos rfl, same_eq _ (by omega) _ (by omega), Option.bind_some, if_pos rfl]
    simp
  · rw [if_pos (by omega), awake_true _ (by omega)]; rfl
end Go.Proofs.Ytapkojfodhdnaaa.Pure
