/- Layer 12, the plain side: what a key is told as; all items; how keys are listed. No program in sight. -/
import Derived.Test.YtapkojfodhdnaaaPureNB
import Derived.Test.YtapkojfodhdnaaaHx13
namespace Go.Proofs.Ytapkojfodhdnaaa.Pure
open Go.RowKit Go.Proofs.Ytapkojfodhdnaaa.Hx Go.Proofs.YtapkojfodhdnaaaW.PrintWords Go.Proofs.YtapkojfodhdnaaaW.PrintLast Go.Proofs.YtapkojfodhdnaaaW.PrintMore
set_option linter.unusedVariables false
set_option linter.unusedSimpArgs false
abbrev Rt := S37
def cv (x : It) : Rt := ⟨x.f0, x.f1⟩
theorem cv_inj {x y : It} (h : cv x = cv y) : x = y := by cases x; cases y; simp [cv] at h; simp [h]
/-- What a key is told as. -/
def itemOf (k p d : ByteArray) : Option It :=
  if Lib.hasPrefix k.data.toList p.data.toList = true then
    (if d.size = 0 then some ⟨k, false⟩ else if 0 ≤ Lib.index (k.data.toList.drop p.size) d.data.toList then some ⟨k.extract 0 (p.size + (Lib.index (k.data.toList.drop p.size) d.data.toList).toNat + d.size), true⟩ else some ⟨k, false⟩)
  else none
def told : Option It → ByteArray × Bool × Bool
  | none => (⟨#[]⟩, false, false)
  | some x => (x.f0, x.f1, true)
theorem ba_ext {a b : ByteArray} (h : a.data.toList = b.data.toList) : a = b := ByteArray.ext (Array.ext' h)
theorem pre_eq (p l : List UInt8) (h : p.isPrefixOf l = true) : l = p ++ l.drop p.length := by
  obtain ⟨t, rfl⟩ := List.isPrefixOf_iff_prefix.1 h
  simp
theorem index_at (s sub : List UInt8) (i : Nat) (h : Lib.index s sub = (i : Int)) : s.drop i = sub ++ s.drop (i + sub.length) := by
  rcases Lib.index_spec s sub with ⟨h1, _⟩ | ⟨j, h1, _, h2, _⟩
  · omega
  · have : j = i := by omega
    subst this
    have := pre_eq sub (s.drop j) h2
    rw [List.drop_drop] at this
    exact this
theorem names_item_eq (k p d : ByteArray) (hk : k.size ≤ 1048576) (hp : p.size ≤ 1048576) (hd : d.size ≤ 1048576) : names_item.f k p d = some (told (itemOf k p d)) := by
  unfold names_item.f strings_CutPrefix.f itemOf
  rw [Option.bind_some]
  have lk := len_eq k
  have lp := len_eq p
  have ld := len_eq d
  cases hpre : Lib.hasPrefix k.data.toList p.data.toList with
  | false => rw [if_neg (by simp), if_neg (by simp)]; rfl
  | true =>
    have hke := pre_eq _ _ hpre
    rw [lp] at hke
    have hrest : (Lib.trimPrefix k.data.toList p.data.toList) = k.data.toList.drop p.size := by unfold Lib.trimPrefix; rw [if_pos hpre, lp]
    rw [if_pos rfl, if_pos rfl]
    simp only [hrest]
    unfold strings_Cut.f
    have hrs : (⟨(k.data.toList.drop p.size).toArray⟩ : ByteArray).size = k.size - p.size := by
      show (k.data.toList.drop p.size).toArray.size = _
      rw [List.size_toArray, List.length_drop, lk]
    rw [if_pos (by rw [hrs]; omega), Option.bind_some]
    unfold Lib.cut
    simp only [List.toList_toArray]
    by_cases hi : 0 ≤ Lib.index (k.data.toList.drop p.size) d.data.toList
    · rw [if_pos hi]
      simp only
      rw [if_pos trivial]
      by_cases h0 : d.size = 0
      · rw [if_pos ((toList_nil d).2 h0), if_pos h0]; rfl
      · rw [if_neg (fun h => h0 ((toList_nil d).1 h)), if_neg h0, if_pos hi]
        have hroom := Lib.index_room _ _ hi
        obtain ⟨i, hie⟩ : ∃ i : Nat, Lib.index (k.data.toList.drop p.size) d.data.toList = (i : Int) := ⟨(Lib.index (k.data.toList.drop p.size) d.data.toList).toNat, by omega⟩
        have hat := index_at _ _ i hie
        rw [hie] at hroom ⊢
        rw [List.length_drop, lk, ld] at hroom
        simp only [Int.toNat_natCast]
        have hhs : (⟨((k.data.toList.drop p.size).take i).toArray⟩ : ByteArray).size = i := by
          show ((k.data.toList.drop p.size).take i).toArray.size = _
          rw [List.size_toArray, List.length_take, List.length_drop, lk]; omega
        rw [if_pos (by rw [hhs]; omega), if_pos (by rw [ByteArray.size_append, hhs]; omega)]
        unfold told
        simp only
        congr 2
        apply ba_ext
        rw [Lib.extract_data]
        simp only [ByteArray.data_append, Array.toList_append, List.toList_toArray, List.drop_zero, Nat.sub_zero]
        have hK : k.data.toList = (p.data.toList ++ (k.data.toList.drop p.size).take i ++ d.data.toList) ++ (k.data.toList.drop p.size).drop (i + d.data.toList.length) := by
          rw [List.append_assoc, ← hat, List.append_assoc, List.take_append_drop]
          exact hke
        have hlen : (p.data.toList ++ (k.data.toList.drop p.size).take i ++ d.data.toList).length = p.size + i + d.size := by
          rw [List.length_append, List.length_append, List.length_take, List.length_drop, lk, lp, ld]; omega
        have htk := List.take_left' hlen (l₂ := (k.data.toList.drop p.size).drop (i + d.data.toList.length))
        rw [← hK] at htk
        exact htk.symm
    · rw [if_neg hi]
      simp only
      rw [if_neg (by simp)]
      by_cases h0 : d.size = 0
      · rw [if_pos h0]; rfl
      · rw [if_neg h0, if_neg hi]; rfl
/-! ### The document's way -/
theorem ext_list (k : ByteArray) (i j : Nat) : (k.extract i j).toList = (k.data.toList.drop i).take (j - i) := by
  rw [ByteArray.toList_eq, Lib.extract_data]
theorem prefix_take (sub l : List UInt8) : sub.isPrefixOf l = true ↔ l.take sub.length = sub := by
  rw [List.isPrefixOf_iff_prefix, List.prefix_iff_eq_take]
  exact eq_comm
theorem index_drop (k : ByteArray) (i : Nat) (sub : List UInt8) (hi : i < k.size) (h : sub.isPrefixOf (k.data.toList.drop i) = false) :
    Lib.index (k.data.toList.drop i) sub = if Lib.index (k.data.toList.drop (i + 1)) sub = -1 then -1 else Lib.index (k.data.toList.drop (i + 1)) sub + 1 := by
  obtain ⟨c, hd, _⟩ := bt_get k i hi
  rw [hd] at h ⊢
  rw [Lib.index, h]
  simp
def ofAt (k d : ByteArray) (i : Nat) : ByteArray × Bool × Bool :=
  if 0 ≤ Lib.index (k.data.toList.drop i) d.data.toList then (k.extract 0 (i + (Lib.index (k.data.toList.drop i) d.data.toList).toNat + d.size), true, true) else (k, false, true)
theorem ref_of (k d : ByteArray) (hk : k.size ≤ 1048576) (hd : d.size ≤ 1048576) (h0 : 0 < d.size) : ∀ n i f, i + n = k.size → 2 * n + 1 < f → stowageref12_Of.l0 f k d (d.size : Int) (i : Int) = some (ofAt k d i) := by
  intro n
  have lk := len_eq k
  have ld := len_eq d
  induction n with
  | zero =>
    intro i f hi hf
    obtain ⟨f, rfl⟩ : ∃ j, f = j + 2 := ⟨f - 2, by omega⟩
    rw [stowageref12_Of.l0, if_pos (by omega), stowageref12_Of.j2, if_neg (by simp; rw [IntWalk.wrap64_in _ (by omega)]; omega)]
    unfold ofAt
    rw [if_neg (fun h => by have := Lib.index_room _ _ h; rw [List.length_drop, lk, ld] at this; omega)]
  | succ n ih =>
    intro i f hi hf
    obtain ⟨f, rfl⟩ : ∃ j, f = j + 2 := ⟨f - 2, by omega⟩
    have hw : wrap64 ((i : Int) + (d.size : Int)) = ((i + d.size : Nat) : Int) := by rw [IntWalk.wrap64_in _ (by omega)]; omega
    have hw1 : wrap64 ((i : Int) + 1) = ((i + 1 : Nat) : Int) := by rw [IntWalk.wrap64_in _ (by omega)]; omega
    have hnx := ih (i + 1) f (by omega) (by omega)
    rw [stowageref12_Of.l0, if_pos (by omega), stowageref12_Of.j2, hw, hw1, hnx]
    by_cases hfit : i + d.size ≤ k.size
    · rw [if_pos (by simp; omega), if_pos (by omega), if_pos (by omega), if_pos (by omega)]
      have hx : (k.extract (i : Int).toNat ((i + d.size : Nat) : Int).toNat).toList = (k.data.toList.drop i).take d.size := by
        rw [ext_list]; simp only [Int.toNat_natCast]; congr 1; omega
      rw [hx]
      by_cases he : (k.data.toList.drop i).take d.size = d.toList
      · have hp : d.data.toList.isPrefixOf (k.data.toList.drop i) = true := by rw [prefix_take, ld, he, ByteArray.toList_eq]
        rw [if_pos he, if_pos (by omega)]
        unfold ofAt
        have hidx : Lib.index (k.data.toList.drop i) d.data.toList = 0 := by
          obtain ⟨c, hdc, _⟩ := bt_get k i (by omega)
          rw [hdc] at hp ⊢
          rw [Lib.index, if_pos hp]
        rw [hidx, if_pos (by omega)]
        simp
        congr 1
      · have hp : d.data.toList.isPrefixOf (k.data.toList.drop i) = false := by
          rw [Bool.eq_false_iff]; intro hh; rw [prefix_take, ld] at hh; exact he (by rw [hh, ByteArray.toList_eq])
        rw [if_neg he]
        unfold ofAt
        rw [index_drop k i _ (by omega) hp]
        have hg := Lib.index_ge (k.data.toList.drop (i + 1)) d.data.toList
        by_cases h1 : Lib.index (k.data.toList.drop (i + 1)) d.data.toList = -1
        · rw [h1]; rfl
        · rw [if_neg h1, if_pos (by omega), if_pos (by omega)]
          congr 3
          omega
    · rw [if_neg (by simp; omega)]
      unfold ofAt
      rw [if_neg (fun h => by have := Lib.index_room _ _ h; rw [List.length_drop, lk, ld] at this; omega)]
theorem ref_Of_eq (k p d : ByteArray) (hk : k.size ≤ 1048576) (hp : p.size ≤ 1048576) (hd : d.size ≤ 1048576) (f : Nat) (hf : 3000000 ≤ f) : stowageref12_Of.f f k p d = some (told (itemOf k p d)) := by
  obtain ⟨f, rfl⟩ : ∃ j, f = j + 3 := ⟨f - 3, by omega⟩
  have lk := len_eq k
  have lp := len_eq p
  unfold stowageref12_Of.f itemOf
  by_cases h1 : k.size < p.size
  · rw [if_pos (by omega), stowageref12_Of.j0, if_pos rfl]
    have : Lib.hasPrefix k.data.toList p.data.toList = false := by
      rw [Bool.eq_false_iff]; intro h
      have := pre_eq _ _ h
      have := congrArg List.length this
      rw [List.length_append] at this
      omega
    rw [this]; rfl
  · rw [if_neg (by omega), if_pos (by omega), if_pos (by omega), stowageref12_Of.j0]
    have hx : (k.extract 0 ((p.size : Int)).toNat).toList = k.data.toList.take p.size := by
      rw [ext_list]; simp
    rw [hx]
    have hpre : Lib.hasPrefix k.data.toList p.data.toList = (k.data.toList.take p.size == p.toList) := by
      rw [Bool.eq_iff_iff, beq_iff_eq, ByteArray.toList_eq, ← lp]
      exact prefix_take _ _
    rw [hpre]
    cases hb : (k.data.toList.take p.size == p.toList) with
    | false =>
      have hne : (k.data.toList.take p.size != p.toList) = true := by unfold bne; rw [hb]; rfl
      rw [hne, if_pos rfl]; rfl
    | true =>
      have hne : (k.data.toList.take p.size != p.toList) = false := by unfold bne; rw [hb]; rfl
      rw [hne, if_neg (by simp), if_pos rfl]
      by_cases h0 : d.size = 0
      · rw [if_pos h0, stowageref12_Of.l0, if_neg (by omega), stowageref12_Of.j2, if_neg (by simp)]; rfl
      · rw [if_neg h0, ref_of k d hk hd (by omega) (k.size - p.size) p.size (f + 2) (by omega) (by omega)]
        unfold ofAt
        split <;> rfl
end Go.Proofs.Ytapkojfodhdnaaa.Pure
