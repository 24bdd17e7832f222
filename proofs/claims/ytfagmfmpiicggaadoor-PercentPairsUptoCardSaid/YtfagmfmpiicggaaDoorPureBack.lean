/- Layer 18, the plain side of PercentBack: what is written is read again. No program in sight. -/
import Derived.Test.YtfagmfmpiicggaaDoorHx16
import Derived.Test.YtfagmfmpiicggaaDoorPurePlain
namespace Go.Proofs.YtfagmfmpiicggaaDoor.Pure
open Go.RowKit Go.Proofs.YtfagmfmpiicggaaDoor.Hx Go.Proofs.YtfagmfmpiicggaaDoorW.PrintWords
set_option linter.unusedVariables false
theorem escB_cases (more : Int) (hm : more = 47 ∨ more = 0) : ∀ n < 256,
    (Q.escB more (UInt8.ofNat n) = [UInt8.ofNat n] ∧ (UInt8.ofNat n == 37) = false ∧ (UInt8.ofNat n < 33 || 126 < UInt8.ofNat n) = false ∧ (UInt8.ofNat n == 43) = false ∧ UInt8.ofNat n ≠ 35 ∧ UInt8.ofNat n ≠ 63) ∨
    (∃ a b, Q.escB more (UInt8.ofNat n) = [37, a, b] ∧ (Q.sixU a < 16 && Q.sixU b < 16) = true ∧ (Q.sixU a <<< 4 ||| Q.sixU b) = UInt8.ofNat n) := by
  have H : ∀ n < 256, (Q.escB more (UInt8.ofNat n) = [UInt8.ofNat n] ∧ (UInt8.ofNat n == 37) = false ∧ (UInt8.ofNat n < 33 || 126 < UInt8.ofNat n) = false ∧ (UInt8.ofNat n == 43) = false ∧ UInt8.ofNat n ≠ 35 ∧ UInt8.ofNat n ≠ 63) ∨
    (Q.escB more (UInt8.ofNat n) = [37, Q.hexU (UInt8.ofNat n >>> 4), Q.hexU (UInt8.ofNat n &&& 15)] ∧ (Q.sixU (Q.hexU (UInt8.ofNat n >>> 4)) < 16 && Q.sixU (Q.hexU (UInt8.ofNat n &&& 15)) < 16) = true ∧ (Q.sixU (Q.hexU (UInt8.ofNat n >>> 4)) <<< 4 ||| Q.sixU (Q.hexU (UInt8.ofNat n &&& 15))) = UInt8.ofNat n) := by
    rcases hm with rfl | rfl
    · decide +kernel
    · decide +kernel
  intro n hn
  rcases H n hn with h | ⟨h1, h2, h3⟩
  · exact .inl h
  · exact .inr ⟨_, _, h1, h2, h3⟩
theorem readL_escB (more : Int) (hm : more = 47 ∨ more = 0) (bar : List UInt8) (hbar : bar = [35, 63] ∨ bar = [35]) (plus : Bool) (c : UInt8) (l : List UInt8) :
    Q.readL bar plus (Q.escB more c ++ l) = (Q.readL bar plus l).map (c :: ·) := by
  have H := escB_cases more hm c.toNat c.toNat_lt
  rw [UInt8.ofNat_toNat] at H
  rcases H with ⟨h1, h2, h3, h4, h5, h6⟩ | ⟨a, b, h1, h2, h3⟩
  · have hb : (c < 33 || 126 < c || bar.contains c) = false := by
      rw [h3, Bool.false_or]
      rcases hbar with rfl | rfl
      · simp [h5, h6]
      · simp [h5]
    rw [h1, List.singleton_append, Q.readL_raw bar plus c l h2 hb, h4]
    simp
  · rw [h1]
    show Q.readL bar plus (37 :: a :: b :: l) = _
    rw [Q.readL_pct3 bar plus 37 a b l rfl, if_pos h2, h3]
theorem readL_escL (more : Int) (hm : more = 47 ∨ more = 0) (bar : List UInt8) (hbar : bar = [35, 63] ∨ bar = [35]) (plus : Bool) (l : List UInt8) :
    Q.readL bar plus (Q.escL more l) = some l := by
  induction l with
  | nil => rfl
  | cons c l ih => rw [Q.escL_cons, readL_escB more hm bar hbar plus, ih]; rfl
theorem toList_of (a : ByteArray) : (⟨a.data.toList.toArray⟩ : ByteArray) = a := by simp
theorem name_eq (a : ByteArray) (h : a.size ≤ 5000) : percent_Name.f a = some ⟨(Q.escL 0 a.data.toList).toArray⟩ := by
  unfold percent_Name.f percent_escaped.f
  rw [if_pos (by omega)]
  rfl
theorem unpath_some (a : ByteArray) (l : List UInt8) (hs : a.size ≤ 20000) (h : Q.readL [35, 63] false a.data.toList = some l) : percent_Unpath.f a = some (⟨l.toArray⟩, 0) := by
  unfold percent_Unpath.f percent_read.f
  rw [if_pos (by omega), show (⟨#[35, 63]⟩ : ByteArray).data.toList = [35, 63] from rfl, h]
  rfl
theorem unpath_none (a : ByteArray) (hs : a.size ≤ 20000) (h : Q.readL [35, 63] false a.data.toList = none) : percent_Unpath.f a = some (⟨#[]⟩, 3) := by
  unfold percent_Unpath.f percent_read.f
  rw [if_pos (by omega), show (⟨#[35, 63]⟩ : ByteArray).data.toList = [35, 63] from rfl, h]
  rfl
theorem len_eq (a : ByteArray) : a.data.toList.length = a.size := by rw [Array.length_toList (xs := a.data)]; rfl
theorem size_esc (more : Int) (a : ByteArray) : (⟨(Q.escL more a.data.toList).toArray⟩ : ByteArray).size ≤ 3 * a.size := by
  have := (Q.escL_length more a.data.toList).2
  have h4 := len_eq a
  have h2 : (⟨(Q.escL more a.data.toList).toArray⟩ : ByteArray).size = (Q.escL more a.data.toList).length := List.size_toArray
  have h3 : a.size = a.data.size := rfl
  omega
theorem unpath_esc (more : Int) (hm : more = 47 ∨ more = 0) (a : ByteArray) (h : a.size ≤ 5000) : percent_Unpath.f ⟨(Q.escL more a.data.toList).toArray⟩ = some (a, 0) := by
  rw [unpath_some _ a.data.toList (by have := size_esc more a; omega) (readL_escL more hm _ (.inl rfl) _ _), toList_of]
theorem back_long (a0 a1 : ByteArray) : stowagelaw18_PercentBack.j0 6 a0 a1 true = some true := by
  rw [stowagelaw18_PercentBack.j0, if_pos rfl, at_rounds stowagelaw18_awake.mono (show 4 ≤ 5 by omega) awake_true]
  rfl
theorem back_two (a1 : ByteArray) (h1 : a1.size ≤ 5000) : stowagelaw18_PercentBack.j1 5 a1 false = some true := by
  rw [stowagelaw18_PercentBack.j1, if_neg (by simp)]
  cases hr : Q.readL [35, 63] false a1.data.toList with
  | none =>
    rw [unpath_none a1 (by omega) hr]
    simp only [Option.bind_some]
    rw [if_neg (by omega), awake_true]
    simp [ByteArray.toList_eq]
  | some l =>
    have hl := Q.readL_length _ _ _ _ (Nat.le_refl _) _ hr
    have h4 := len_eq a1
    have hsz : (⟨l.toArray⟩ : ByteArray).size ≤ 5000 := by
      have h2 : (⟨l.toArray⟩ : ByteArray).size = l.length := List.size_toArray
      have h3 : a1.size = a1.data.size := rfl
      omega
    rw [unpath_some a1 l (by omega) hr]
    simp only [Option.bind_some, if_true]
    rw [path_eq _ hsz]
    simp only [Option.bind_some]
    rw [unpath_esc 47 (.inl rfl) _ hsz]
    simp only [Option.bind_some, awake_true, if_true]
    rfl
theorem PercentBack_true (a0 a1 : ByteArray) : ∃ k, stowagelaw18_PercentBack.f k a0 a1 = some true := by
  refine ⟨6, ?_⟩
  unfold stowagelaw18_PercentBack.f
  by_cases h0 : (a0.size : Int) > 5000
  · rw [if_pos h0]; exact back_long a0 a1
  · rw [if_neg h0]
    by_cases h1 : (a1.size : Int) > 5000
    · rw [decide_eq_true h1]; exact back_long a0 a1
    · rw [decide_eq_false h1, stowagelaw18_PercentBack.j0, if_neg (by simp), path_eq a0 (by omega)]
      simp only [Option.bind_some]
      rw [unpath_esc 47 (.inl rfl) a0 (by omega), name_eq a0 (by omega)]
      simp only [Option.bind_some]
      rw [unpath_esc 0 (.inr rfl) a0 (by omega)]
      simp only [Option.bind_some, if_true]
      exact back_two a1 (by omega)
end Go.Proofs.YtfagmfmpiicggaaDoor.Pure
