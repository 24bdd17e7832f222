/- Layer 18, the plain side of PercentPlain. No program in sight. -/
import Derived.Test.YtfagmfmpiicggaaDoorHx12
import Derived.Test.YtfagmfmpiicggaaDoorPureA
namespace Go.Proofs.YtfagmfmpiicggaaDoor.Pure
open Go.RowKit Go.Proofs.YtfagmfmpiicggaaDoor.Hx Go.Proofs.YtfagmfmpiicggaaDoorW.PrintWords
set_option linter.unusedVariables false
/-- A byte that may stand in a path's text. -/
def OkB (b : Int) : Prop := (97 ≤ b ∧ b ≤ 122) ∨ (65 ≤ b ∧ b ≤ 90) ∨ (48 ≤ b ∧ b ≤ 57) ∨ b = 45 ∨ b = 46 ∨ b = 95 ∨ b = 126 ∨ b = 47 ∨ b = 37
instance (b : Int) : Decidable (OkB b) := by unfold OkB; infer_instance
theorem plain_step (k : Nat) (x0 x3 : ByteArray) (i : Int) (h0 : 0 ≤ i) (h1 : i < (x3.size : Int)) (hb : OkB (bt x3 i)) :
    stowagelaw18_PercentPlain.l0 (k + 1) x0 x3 i = stowagelaw18_PercentPlain.l0 k x0 x3 (wrap64 (i + 1)) := by
  rw [stowagelaw18_PercentPlain.l0, if_pos h1, if_pos h0]
  unfold OkB at hb
  generalize bt x3 i = b at *
  rcases hb with hb | hb | hb | hb | hb | hb | hb | hb | hb <;>
    repeat first
      | rfl
      | (refine (if_pos (by omega)).trans ?_)
      | (refine (if_neg (by omega)).trans ?_)
theorem plain_end (k : Nat) (x0 x3 : ByteArray) (i : Int) (h1 : ¬ i < (x3.size : Int)) (h0 : x0.size ≤ 5000) (h2 : x0.size ≤ x3.size) (h3 : x3.size ≤ 3 * x0.size) :
    stowagelaw18_PercentPlain.l0 (k + 5) x0 x3 i = some true := by
  rw [stowagelaw18_PercentPlain.l0, if_neg h1, at_rounds stowagelaw18_awake.mono (show 4 ≤ k + 4 by omega) awake_true]
  simp only [Option.bind_some, if_true]
  rw [if_pos (by omega), IntWalk.wrap64_in _ (by omega), decide_eq_true (by omega)]
theorem plain_loop (x0 x3 : ByteArray) (h0 : x0.size ≤ 5000) (h2 : x0.size ≤ x3.size) (h3 : x3.size ≤ 3 * x0.size) (hb : ∀ i : Int, 0 ≤ i → i < x3.size → OkB (bt x3 i)) :
    ∀ n m : Nat, m + n = x3.size → stowagelaw18_PercentPlain.l0 (n + 5) x0 x3 (m : Int) = some true := by
  intro n
  induction n with
  | zero => intro m hm; exact plain_end 0 x0 x3 m (by omega) h0 h2 h3
  | succ n ih =>
    intro m hm
    rw [show n + 1 + 5 = (n + 5) + 1 by omega, plain_step _ _ _ _ (by omega) (by omega) (hb m (by omega) (by omega)), IntWalk.wrap64_in _ (by omega)]
    exact ih (m + 1) (by omega)
theorem bt_all (s : ByteArray) (P : Int → Prop) (h : ∀ c ∈ s.data.toList, P (c.toNat : Int)) (i : Int) (h0 : 0 ≤ i) (h1 : i < s.size) : P (bt s i) := by
  have hi : i.toNat < s.size := by omega
  unfold bt
  rw [dif_pos hi]
  exact h _ (by simp [ByteArray.getElem_eq_getElem_data])
theorem escB_ok : ∀ n < 256, ∀ d ∈ Q.escB 47 (UInt8.ofNat n), OkB (d.toNat : Int) := by decide +kernel
theorem escL_ok (l : List UInt8) : ∀ d ∈ Q.escL 47 l, OkB (d.toNat : Int) := by
  intro d hd
  obtain ⟨c, _, hc⟩ := List.mem_flatMap.1 hd
  have := escB_ok c.toNat c.toNat_lt d
  rw [UInt8.ofNat_toNat] at this
  exact this hc
theorem path_eq (a : ByteArray) (h : a.size ≤ 5000) : percent_Path.f a = some ⟨(Q.escL 47 a.data.toList).toArray⟩ := by
  unfold percent_Path.f percent_escaped.f
  rw [if_pos (by omega)]
  rfl
theorem PercentPlain_true (a0 : ByteArray) : ∃ k, stowagelaw18_PercentPlain.f k a0 = some true := by
  by_cases hs : (a0.size : Int) > 5000
  · refine ⟨4, ?_⟩
    unfold stowagelaw18_PercentPlain.f
    rw [if_pos hs, awake_true]
    rfl
  · have hl := Q.escL_length 47 a0.data.toList
    refine ⟨(Q.escL 47 a0.data.toList).length + 5, ?_⟩
    unfold stowagelaw18_PercentPlain.f
    rw [if_neg hs, path_eq a0 (by omega)]
    simp only [Option.bind_some]
    have hz : (⟨(Q.escL 47 a0.data.toList).toArray⟩ : ByteArray).size = (Q.escL 47 a0.data.toList).length := by first | exact Array.length_toList | exact List.size_toArray _
    have hn : a0.data.toList.length = a0.size := by first | exact Array.length_toList | exact List.size_toArray _
    have hb := bt_all ⟨(Q.escL 47 a0.data.toList).toArray⟩ OkB (escL_ok a0.data.toList)
    exact plain_loop a0 _ (by omega) (by omega) (by omega) hb _ 0 (by omega)
end Go.Proofs.YtfagmfmpiicggaaDoor.Pure
