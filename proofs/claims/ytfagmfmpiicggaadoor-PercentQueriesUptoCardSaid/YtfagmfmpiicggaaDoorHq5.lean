-- Written for this claim by hyb.py, a driver of this session's over the kit's printer.
import Derived.Test.YtfagmfmpiicggaaDoorHq0
import Derived.Test.YtfagmfmpiicggaaDoorHq4
import Derived.Lib.Hide
import Derived.Test.YtfagmfmpiicggaaDoorShelf
import Derived.Test.YtfagmfmpiicggaaDoorBuilder
import Derived.Test.YtfagmfmpiicggaaDoorQPercent
namespace Go.Proofs.YtfagmfmpiicggaaDoor.Hq
open Go.RowKit Go.Proofs.YtfagmfmpiicggaaDoorW.PrintWords Go.Proofs.YtfagmfmpiicggaaDoorW.PrintLast Go.Proofs.YtfagmfmpiicggaaDoorW.PrintMore
attribute [local go_sem] max2_int min2_int max_two min_two max_three min_three max_four min_four   -- for this text's walks alone
set_option linter.unusedVariables false
set_option linter.unusedSimpArgs false

/-! ### EXT percent_escaped: function 28 -/
open Go.Proofs.YtfagmfmpiicggaaDoor
def percent_escaped.f (a0 : ByteArray) (a1 : Int) : Option (ByteArray) := if 3 * a0.size ≤ 140737488355328 then some ⟨(Q.escL a1 a0.data.toList).toArray⟩ else none
theorem percent_escaped_plain_at (n : Nat) (h : n < 256) : percent_plain.f (n : Int) = some (Q.plainU (UInt8.ofNat n)) := by
  have H : ∀ n : Nat, n < 256 → percent_plain.f (n : Int) = some (Q.plainU (UInt8.ofNat n)) := by decide +kernel
  exact H n h
theorem percent_escaped_plain_u (c : UInt8) : percent_plain.f ((c.toNat : Nat) : Int) = some (Q.plainU c) := by
  have := percent_escaped_plain_at c.toNat c.toNat_lt
  simpa using this
theorem percent_escaped_plain_calls (c : UInt8) (w : World) : Calls Tryd.prog 43 #[.int .u8 ((c.toNat : Nat) : Int)] w fun e w' => e = .returned (.bool (Q.plainU c)) ∧ ∃ n, w' = w.drewN n :=
  (percent_plain.calls _ _ w (percent_escaped_plain_u c)).mono fun e w' ⟨he, hd⟩ => ⟨he, hd.out⟩
theorem percent_escaped_hx1 (c : UInt8) (h : c.toNat / 16 < (⟨#[48, 49, 50, 51, 52, 53, 54, 55, 56, 57, 65, 66, 67, 68, 69, 70]⟩ : ByteArray).size) : (⟨#[48, 49, 50, 51, 52, 53, 54, 55, 56, 57, 65, 66, 67, 68, 69, 70]⟩ : ByteArray)[c.toNat / 16]'h = Q.hexU (c >>> 4) := by
  have H : ∀ n : Nat, n < 256 → (#[48, 49, 50, 51, 52, 53, 54, 55, 56, 57, 65, 66, 67, 68, 69, 70] : Array UInt8).getD (n / 16) 0 = Q.hexU (UInt8.ofNat n >>> 4) := by decide +kernel
  have H := H c.toNat c.toNat_lt
  rw [show UInt8.ofNat c.toNat = c from by simp] at H
  rw [← H]
  exact (dif_pos h).symm
theorem percent_escaped_hx2 (c : UInt8) (h : c.toNat % 16 < (⟨#[48, 49, 50, 51, 52, 53, 54, 55, 56, 57, 65, 66, 67, 68, 69, 70]⟩ : ByteArray).size) : (⟨#[48, 49, 50, 51, 52, 53, 54, 55, 56, 57, 65, 66, 67, 68, 69, 70]⟩ : ByteArray)[c.toNat % 16]'h = Q.hexU (c &&& 15) := by
  have H : ∀ n : Nat, n < 256 → (#[48, 49, 50, 51, 52, 53, 54, 55, 56, 57, 65, 66, 67, 68, 69, 70] : Array UInt8).getD (n % 16) 0 = Q.hexU (UInt8.ofNat n &&& 15) := by decide +kernel
  have H := H c.toNat c.toNat_lt
  rw [show UInt8.ofNat c.toNat = c from by simp] at H
  rw [← H]
  exact (dif_pos h).symm
theorem percent_escaped_cells (l : List UInt8) (c : UInt8) (h1 : c.toNat / 16 < (⟨#[48, 49, 50, 51, 52, 53, 54, 55, 56, 57, 65, 66, 67, 68, 69, 70]⟩ : ByteArray).size) (h2 : c.toNat % 16 < (⟨#[48, 49, 50, 51, 52, 53, 54, 55, 56, 57, 65, 66, 67, 68, 69, 70]⟩ : ByteArray).size) :
    Lib.byteCells l ++ [.int .u8 37] ++ [.int .u8 (((⟨#[48, 49, 50, 51, 52, 53, 54, 55, 56, 57, 65, 66, 67, 68, 69, 70]⟩ : ByteArray)[c.toNat / 16]'h1).toNat : Int)] ++ [.int .u8 (((⟨#[48, 49, 50, 51, 52, 53, 54, 55, 56, 57, 65, 66, 67, 68, 69, 70]⟩ : ByteArray)[c.toNat % 16]'h2).toNat : Int)] = Lib.byteCells (l ++ [37, Q.hexU (c >>> 4), Q.hexU (c &&& 15)]) := by
  rw [percent_escaped_hx1, percent_escaped_hx2, Lib.byteCells_append]
  simp [Lib.byteCells]
theorem percent_escaped_take_snoc (s : ByteArray) (k : Nat) (h : k < s.size) : s.data.toList.take (k + 1) = s.data.toList.take k ++ [s[k]] := by
  rw [List.take_succ_eq_append_getElem (by simpa using h)]; rfl
theorem percent_escaped_esc_snoc (m : Int) (s : ByteArray) (k : Nat) (h : k < s.size) : Q.escL m (s.data.toList.take (k + 1)) = Q.escL m (s.data.toList.take k) ++ Q.escB m s[k] := by
  rw [percent_escaped_take_snoc s k h, Q.escL_append]; simp [Q.escL]
set_option maxHeartbeats 1000000 in
theorem percent_escaped_walk (s : ByteArray) (m : Int) (w : World) (hs : 3 * s.size ≤ 140737488355328) :
    Calls Tryd.prog 28 #[.string s, .int .u8 m] w fun e w' => e = .returned (.string ⟨(Q.escL m s.data.toList).toArray⟩) ∧ Below w.heap.size w w' := by
  have h0 : Lib.IsBuilder 65 5 w.heap.size w.heap.size (Lib.byteCells (Q.escL m [])) (w.alloc (.cells #[.pointer none, .slice none 0 0] 65)) := Lib.fresh_isBuilder 65 5 w
  have b0 : Below w.heap.size w (w.alloc (.cells #[.pointer none, .slice none 0 0] 65)) := (Below.refl _ w).alloc (Nat.le_refl _) _
  go_enter Tryd.func28, Tryd.ntmps28
  go_wp2
  go_loopw [10] (fun i wr => ∃ k : Nat, k ≤ s.size ∧ i = .int .i64 k ∧ Lib.IsBuilder 65 5 w.heap.size w.heap.size (Lib.byteCells (Q.escL m (s.data.toList.take k))) wr ∧ Below w.heap.size w wr) (fun i _ => s.size - (intOf i).toNat)
  case atStart => exact ⟨0, Nat.zero_le _, rfl, h0, b0⟩
  case round =>
    obtain ⟨k, hk, rfl, hb, hB⟩ := hrel
    have hB1 := hB.size
    by_cases hlt : k < s.size
    · have HS := Lib.hid (percent_escaped_esc_snoc m s k hlt)
      have hln : (Q.escL m (s.data.toList.take k)).length ≤ 3 * k := Nat.le_trans (Q.escL_length m _).2 (by have := List.length_take_le k s.data.toList; omega)
      have hbs : (Lib.byteCells (Q.escL m (s.data.toList.take k))).length ≤ 3 * k := by rw [Lib.byteCells_length]; exact hln
      cases hp : Q.plainU s[k] with
      | true =>
        have HE : Hid (Q.escB m s[k] = [s[k]]) := Lib.hid (by simp [Q.escB, hp])
        go_wp2_with (go_at_call 43; refine (percent_escaped_plain_calls s[k] _).mono ?_; rintro e w1 ⟨rfl, nd, rfl⟩)
        refine (SB.WriteByte w.heap.size w.heap.size (Lib.byteCells (Q.escL m (s.data.toList.take k))) _ _ (by exact hb) (by omega) (by simpa using hB1)).mono ?_
        rintro e w2 ⟨rfl, hb2, hB2⟩
        go_wp2
        go_roundw
        case rel => exact ⟨k + 1, hlt, by go_num, by rw [HS.out, HE.out, Lib.byteCells_append]; exact hb2, (pw_below_drewN hB nd).trans hB2⟩
        case measure => simp [intOf]; omega
      | false =>
        by_cases hm : (m != 0 && (s[k].toNat : Int) == m) = true
        · have HE : Hid (Q.escB m s[k] = [s[k]]) := Lib.hid (by simp only [Q.escB, hp, hm, Bool.or_true, if_true])
          have hm0 : (m != 0) = true := (Bool.and_eq_true_iff.1 hm).1
          have hm1 : ((s[k].toNat : Int) == m) = true := (Bool.and_eq_true_iff.1 hm).2
          clear hm
          go_wp2_with (go_at_call 43; refine (percent_escaped_plain_calls s[k] _).mono ?_; rintro e w1 ⟨rfl, nd, rfl⟩)
          refine (SB.WriteByte w.heap.size w.heap.size (Lib.byteCells (Q.escL m (s.data.toList.take k))) _ _ (by exact hb) (by omega) (by simpa using hB1)).mono ?_
          rintro e w2 ⟨rfl, hb2, hB2⟩
          go_wp2
          go_roundw
          case rel => exact ⟨k + 1, hlt, by go_num, by rw [HS.out, HE.out, Lib.byteCells_append]; exact hb2, (pw_below_drewN hB nd).trans hB2⟩
          case measure => simp [intOf]; omega
        · have HE : Hid (Q.escB m s[k] = [37, Q.hexU (s[k] >>> 4), Q.hexU (s[k] &&& 15)]) := Lib.hid (by simp only [Q.escB, hp, Bool.false_or, if_neg hm])
          have hcs : ((m != 0) = true ∧ ((s[k].toNat : Int) == m) = false) ∨ (m != 0) = false := by
            cases h0 : (m != 0) with
            | false => exact .inr rfl
            | true =>
              cases hq : ((s[k].toNat : Int) == m) with
              | false => exact .inl ⟨rfl, rfl⟩
              | true => exact absurd (by rw [h0, hq]; rfl) hm
          clear hm
          have hq1 : 0 ≤ (s[k].toNat : Int) / 16 := by omega
          have hq2 : (s[k].toNat : Int) / 16 < 16 := by have := s[k].toNat_lt; omega
          rcases hcs with ⟨hm0, hm1⟩ | hm0
          all_goals
            go_wp2_with (go_at_call 43; refine (percent_escaped_plain_calls s[k] _).mono ?_; rintro e w1 ⟨rfl, nd, rfl⟩)
            refine (SB.WriteByte w.heap.size w.heap.size (Lib.byteCells (Q.escL m (s.data.toList.take k))) _ _ (by exact hb) (by omega) (by simpa using hB1)).mono ?_
            rintro e w2 ⟨rfl, hb2, hB2⟩
            have hB2s := hB2.size
            have hB2t : w.heap.size ≤ w2.heap.size := by simpa using Nat.le_trans hB1 hB2s
            go_wp2_with fail
            refine (SB.WriteByte w.heap.size w.heap.size _ _ _ (by exact hb2) (by simp; omega) (by exact hB2t)).mono ?_
            rintro e w3 ⟨rfl, hb3, hB3⟩
            have hB3s := hB3.size
            go_wp2_with fail
            refine (SB.WriteByte w.heap.size w.heap.size _ _ _ (by exact hb3) (by simp; omega) (by omega)).mono ?_
            rintro e w4 ⟨rfl, hb4, hB4⟩
            rw [percent_escaped_cells] at hb4
            go_wp2
            go_roundw
            case rel => exact ⟨k + 1, hlt, by go_num, by rw [HS.out, HE.out]; exact hb4, (((pw_below_drewN hB nd).trans hB2).trans hB3).trans hB4⟩
            case measure => simp [intOf]; omega
    · obtain rfl : k = s.size := by omega
      rw [List.take_of_length_le (show s.data.toList.length ≤ s.size by simp)] at hb
      go_wp2_with (go_at_call 34; refine (Tryd.Builder_String_any w.heap.size w.heap.size (Q.escL m s.data.toList) _ (by exact hb) (by exact hB1)).mono ?_; rintro e w2 ⟨rfl, hB2⟩)
      go_ret
      exact ⟨rfl, hB.trans hB2⟩
theorem percent_escaped.calls (a0 : ByteArray) (a1 : Int) (r : ByteArray) (w : World) (h : percent_escaped.f a0 a1 = some r) :
    Calls Tryd.prog 28 #[.string a0, .int .u8 a1] w fun e w' => e = .returned (.string r) ∧ Below w.heap.size w w' := by
  unfold percent_escaped.f at h
  split at h
  · obtain rfl := Option.some.inj h
    exact percent_escaped_walk a0 a1 w ‹_›
  · cases h

end Go.Proofs.YtfagmfmpiicggaaDoor.Hq
