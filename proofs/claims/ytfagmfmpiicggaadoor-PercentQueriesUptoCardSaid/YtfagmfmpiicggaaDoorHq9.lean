-- Written for this claim by hyb.py, a driver of this session's over the kit's printer.
import Derived.Test.YtfagmfmpiicggaaDoorHq0
import Derived.Test.YtfagmfmpiicggaaDoorHq3
import Derived.Test.YtfagmfmpiicggaaDoorHq8
import Derived.Lib.Hide
import Derived.Lib.IndexAny
import Derived.Test.YtfagmfmpiicggaaDoorShelf
import Derived.Test.YtfagmfmpiicggaaDoorBuilder
import Derived.Test.YtfagmfmpiicggaaDoorQPercent
namespace Go.Proofs.YtfagmfmpiicggaaDoor.Hq
open Go.RowKit Go.Proofs.YtfagmfmpiicggaaDoorW.PrintWords Go.Proofs.YtfagmfmpiicggaaDoorW.PrintLast Go.Proofs.YtfagmfmpiicggaaDoorW.PrintMore
attribute [local go_sem] max2_int min2_int max_two min_two max_three min_three max_four min_four   -- for this text's walks alone
set_option linter.unusedVariables false
set_option linter.unusedSimpArgs false

/-! ### EXT percent_read: function 27 -/
open Go.Proofs.YtfagmfmpiicggaaDoor
def percent_read.f (a0 : ByteArray) (a1 : ByteArray) (a2 : Bool) : Option (ByteArray × Bool) := if a0.size ≤ 140737488355328 then (match Q.readL a1.data.toList a2 a0.data.toList with | some l => some (⟨l.toArray⟩, true) | none => some (⟨#[]⟩, false)) else none
theorem percent_read_six_at (n : Nat) (h : n < 256) : percent_six.f 5 (n : Int) = some (if Q.sixU (UInt8.ofNat n) < 16 then (((Q.sixU (UInt8.ofNat n)).toNat : Int), true) else (0, false)) := by
  have H : ∀ n : Nat, n < 256 → percent_six.f 5 (n : Int) = some (if Q.sixU (UInt8.ofNat n) < 16 then (((Q.sixU (UInt8.ofNat n)).toNat : Int), true) else (0, false)) := by decide +kernel
  exact H n h
theorem percent_read_six_u (c : UInt8) : percent_six.f 5 ((c.toNat : Nat) : Int) = some (if Q.sixU c < 16 then (((Q.sixU c).toNat : Int), true) else (0, false)) := by
  have := percent_read_six_at c.toNat c.toNat_lt
  simpa using this
theorem percent_read_six_calls (c : UInt8) (w : World) : Calls Tryd.prog 40 #[.int .u8 ((c.toNat : Nat) : Int)] w fun e w' => (if Q.sixU c < 16 then e = .returned (.tuple #[.int .u8 ((Q.sixU c).toNat : Int), .bool true]) else e = .returned (.tuple #[.int .u8 0, .bool false])) ∧ ∃ n, w' = w.drewN n := by
  have h := percent_read_six_u c
  by_cases h16 : Q.sixU c < 16
  · rw [if_pos h16] at h
    exact (percent_six.calls 5 _ _ _ w h).mono fun e w' ⟨he, hd⟩ => ⟨by rw [if_pos h16]; exact he, hd.out⟩
  · rw [if_neg h16] at h
    exact (percent_six.calls 5 _ _ _ w h).mono fun e w' ⟨he, hd⟩ => ⟨by rw [if_neg h16]; exact he, hd.out⟩
theorem percent_read_six_yes (c : UInt8) (w : World) (h16 : Q.sixU c < 16) : Calls Tryd.prog 40 #[.int .u8 ((c.toNat : Nat) : Int)] w fun e w' => e = .returned (.tuple #[.int .u8 ((Q.sixU c).toNat : Int), .bool true]) ∧ ∃ n, w' = w.drewN n :=
  (percent_read_six_calls c w).mono fun e w' ⟨he, hd⟩ => ⟨by rw [if_pos h16] at he; exact he, hd⟩
theorem percent_read_six_no (c : UInt8) (w : World) (h16 : ¬ Q.sixU c < 16) : Calls Tryd.prog 40 #[.int .u8 ((c.toNat : Nat) : Int)] w fun e w' => e = .returned (.tuple #[.int .u8 0, .bool false]) ∧ ∃ n, w' = w.drewN n :=
  (percent_read_six_calls c w).mono fun e w' ⟨he, hd⟩ => ⟨by rw [if_neg h16] at he; exact he, hd⟩
theorem percent_read_index (bar : ByteArray) (c : UInt8) (w : World) : Calls Tryd.prog 42 #[.string bar, .int .u8 ((c.toNat : Nat) : Int)] w fun e w' => e = .returned (.int .i64 (Lib.indexByte bar.data.toList c)) ∧ ∃ n, w' = w.drewN n := by
  refine (strings_IndexByte.calls bar _ _ w rfl).mono fun e w' ⟨he, hd⟩ => ⟨?_, hd.out⟩
  rw [he]
  simp
/-- What reading comes to. -/
def percent_read_post (o : Option (List UInt8)) (e : Ending) : Prop := match o with | some l => e = .returned (.tuple #[.string ⟨l.toArray⟩, .bool true]) | none => e = .returned (.tuple #[.string ⟨#[]⟩, .bool false])
theorem percent_read_R_end (bar : List UInt8) (plus : Bool) (s : ByteArray) : Q.readL bar plus (s.data.toList.drop s.size) = some [] := by
  rw [List.drop_of_length_le (by simp)]; rfl
theorem percent_read_R_cons (s : ByteArray) (k : Nat) (h : k < s.size) : s.data.toList.drop k = s[k] :: s.data.toList.drop (k + 1) := by
  rw [List.drop_eq_getElem_cons (by simpa using h)]; rfl
theorem percent_read_R_short (bar : List UInt8) (plus : Bool) (s : ByteArray) (k : Nat) (h : k < s.size) (hc : (s[k] == 37) = true) (h2 : s.size ≤ k + 2) : Q.readL bar plus (s.data.toList.drop k) = none := by
  rw [percent_read_R_cons s k h]
  rcases Nat.lt_or_ge (k + 1) s.size with h1 | h1
  · rw [percent_read_R_cons s (k + 1) h1, List.drop_of_length_le (by simp; omega)]
    exact Q.readL_pct2 _ _ _ _ hc
  · rw [List.drop_of_length_le (by simp; omega)]
    exact Q.readL_pct1 _ _ _ hc
theorem percent_read_R_pct (bar : List UInt8) (plus : Bool) (s : ByteArray) (k : Nat) (h : k + 2 < s.size) (hc : (s[k]'(by omega) == 37) = true) : Q.readL bar plus (s.data.toList.drop k) = if Q.sixU (s[k + 1]'(by omega)) < 16 && Q.sixU s[k + 2] < 16 then (Q.readL bar plus (s.data.toList.drop (k + 3))).map ((Q.sixU (s[k + 1]'(by omega)) <<< 4 ||| Q.sixU s[k + 2]) :: ·) else none := by
  rw [percent_read_R_cons s k (by omega), percent_read_R_cons s (k + 1) (by omega), percent_read_R_cons s (k + 1 + 1) (by omega)]
  exact Q.readL_pct3 _ _ _ _ _ _ hc
theorem percent_read_R_bad (bar : List UInt8) (plus : Bool) (s : ByteArray) (k : Nat) (h : k < s.size) (hc : (s[k] == 37) = false) (hb : (s[k] < 33 || 126 < s[k] || bar.contains s[k]) = true) : Q.readL bar plus (s.data.toList.drop k) = none := by
  rw [percent_read_R_cons s k h]
  exact Q.readL_bad _ _ _ _ hc hb
theorem percent_read_R_raw (bar : List UInt8) (plus : Bool) (s : ByteArray) (k : Nat) (h : k < s.size) (hc : (s[k] == 37) = false) (hb : (s[k] < 33 || 126 < s[k] || bar.contains s[k]) = false) : Q.readL bar plus (s.data.toList.drop k) = (Q.readL bar plus (s.data.toList.drop (k + 1))).map ((if plus && s[k] == 43 then 32 else s[k]) :: ·) := by
  rw [percent_read_R_cons s k h]
  exact Q.readL_raw _ _ _ _ hc hb
theorem percent_read_or (a b : UInt8) (ha : a < 16) (hb : b < 16) : Go.bits .or .u8 ((a.toNat : Int) * 16 % 256) (b.toNat : Int) = (((a <<< 4 ||| b).toNat : Nat) : Int) := by
  have H : ∀ n : Nat, n < 16 → ∀ m : Nat, m < 16 → Go.bits .or .u8 ((n : Int) * 16 % 256) (m : Int) = (((UInt8.ofNat n <<< 4 ||| UInt8.ofNat m).toNat : Nat) : Int) := by decide +kernel
  have H := H a.toNat (by simpa using UInt8.lt_iff_toNat_lt.1 ha) b.toNat (by simpa using UInt8.lt_iff_toNat_lt.1 hb)
  simpa using H
theorem percent_read_cell (pre : List UInt8) (x : UInt8) : Lib.byteCells pre ++ [.int .u8 ((x.toNat : Nat) : Int)] = Lib.byteCells (pre ++ [x]) := by rw [Lib.byteCells_append]; rfl
theorem percent_read_next (o q : Option (List UInt8)) (o' : Option (List UInt8)) (pre : List UInt8) (x : UInt8) (h : o = q.map (pre ++ ·)) (h' : q = o'.map (x :: ·)) : o = o'.map ((pre ++ [x]) ++ ·) := by
  rw [h, h', Option.map_map]
  congr 1
  funext l
  simp
set_option maxHeartbeats 2000000 in
theorem percent_read_walk (s bar : ByteArray) (plus : Bool) (w : World) (hs : s.size ≤ 140737488355328) :
    Calls Tryd.prog 27 #[.string s, .string bar, .bool plus] w fun e w' => percent_read_post (Q.readL bar.data.toList plus s.data.toList) e ∧ Below w.heap.size w w' := by
  have h0 : Lib.IsBuilder 65 5 w.heap.size w.heap.size (Lib.byteCells []) (w.alloc (.cells #[.pointer none, .slice none 0 0] 65)) := Lib.fresh_isBuilder 65 5 w
  have b0 : Below w.heap.size w (w.alloc (.cells #[.pointer none, .slice none 0 0] 65)) := (Below.refl _ w).alloc (Nat.le_refl _) _
  go_enter Tryd.func27, Tryd.ntmps27
  go_wp2
  go_loopw [9] (fun i wr => ∃ (k : Nat) (pre : List UInt8), k ≤ s.size ∧ i = .int .i64 k ∧ pre.length ≤ k ∧ Lib.IsBuilder 65 5 w.heap.size w.heap.size (Lib.byteCells pre) wr ∧ Hid (Q.readL bar.data.toList plus s.data.toList = (Q.readL bar.data.toList plus (s.data.toList.drop k)).map (pre ++ ·)) ∧ Below w.heap.size w wr) (fun i _ => s.size - (intOf i).toNat)
  case atStart => exact ⟨0, [], Nat.zero_le _, rfl, Nat.zero_le _, h0, Lib.hid (by simp), b0⟩
  case round =>
    obtain ⟨k, pre, hk, rfl, hpre, hb, HR, hB⟩ := hrel
    have hB1 := hB.size
    have hbs : (Lib.byteCells pre).length ≤ k := by rw [Lib.byteCells_length]; exact hpre
    by_cases hlt : k < s.size
    · cases hc : (s[k] == 37) with
      | true =>
        have hc1 : ((s[k].toNat : Int) == 37) = true := by rw [beq_iff_eq] at hc ⊢; rw [hc]; rfl
        by_cases h2 : k + 2 < s.size
        · have HP := Lib.hid (percent_read_R_pct bar.data.toList plus s k h2 hc)
          clear hc
          by_cases ha : Q.sixU s[k + 1] < 16
          · by_cases hz : Q.sixU s[k + 2] < 16
            · go_wp2_with fail
              refine (percent_read_six_yes s[k + 1] _ ha).mono ?_
              rintro e w1 ⟨rfl, nd, rfl⟩
              go_wp2_with fail
              refine (percent_read_six_yes s[k + 2] _ hz).mono ?_
              rintro e w1 ⟨rfl, nd', rfl⟩
              go_wp2_with fail
              rw [percent_read_or _ _ ha hz]
              have HP2 : Hid (Q.readL bar.data.toList plus (s.data.toList.drop k) = (Q.readL bar.data.toList plus (s.data.toList.drop (k + 3))).map ((Q.sixU s[k + 1] <<< 4 ||| Q.sixU s[k + 2]) :: ·)) := Lib.hid (by rw [HP.out, if_pos (by simp [ha, hz])])
              refine (SB.WriteByte w.heap.size w.heap.size (Lib.byteCells pre) _ _ (by exact hb) (by omega) (by simpa using hB1)).mono ?_
              rintro e w2 ⟨rfl, hb2, hB2⟩
              rw [percent_read_cell] at hb2
              go_wp2
              go_roundw
              case rel => exact ⟨k + 3, pre ++ [_], by omega, by go_num, by simp; omega, hb2, Lib.hid (percent_read_next _ _ _ _ _ HR.out HP2.out), (pw_below_drewN hB _).trans hB2⟩
              case measure => simp [intOf]; omega
            · have HP2 : Hid (Q.readL bar.data.toList plus (s.data.toList.drop k) = none) := Lib.hid (by rw [HP.out, if_neg (by simp [hz])])
              go_wp2_with fail
              refine (percent_read_six_yes s[k + 1] _ ha).mono ?_
              rintro e w1 ⟨rfl, nd, rfl⟩
              go_wp2_with fail
              refine (percent_read_six_no s[k + 2] _ hz).mono ?_
              rintro e w1 ⟨rfl, nd', rfl⟩
              go_wp2
              go_ret2
              exact ⟨by rw [HR.out, HP2.out]; rfl, pw_below_drewN hB _⟩
          · have HP2 : Hid (Q.readL bar.data.toList plus (s.data.toList.drop k) = none) := Lib.hid (by rw [HP.out, if_neg (by simp [ha])])
            by_cases hz : Q.sixU s[k + 2] < 16
            · go_wp2_with fail
              refine (percent_read_six_no s[k + 1] _ ha).mono ?_
              rintro e w1 ⟨rfl, nd, rfl⟩
              go_wp2_with fail
              refine (percent_read_six_yes s[k + 2] _ hz).mono ?_
              rintro e w1 ⟨rfl, nd', rfl⟩
              go_wp2
              go_ret2
              exact ⟨by rw [HR.out, HP2.out]; rfl, pw_below_drewN hB _⟩
            · go_wp2_with fail
              refine (percent_read_six_no s[k + 1] _ ha).mono ?_
              rintro e w1 ⟨rfl, nd, rfl⟩
              go_wp2_with fail
              refine (percent_read_six_no s[k + 2] _ hz).mono ?_
              rintro e w1 ⟨rfl, nd', rfl⟩
              go_wp2
              go_ret2
              exact ⟨by rw [HR.out, HP2.out]; rfl, pw_below_drewN hB _⟩
        · have HP := Lib.hid (percent_read_R_short bar.data.toList plus s k hlt hc (by omega))
          clear hc
          go_wp2
          go_ret2
          exact ⟨by rw [HR.out, HP.out]; rfl, hB⟩
      | false =>
        have hc1 : ((s[k].toNat : Int) == 37) = false := by
          rw [beq_eq_false_iff_ne] at hc ⊢
          intro h; exact hc (UInt8.toNat_inj.1 (by simpa using (by omega : s[k].toNat = 37)))
        by_cases hlo : (s[k].toNat : Int) < 33
        · have HP := Lib.hid (percent_read_R_bad bar.data.toList plus s k hlt hc (by
            have : s[k] < 33 := UInt8.lt_iff_toNat_lt.2 (by simpa using (by omega : s[k].toNat < 33))
            simp [this]))
          have hlo1 : decide ((s[k].toNat : Int) < 33) = true := decide_eq_true hlo
          clear hc hlo
          go_wp2
          go_ret2
          exact ⟨by rw [HR.out, HP.out]; rfl, hB⟩
        · by_cases hhi : (126 : Int) < s[k].toNat
          · have HP := Lib.hid (percent_read_R_bad bar.data.toList plus s k hlt hc (by
              have : (126 : UInt8) < s[k] := UInt8.lt_iff_toNat_lt.2 (by simpa using (by omega : 126 < s[k].toNat))
              simp [this]))
            have hlo1 : decide ((s[k].toNat : Int) < 33) = false := decide_eq_false hlo
            have hhi1 : decide ((126 : Int) < s[k].toNat) = true := decide_eq_true hhi
            clear hc hlo hhi
            go_wp2
            go_ret2
            exact ⟨by rw [HR.out, HP.out]; rfl, hB⟩
          · have hlo1 : decide ((s[k].toNat : Int) < 33) = false := decide_eq_false hlo
            have hhi1 : decide ((126 : Int) < s[k].toNat) = false := decide_eq_false hhi
            have hci := Lib.contains_iff_indexByte bar.data.toList s[k]
            by_cases hix : 0 ≤ Lib.indexByte bar.data.toList s[k]
            · have HP := Lib.hid (percent_read_R_bad bar.data.toList plus s k hlt hc (by rw [hci, decide_eq_true hix]; simp))
              have hix1 : decide (0 ≤ Lib.indexByte bar.data.toList s[k]) = true := decide_eq_true hix
              clear hc hlo hhi hci hix
              go_wp2_with (go_at_call 42; refine (percent_read_index bar s[k] _).mono ?_; rintro e w1 ⟨rfl, nd, rfl⟩)
              go_ret2
              exact ⟨by rw [HR.out, HP.out]; rfl, pw_below_drewN hB _⟩
            · have HP := Lib.hid (percent_read_R_raw bar.data.toList plus s k hlt hc (by
                rw [hci, decide_eq_false hix]
                have h1 : ¬ s[k] < 33 := fun h => hlo (by have := UInt8.lt_iff_toNat_lt.1 h; simp at this; omega)
                have h2 : ¬ (126 : UInt8) < s[k] := fun h => hhi (by have := UInt8.lt_iff_toNat_lt.1 h; simp at this; omega)
                simp [h1, h2]))
              have hix1 : decide (0 ≤ Lib.indexByte bar.data.toList s[k]) = false := decide_eq_false hix
              clear hc hlo hhi hci hix
              cases plus with
              | false =>
                have HP2 : Hid (Q.readL bar.data.toList false (s.data.toList.drop k) = (Q.readL bar.data.toList false (s.data.toList.drop (k + 1))).map (s[k] :: ·)) := Lib.hid (by rw [HP.out]; simp)
                go_wp2_with (go_at_call 42; refine (percent_read_index bar s[k] _).mono ?_; rintro e w1 ⟨rfl, nd, rfl⟩)
                refine (SB.WriteByte w.heap.size w.heap.size (Lib.byteCells pre) _ _ (by exact hb) (by omega) (by simpa using hB1)).mono ?_
                rintro e w2 ⟨rfl, hb2, hB2⟩
                rw [percent_read_cell] at hb2
                go_wp2
                go_roundw
                case rel => exact ⟨k + 1, pre ++ [_], by omega, by go_num, by simp; omega, hb2, Lib.hid (percent_read_next _ _ _ _ _ HR.out HP2.out), (pw_below_drewN hB _).trans hB2⟩
                case measure => simp [intOf]; omega
              | true =>
                cases hpl : ((s[k].toNat : Int) == 43) with
                | true =>
                  have hk43 : s[k] = 43 := UInt8.toNat_inj.1 (by have := beq_iff_eq.1 hpl; simpa using (by omega : s[k].toNat = 43))
                  have HP2 : Hid (Q.readL bar.data.toList true (s.data.toList.drop k) = (Q.readL bar.data.toList true (s.data.toList.drop (k + 1))).map (32 :: ·)) := Lib.hid (by rw [HP.out]; simp [hk43])
                  clear hk43
                  go_wp2_with (go_at_call 42; refine (percent_read_index bar s[k] _).mono ?_; rintro e w1 ⟨rfl, nd, rfl⟩)
                  refine (SB.WriteByte w.heap.size w.heap.size (Lib.byteCells pre) _ _ (by exact hb) (by omega) (by simpa using hB1)).mono ?_
                  rintro e w2 ⟨rfl, hb2, hB2⟩
                  have hb3 : Lib.IsBuilder 65 5 w.heap.size w.heap.size (Lib.byteCells (pre ++ [32])) w2 := by rw [← percent_read_cell]; exact hb2
                  clear hb2
                  go_wp2
                  go_roundw
                  case rel => exact ⟨k + 1, pre ++ [_], by omega, by go_num, by simp; omega, hb3, Lib.hid (percent_read_next _ _ _ _ _ HR.out HP2.out), (pw_below_drewN hB _).trans hB2⟩
                  case measure => simp [intOf]; omega
                | false =>
                  have HP2 : Hid (Q.readL bar.data.toList true (s.data.toList.drop k) = (Q.readL bar.data.toList true (s.data.toList.drop (k + 1))).map (s[k] :: ·)) := Lib.hid (by
                    have h43 : (s[k] == 43) = false := by
                      rw [beq_eq_false_iff_ne] at hpl ⊢
                      intro h; exact hpl (by rw [h]; rfl)
                    rw [HP.out, h43]; simp)
                  go_wp2_with (go_at_call 42; refine (percent_read_index bar s[k] _).mono ?_; rintro e w1 ⟨rfl, nd, rfl⟩)
                  refine (SB.WriteByte w.heap.size w.heap.size (Lib.byteCells pre) _ _ (by exact hb) (by omega) (by simpa using hB1)).mono ?_
                  rintro e w2 ⟨rfl, hb2, hB2⟩
                  rw [percent_read_cell] at hb2
                  go_wp2
                  go_roundw
                  case rel => exact ⟨k + 1, pre ++ [_], by omega, by go_num, by simp; omega, hb2, Lib.hid (percent_read_next _ _ _ _ _ HR.out HP2.out), (pw_below_drewN hB _).trans hB2⟩
                  case measure => simp [intOf]; omega
    · obtain rfl : k = s.size := by omega
      rw [percent_read_R_end, Option.map_some, List.append_nil] at HR
      go_wp2_with (go_at_call 34; refine (Tryd.Builder_String_any w.heap.size w.heap.size pre _ (by exact hb) (by exact hB1)).mono ?_; rintro e w2 ⟨rfl, hB2⟩)
      go_ret2
      exact ⟨by rw [HR.out]; rfl, hB.trans hB2⟩
theorem percent_read.calls (a0 : ByteArray) (a1 : ByteArray) (a2 : Bool) (r1 : ByteArray) (r2 : Bool) (w : World) (h : percent_read.f a0 a1 a2 = some (r1, r2)) :
    Calls Tryd.prog 27 #[.string a0, .string a1, .bool a2] w fun e w' => e = .returned (.tuple #[.string r1, .bool r2]) ∧ Below w.heap.size w w' := by
  unfold percent_read.f at h
  split at h
  · refine (percent_read_walk a0 a1 a2 w ‹_›).mono fun e w' ⟨he, hb⟩ => ⟨?_, hb⟩
    unfold percent_read_post at he
    split at h <;> (rename_i hq; rw [hq] at he; simp only [Option.some.injEq, Prod.mk.injEq] at h; obtain ⟨rfl, rfl⟩ := h; exact he)
  · cases h

end Go.Proofs.YtfagmfmpiicggaaDoor.Hq
