/- Layer 18, the plain side: the reference's writing and reading are the plain words'. No program in sight. -/
import Derived.Test.YtfagmfmpiicggaaDoorHx16
import Derived.Test.YtfagmfmpiicggaaDoorPureBack
namespace Go.Proofs.YtfagmfmpiicggaaDoor.Pure
open Go.RowKit Go.Proofs.YtfagmfmpiicggaaDoor.Hx Go.Proofs.YtfagmfmpiicggaaDoorW.PrintWords
set_option linter.unusedVariables false
theorem bt_cons {s : ByteArray} {i : Nat} {c : UInt8} {l : List UInt8} (h : s.data.toList.drop i = c :: l) : (i : Int) < s.size ∧ bt s i = (c.toNat : Int) ∧ s.data.toList.drop (i + 1) = l := by
  have hi : i < s.data.toList.length := by
    rcases Nat.lt_or_ge i s.data.toList.length with h1 | h1
    · exact h1
    · rw [List.drop_eq_nil_of_le h1] at h; cases h
  have hd := List.drop_eq_getElem_cons hi
  rw [h] at hd
  injection hd with h1 h2
  have hi2 : i < s.size := by have := len_eq s; omega
  refine ⟨by omega, ?_, h2.symm⟩
  unfold bt
  rw [dif_pos (by simpa using hi2), h1]
  simp [ByteArray.getElem_eq_getElem_data]
theorem drop_nil {s : ByteArray} {i : Nat} (h : s.data.toList.drop i = []) : ¬ (i : Int) < s.size := by
  have := List.drop_eq_nil_iff.1 h
  have h3 := len_eq s
  omega
theorem app_eq (x : ByteArray) (l : List UInt8) : x ++ ⟨l.toArray⟩ = ⟨(x.data.toList ++ l).toArray⟩ := by
  apply ByteArray.ext
  simp [ByteArray.data_append]
theorem one_eq (more : Int) (hm : more = 47 ∨ more = 0) (c : UInt8) (k : Nat) (hk : 1 ≤ k) : stowageref18_one.f k (c.toNat : Int) more = some ⟨(Q.escB more c).toArray⟩ := by
  have H : ∀ n < 256, stowageref18_one.f 1 ((n : Nat) : Int) more = some ⟨(Q.escB more (UInt8.ofNat n)).toArray⟩ := by
    rcases hm with rfl | rfl
    · decide +kernel
    · decide +kernel
  have h := H c.toNat c.toNat_lt
  rw [UInt8.ofNat_toNat] at h
  exact at_rounds (stowageref18_one.mono _ _) hk h
theorem refPath_loop (x0 : ByteArray) : ∀ (l : List UInt8) (i : Nat) (x3 : ByteArray) (k : Nat), x0.data.toList.drop i = l → x3.size + 3 * l.length ≤ 100000 → i + l.length ≤ 100000 → l.length + 2 ≤ k →
    stowageref18_Path.l0 k x0 x3 (i : Int) = some ⟨(x3.data.toList ++ Q.escL 47 l).toArray⟩ := by
  intro l
  induction l with
  | nil =>
    intro i x3 k hl hs hi hk
    obtain ⟨k, rfl⟩ : ∃ m, k = m + 1 := ⟨k - 1, by omega⟩
    rw [stowageref18_Path.l0, if_neg (drop_nil hl)]
    simp [Q.escL]
  | cons c l ih =>
    intro i x3 k hl hs hi hk
    obtain ⟨k, rfl⟩ : ∃ m, k = m + 1 := ⟨k - 1, by omega⟩
    simp only [List.length_cons] at hs hk hi
    obtain ⟨h1, h2, h3⟩ := bt_cons hl
    have hz : (⟨(Q.escB 47 c).toArray⟩ : ByteArray).size = (Q.escB 47 c).length := List.size_toArray
    have hz2 := (Q.escB_length 47 c).2
    rw [stowageref18_Path.l0, if_pos h1, if_pos (by omega), h2, one_eq 47 (.inl rfl) c k (by omega)]
    simp only [Option.bind_some]
    rw [if_pos (by omega), IntWalk.wrap64_in _ (by omega), app_eq]
    have := ih (i + 1) ⟨(x3.data.toList ++ Q.escB 47 c).toArray⟩ k h3 (by
      have : (⟨(x3.data.toList ++ Q.escB 47 c).toArray⟩ : ByteArray).size = (x3.data.toList ++ Q.escB 47 c).length := List.size_toArray
      have h4 := len_eq x3
      rw [this, List.length_append]
      omega) (by omega) (by omega)
    rw [show ((i : Int) + 1) = ((i + 1 : Nat) : Int) by omega, this, Q.escL_cons]
    simp
theorem refName_loop (x0 : ByteArray) : ∀ (l : List UInt8) (i : Nat) (x3 : ByteArray) (k : Nat), x0.data.toList.drop i = l → x3.size + 3 * l.length ≤ 100000 → i + l.length ≤ 100000 → l.length + 2 ≤ k →
    stowageref18_Name.l0 k x0 x3 (i : Int) = some ⟨(x3.data.toList ++ Q.escL 0 l).toArray⟩ := by
  intro l
  induction l with
  | nil =>
    intro i x3 k hl hs hi hk
    obtain ⟨k, rfl⟩ : ∃ m, k = m + 1 := ⟨k - 1, by omega⟩
    rw [stowageref18_Name.l0, if_neg (drop_nil hl)]
    simp [Q.escL]
  | cons c l ih =>
    intro i x3 k hl hs hi hk
    obtain ⟨k, rfl⟩ : ∃ m, k = m + 1 := ⟨k - 1, by omega⟩
    simp only [List.length_cons] at hs hk hi
    obtain ⟨h1, h2, h3⟩ := bt_cons hl
    have hz : (⟨(Q.escB 0 c).toArray⟩ : ByteArray).size = (Q.escB 0 c).length := List.size_toArray
    have hz2 := (Q.escB_length 0 c).2
    rw [stowageref18_Name.l0, if_pos h1, if_pos (by omega), h2, one_eq 0 (.inr rfl) c k (by omega)]
    simp only [Option.bind_some]
    rw [if_pos (by omega), IntWalk.wrap64_in _ (by omega), app_eq]
    have := ih (i + 1) ⟨(x3.data.toList ++ Q.escB 0 c).toArray⟩ k h3 (by
      have : (⟨(x3.data.toList ++ Q.escB 0 c).toArray⟩ : ByteArray).size = (x3.data.toList ++ Q.escB 0 c).length := List.size_toArray
      have h4 := len_eq x3
      rw [this, List.length_append]
      omega) (by omega) (by omega)
    rw [show ((i : Int) + 1) = ((i + 1 : Nat) : Int) by omega, this, Q.escL_cons]
    simp
theorem refName_eq (a : ByteArray) (h : a.size ≤ 5000) (k : Nat) (hk : a.size + 2 ≤ k) : stowageref18_Name.f k a = some ⟨(Q.escL 0 a.data.toList).toArray⟩ := by
  have hn := len_eq a
  unfold stowageref18_Name.f
  have := refName_loop a a.data.toList 0 ⟨#[]⟩ k rfl (by have : (⟨#[]⟩ : ByteArray).size = 0 := rfl; omega) (by omega) (by omega)
  simpa using this
theorem refPath_eq (a : ByteArray) (h : a.size ≤ 5000) (k : Nat) (hk : a.size + 2 ≤ k) : stowageref18_Path.f k a = some ⟨(Q.escL 47 a.data.toList).toArray⟩ := by
  have hn := len_eq a
  unfold stowageref18_Path.f
  have := refPath_loop a a.data.toList 0 ⟨#[]⟩ k rfl (by have : (⟨#[]⟩ : ByteArray).size = 0 := rfl; omega) (by omega) (by omega)
  simpa using this
theorem number_eq (c : UInt8) (k : Nat) (hk : 2 ≤ k) : stowageref18_number.f k (c.toNat : Int) = some ((Q.sixU c).toNat : Int) := by
  have H : ∀ n < 256, stowageref18_number.f 2 ((n : Nat) : Int) = some ((Q.sixU (UInt8.ofNat n)).toNat : Int) := by decide +kernel
  have h := H c.toNat c.toNat_lt
  rw [UInt8.ofNat_toNat] at h
  exact at_rounds (stowageref18_number.mono _) hk h
theorem six_join (a b : UInt8) (ha : a < 16) (hb : b < 16) : wrap64 (wrap64 (16 * (a.toNat : Int)) + (b.toNat : Int)) % (256 : Int) = (((a <<< 4 ||| b).toNat : Nat) : Int) := by
  have H : ∀ m < 16, ∀ n < 16, wrap64 (wrap64 (16 * ((m : Nat) : Int)) + ((n : Nat) : Int)) % (256 : Int) = (((UInt8.ofNat m <<< 4 ||| UInt8.ofNat n).toNat : Nat) : Int) := by decide +kernel
  have := H a.toNat (UInt8.lt_iff_toNat_lt.1 ha) b.toNat (UInt8.lt_iff_toNat_lt.1 hb)
  rwa [UInt8.ofNat_toNat, UInt8.ofNat_toNat] at this
/-- The bytes that may not stand raw, beside the blanks. -/
def barOf (no : Int) : List UInt8 := if no = 63 then [35, 63] else [35]
def numsOf (l : List UInt8) : List Int := l.map fun c => (c.toNat : Int)
def readRes (out : List Int) (o : Option (List UInt8)) : Option (ByteArray × Bool) := match o with
  | some r => some (strOfNums (out ++ numsOf r), true)
  | none => some (⟨#[]⟩, false)
theorem readRes_cons (out : List Int) (c : UInt8) (o : Option (List UInt8)) : readRes out (o.map (c :: ·)) = readRes (out ++ [(c.toNat : Int)]) o := by
  cases o with
  | none => rfl
  | some r => simp [readRes, numsOf]
theorem bad_iff (no : Int) (hno : no = 63 ∨ no = 0) (c : UInt8) : (c < 33 || 126 < c || (barOf no).contains c) = (decide ((c.toNat : Int) < 33) || decide ((c.toNat : Int) > 126) || decide ((c.toNat : Int) = 35) || ((c.toNat : Int) == no)) := by
  have H : ∀ n < 256, (UInt8.ofNat n < 33 || 126 < UInt8.ofNat n || (barOf no).contains (UInt8.ofNat n)) = (decide (((n : Nat) : Int) < 33) || decide (((n : Nat) : Int) > 126) || decide (((n : Nat) : Int) = 35) || (((n : Nat) : Int) == no)) := by
    rcases hno with rfl | rfl
    · decide +kernel
    · decide +kernel
  have := H c.toNat c.toNat_lt
  rwa [UInt8.ofNat_toNat] at this
theorem c37 (c : UInt8) : (c == 37) = decide ((c.toNat : Int) = 37) := by
  have H : ∀ n < 256, (UInt8.ofNat n == 37) = decide (((n : Nat) : Int) = 37) := by decide +kernel
  have := H c.toNat c.toNat_lt
  rwa [UInt8.ofNat_toNat] at this
theorem c43 (c : UInt8) : (c == 43) = decide ((c.toNat : Int) = 43) := by
  have H : ∀ n < 256, (UInt8.ofNat n == 43) = decide (((n : Nat) : Int) = 43) := by decide +kernel
  have := H c.toNat c.toNat_lt
  rwa [UInt8.ofNat_toNat] at this
theorem six16 (c : UInt8) : (Q.sixU c < 16) ∨ ((Q.sixU c < 16) = False ∧ ((Q.sixU c).toNat : Int) > 15) := by
  by_cases h : Q.sixU c < 16
  · exact .inl h
  · refine .inr ⟨eq_false h, ?_⟩
    have : ¬ (Q.sixU c).toNat < 16 := fun h' => h (UInt8.lt_iff_toNat_lt.2 h')
    omega
theorem read_j1_fail (k : Nat) (x0 : ByteArray) (x1 : Int) (x2 : Bool) (x8 : List Int) (x9 : Int) : stowageref18_Read.j1 (k + 1) x0 x1 x2 x8 x9 true = some (⟨#[]⟩, false) := by
  rw [stowageref18_Read.j1, if_pos rfl]
theorem read_loop (x0 : ByteArray) (no : Int) (hno : no = 63 ∨ no = 0) (plus : Bool) (hx : x0.size ≤ 100000) : ∀ (n : Nat) (l : List UInt8) (i : Nat) (out : List Int) (k : Nat), l.length ≤ n → x0.data.toList.drop i = l → out.length + l.length ≤ 100000 → 2 * n + 4 ≤ k →
    stowageref18_Read.l0 k x0 no plus out (i : Int) = readRes out (Q.readL (barOf no) plus l) := by
  intro n
  induction n with
  | zero =>
    intro l i out k hn hl ho hk
    obtain rfl : l = [] := List.length_eq_zero_iff.1 (by omega)
    obtain ⟨k, rfl⟩ : ∃ m, k = m + 1 := ⟨k - 1, by omega⟩
    rw [stowageref18_Read.l0, if_neg (drop_nil hl)]
    simp [Q.readL, readRes, numsOf]
  | succ n ih =>
    intro l i out k hn hl ho hk
    obtain ⟨k, rfl⟩ : ∃ m, k = m + 2 := ⟨k - 2, by omega⟩
    match l with
    | [] =>
      rw [stowageref18_Read.l0, if_neg (drop_nil hl)]
      simp [Q.readL, readRes, numsOf]
    | c :: l =>
      simp only [List.length_cons] at hn ho
      obtain ⟨h1, h2, h3⟩ := bt_cons hl
      rw [stowageref18_Read.l0, if_pos h1, if_pos (by omega), h2]
      have e37 := c37 c
      by_cases h37 : (c.toNat : Int) = 37
      · rw [decide_eq_true h37] at e37
        rw [if_pos h37, IntWalk.wrap64_in ((i : Int) + 2) (by omega), IntWalk.wrap64_in ((i : Int) + 1) (by omega)]
        match l with
        | [] =>
          have := drop_nil h3
          rw [if_pos (by omega), read_j1_fail, Q.readL_pct1 _ _ _ e37]
          rfl
        | [a] =>
          have g3 := drop_nil (bt_cons h3).2.2
          rw [if_pos (by omega), read_j1_fail, Q.readL_pct2 _ _ _ _ e37]
          rfl
        | a :: b :: l =>
          simp only [List.length_cons] at hn ho
          obtain ⟨a1, a2, a3⟩ := bt_cons h3
          obtain ⟨b1, b2, b3⟩ := bt_cons a3
          have a2' : bt x0 ((i : Int) + 1) = (a.toNat : Int) := by rw [← a2]; rfl
          have b2' : bt x0 ((i : Int) + 2) = (b.toNat : Int) := by rw [← b2]; rfl
          rw [if_neg (by omega), if_pos (by omega), if_pos (by omega), a2', number_eq a _ (by omega)]
          simp only [Option.bind_some]
          rw [Q.readL_pct3 _ _ _ _ _ _ e37]
          rcases six16 a with ha | ⟨ha, ha'⟩
          · have hat := UInt8.lt_iff_toNat_lt.1 ha
            have ha15 : ¬ ((Q.sixU a).toNat : Int) > 15 := by
              have : (16 : UInt8).toNat = 16 := rfl
              omega
            rw [if_neg ha15, if_pos (by omega), if_pos (by omega), b2', number_eq b _ (by omega)]
            simp only [Option.bind_some]
            rcases six16 b with hb | ⟨hb, hb'⟩
            · have hbt := UInt8.lt_iff_toNat_lt.1 hb
              have hb15 : ¬ ((Q.sixU b).toNat : Int) > 15 := by
                have : (16 : UInt8).toNat = 16 := rfl
                omega
              rw [decide_eq_false hb15, stowageref18_Read.j1, if_neg (by simp), IntWalk.wrap64_in ((i : Int) + 1) (by omega), IntWalk.wrap64_in ((i : Int) + 2) (by omega), IntWalk.wrap64_in ((i : Int) + 3) (by omega), if_pos (by omega), if_pos (by omega), a2', number_eq a _ (by omega)]
              simp only [Option.bind_some]
              rw [if_pos (by omega), if_pos (by omega), b2', number_eq b _ (by omega)]
              simp only [Option.bind_some]
              rw [if_pos (by omega), six_join _ _ ha hb, show ((i : Int) + 3) = ((i + 1 + 1 + 1 : Nat) : Int) by omega, ih l (i + 1 + 1 + 1) _ k (by omega) b3 (by simp; omega) (by omega), if_pos (by simp [ha, hb]), readRes_cons]
            · rw [decide_eq_true hb', read_j1_fail, if_neg (by simp [hb])]
              rfl
          · rw [if_pos ha', read_j1_fail, if_neg (by simp [ha])]
            rfl
      · rw [decide_eq_false h37] at e37
        rw [if_neg h37]
        have hbad := bad_iff no hno c
        have fin : ∀ b : Bool, (c < 33 || 126 < c || (barOf no).contains c) = b → stowageref18_Read.j2 (k + 1) x0 no plus out (i : Int) (c.toNat : Int) b = readRes out (Q.readL (barOf no) plus (c :: l)) := by
          intro b hb
          cases b with
          | true => rw [stowageref18_Read.j2, if_pos rfl, Q.readL_bad _ _ _ _ e37 hb]; rfl
          | false =>
            rw [stowageref18_Read.j2, if_neg (by simp), Q.readL_raw _ _ _ _ e37 hb, readRes_cons, IntWalk.wrap64_in ((i : Int) + 1) (by omega)]
            have e43 := c43 c
            have hih := fun (o : List Int) (hlen : o.length = out.length + 1) => ih l (i + 1) o k (by omega) h3 (by omega) (by omega)
            rw [show ((i : Int) + 1) = ((i + 1 : Nat) : Int) by omega]
            cases plus with
            | true =>
              rw [if_pos rfl]
              by_cases h43 : (c.toNat : Int) = 43
              · rw [if_pos h43, if_pos (by omega), hih _ (by simp)]
                rw [decide_eq_true h43] at e43
                rw [e43]
                rfl
              · rw [if_neg h43, if_pos (by omega), hih _ (by simp)]
                rw [decide_eq_false h43] at e43
                rw [e43]
                rfl
            | false =>
              rw [if_neg (by simp), if_pos (by omega), hih _ (by simp)]
              rfl
        by_cases q1 : (c.toNat : Int) < 33
        · rw [if_pos q1]; exact fin true (by rw [hbad, decide_eq_true q1]; rfl)
        · rw [if_neg q1]
          by_cases q2 : (c.toNat : Int) > 126
          · rw [if_pos q2]; exact fin true (by rw [hbad, decide_eq_true q2]; simp)
          · rw [if_neg q2]
            by_cases q3 : (c.toNat : Int) = 35
            · rw [if_pos q3]; exact fin true (by rw [hbad, decide_eq_true q3]; simp)
            · rw [if_neg q3]
              exact fin _ (by rw [hbad, decide_eq_false q1, decide_eq_false q2, decide_eq_false q3]; simp)
theorem strOf_nums (l : List UInt8) : strOfNums (numsOf l) = ⟨l.toArray⟩ := by
  unfold strOfNums numsOf
  simp [Function.comp_def]
theorem refRead_eq (a : ByteArray) (no : Int) (hno : no = 63 ∨ no = 0) (plus : Bool) (h : a.size ≤ 20000) (k : Nat) (hk : 2 * a.size + 4 ≤ k) :
    stowageref18_Read.f k a no plus = match Q.readL (barOf no) plus a.data.toList with | some r => some (⟨r.toArray⟩, true) | none => some (⟨#[]⟩, false) := by
  have hn := len_eq a
  unfold stowageref18_Read.f
  have := read_loop a no hno plus (by omega) a.data.toList.length a.data.toList 0 [] k (Nat.le_refl _) rfl (by simp; omega) (by omega)
  rw [show ((0 : Nat) : Int) = 0 from rfl] at this
  rw [this]
  unfold readRes
  cases Q.readL (barOf no) plus a.data.toList with
  | none => rfl
  | some r => simp only [List.nil_append]; rw [strOf_nums]
theorem refUnpath_eq (a : ByteArray) (h : a.size ≤ 5000) (k : Nat) (hk : 2 * a.size + 4 ≤ k) : stowageref18_Unpath.f k a = percent_Unpath.f a := by
  unfold stowageref18_Unpath.f percent_Unpath.f percent_read.f
  rw [refRead_eq a 63 (.inl rfl) false (by omega) k hk, if_pos (by omega), show (⟨#[35, 63]⟩ : ByteArray).data.toList = [35, 63] from rfl, show barOf 63 = [35, 63] from rfl]
  cases Q.readL [35, 63] false a.data.toList <;> rfl
theorem paths_long (k : Nat) (a0 a1 : ByteArray) (hk : 5 ≤ k) : stowagelaw18_PercentPaths.j0 k a0 a1 true = some true := by
  obtain ⟨k, rfl⟩ : ∃ m, k = m + 1 := ⟨k - 1, by omega⟩
  rw [stowagelaw18_PercentPaths.j0, if_pos rfl, at_rounds stowagelaw18_awake.mono (show 4 ≤ k by omega) awake_true]
  rfl
theorem PercentPaths_true (a0 a1 : ByteArray) : ∃ k, stowagelaw18_PercentPaths.f k a0 a1 = some true := by
  refine ⟨2 * a0.size + 2 * a1.size + 4 + 1, ?_⟩
  unfold stowagelaw18_PercentPaths.f
  by_cases h0 : (a0.size : Int) > 5000
  · rw [if_pos h0]; exact paths_long _ a0 a1 (by omega)
  · rw [if_neg h0]
    by_cases h1 : (a1.size : Int) > 5000
    · rw [decide_eq_true h1]; exact paths_long _ a0 a1 (by omega)
    · rw [decide_eq_false h1, stowagelaw18_PercentPaths.j0, if_neg (by simp), refUnpath_eq a1 (by omega) _ (by omega), at_rounds stowagelaw18_awake.mono (show 4 ≤ 2 * a0.size + 2 * a1.size + 4 by omega) awake_true, path_eq a0 (by omega), name_eq a0 (by omega)]
      obtain ⟨u, hu⟩ : ∃ u, percent_Unpath.f a1 = some u := by
        cases hr : Q.readL [35, 63] false a1.data.toList with
        | none => exact ⟨_, unpath_none a1 (by omega) hr⟩
        | some l => exact ⟨_, unpath_some a1 l (by omega) hr⟩
      rw [hu]
      simp only [Option.bind_some, if_true]
      rcases Nat.lt_or_ge (2 * a0.size + 2 * a1.size + 4) (a0.size + 2) with hlt | hge
      · omega
      · rw [refPath_eq a0 (by omega) _ hge, refName_eq a0 (by omega) _ hge]
        simp
end Go.Proofs.YtfagmfmpiicggaaDoor.Pure
