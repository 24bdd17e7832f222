/- Layer 18, the plain side of PercentQueries, whole: the page's example, the writing, the reading, the pairs. No program in sight. -/
import Derived.Lib.Join
import Derived.Test.YtfagmfmpiicggaaDoorHq17
import Derived.Test.YtfagmfmpiicggaaDoorQRound
namespace Go.Proofs.YtfagmfmpiicggaaDoor.Pure
open Go Go.RowKit Go.Proofs.YtfagmfmpiicggaaDoor.Hq Go.Proofs.YtfagmfmpiicggaaDoorW.PrintWords
set_option linter.unusedVariables false
theorem awake_query : percent_Query.f 4 [(⟨(⟨#[120, 32, 121]⟩ : ByteArray), (⟨#[49, 38, 50]⟩ : ByteArray)⟩ : S24), (⟨(⟨#[122]⟩ : ByteArray), (⟨#[]⟩ : ByteArray)⟩ : S24)] = some (⟨#[120, 37, 50, 48, 121, 61, 49, 37, 50, 54, 50, 38, 122]⟩, 0) := by
  simp only [percent_Query.f, percent_Query.l0, ByteArray.toList_eq]
  kernel_rfl
theorem awake_unquery : percent_Unquery.f (⟨#[97, 43, 98, 61, 37, 52, 49, 38, 99]⟩ : ByteArray) = some ([⟨⟨#[97, 32, 98]⟩, ⟨#[65]⟩⟩, ⟨⟨#[99]⟩, ⟨#[]⟩⟩], 0) := by
  kernel_rfl
theorem awake_true : stowagelaw18_awake.f 4 = some true := by
  unfold stowagelaw18_awake.f
  rw [awake_query, awake_unquery]
  simp only [Option.bind_some, ByteArray.toList_eq]
  kernel_rfl
theorem path_eq (a : ByteArray) (h : a.size ≤ 5000) : percent_Path.f a = some ⟨(Q.escL 47 a.data.toList).toArray⟩ := by
  unfold percent_Path.f percent_escaped.f
  rw [if_pos (by omega)]
  rfl
theorem escB_cases (more : Int) (hm : more = 47 ∨ more = 0) : ∀ n < 256,
    (Q.escB more (UInt8.ofNat n) = [UInt8.ofNat n] ∧ (UInt8.ofNat n == 37) = false ∧ (UInt8.ofNat n < 33 || 126 < UInt8.ofNat n) = false ∧ (UInt8.ofNat n == 43) = false ∧ UInt8.ofNat n ≠ 35 ∧ UInt8.ofNat n ≠ 63) ∨
    (∃ a b, Q.escB more (UInt8.ofNat n) = [37, a, b] ∧ (Q.sixU a < 16 && Q.sixU b < 16) = true ∧ (Q.sixU a <<< 4 ||| Q.sixU b) = UInt8.ofNat n) := by
  have H : ∀ n < 256, (Q.escB more (UInt8.ofNat n) = [UInt8.ofNat n] ∧ (UInt8.ofNat n == 37) = false ∧ (UInt8.ofNat n < 33 || 126 < UInt8.ofNat n) = false ∧ (UInt8.ofNat n == 43) = false ∧ UInt8.ofNat n ≠ 35 ∧ UInt8.ofNat n ≠ 63) ∨
    (Q.escB more (UInt8.ofNat n) = [37, Q.hexU (UInt8.ofNat n >>> 4), Q.hexU (UInt8.ofNat n &&& 15)] ∧ (Q.sixU (Q.hexU (UInt8.ofNat n >>> 4)) < 16 && Q.sixU (Q.hexU (UInt8.ofNat n &&& 15)) < 16) = true ∧ (Q.sixU (Q.hexU (UInt8.ofNat n >>> 4)) <<< 4 ||| Q.sixU (Q.hexU (UInt8.ofNat n &&& 15))) = UInt8.ofNat n) := by
    rcases hm with rfl | rfl
    · decide +kernel
    · decide +kernel
  intro n hn
  rcases H n hn with h | ⟨h1, h2, h3⟩
  · exact .inl h
  · exact .inr ⟨_, _, h1, h2, h3⟩
theorem readL_escB (more : Int) (hm : more = 47 ∨ more = 0) (bar : List UInt8) (hbar : bar = [35, 63] ∨ bar = [35]) (plus : Bool) (c : UInt8) (l : List UInt8) :
    Q.readL bar plus (Q.escB more c ++ l) = (Q.readL bar plus l).map (c :: ·) := by
  have H := escB_cases more hm c.toNat c.toNat_lt
  rw [UInt8.ofNat_toNat] at H
  rcases H with ⟨h1, h2, h3, h4, h5, h6⟩ | ⟨a, b, h1, h2, h3⟩
  · have hb : (c < 33 || 126 < c || bar.contains c) = false := by
      rw [h3, Bool.false_or]
      rcases hbar with rfl | rfl
      · simp [h5, h6]
      · simp [h5]
    rw [h1, List.singleton_append, Q.readL_raw bar plus c l h2 hb, h4]
    simp
  · rw [h1]
    show Q.readL bar plus (37 :: a :: b :: l) = _
    rw [Q.readL_pct3 bar plus 37 a b l rfl, if_pos h2, h3]
theorem readL_escL (more : Int) (hm : more = 47 ∨ more = 0) (bar : List UInt8) (hbar : bar = [35, 63] ∨ bar = [35]) (plus : Bool) (l : List UInt8) :
    Q.readL bar plus (Q.escL more l) = some l := by
  induction l with
  | nil => rfl
  | cons c l ih => rw [Q.escL_cons, readL_escB more hm bar hbar plus, ih]; rfl
theorem toList_of (a : ByteArray) : (⟨a.data.toList.toArray⟩ : ByteArray) = a := by simp
theorem name_eq (a : ByteArray) (h : a.size ≤ 5000) : percent_Name.f a = some ⟨(Q.escL 0 a.data.toList).toArray⟩ := by
  unfold percent_Name.f percent_escaped.f
  rw [if_pos (by omega)]
  rfl
theorem len_eq (a : ByteArray) : a.data.toList.length = a.size := by rw [Array.length_toList (xs := a.data)]; rfl
theorem size_esc (more : Int) (a : ByteArray) : (⟨(Q.escL more a.data.toList).toArray⟩ : ByteArray).size ≤ 3 * a.size := by
  have := (Q.escL_length more a.data.toList).2
  have h4 := len_eq a
  have h2 : (⟨(Q.escL more a.data.toList).toArray⟩ : ByteArray).size = (Q.escL more a.data.toList).length := List.size_toArray
  have h3 : a.size = a.data.size := rfl
  omega
theorem bt_cons {s : ByteArray} {i : Nat} {c : UInt8} {l : List UInt8} (h : s.data.toList.drop i = c :: l) : (i : Int) < s.size ∧ bt s i = (c.toNat : Int) ∧ s.data.toList.drop (i + 1) = l := by
  have hi : i < s.data.toList.length := by
    rcases Nat.lt_or_ge i s.data.toList.length with h1 | h1
    · exact h1
    · rw [List.drop_eq_nil_of_le h1] at h; cases h
  have hd := List.drop_eq_getElem_cons hi
  rw [h] at hd
  injection hd with h1 h2
  have hi2 : i < s.size := by have := len_eq s; omega
  refine ⟨by omega, ?_, h2.symm⟩
  unfold bt
  rw [dif_pos (by simpa using hi2), h1]
  simp [ByteArray.getElem_eq_getElem_data]
theorem drop_nil {s : ByteArray} {i : Nat} (h : s.data.toList.drop i = []) : ¬ (i : Int) < s.size := by
  have := List.drop_eq_nil_iff.1 h
  have h3 := len_eq s
  omega
theorem app_eq (x : ByteArray) (l : List UInt8) : x ++ ⟨l.toArray⟩ = ⟨(x.data.toList ++ l).toArray⟩ := by
  apply ByteArray.ext
  simp [ByteArray.data_append]
theorem one_eq (more : Int) (hm : more = 47 ∨ more = 0) (c : UInt8) (k : Nat) (hk : 1 ≤ k) : stowageref18_one.f k (c.toNat : Int) more = some ⟨(Q.escB more c).toArray⟩ := by
  have H : ∀ n < 256, stowageref18_one.f 1 ((n : Nat) : Int) more = some ⟨(Q.escB more (UInt8.ofNat n)).toArray⟩ := by
    rcases hm with rfl | rfl
    · decide +kernel
    · decide +kernel
  have h := H c.toNat c.toNat_lt
  rw [UInt8.ofNat_toNat] at h
  exact at_rounds (stowageref18_one.mono _ _) hk h
theorem refName_loop (x0 : ByteArray) : ∀ (l : List UInt8) (i : Nat) (x3 : ByteArray) (k : Nat), x0.data.toList.drop i = l → x3.size + 3 * l.length ≤ 100000 → i + l.length ≤ 100000 → l.length + 2 ≤ k →
    stowageref18_Name.l0 k x0 x3 (i : Int) = some ⟨(x3.data.toList ++ Q.escL 0 l).toArray⟩ := by
  intro l
  induction l with
  | nil =>
    intro i x3 k hl hs hi hk
    obtain ⟨k, rfl⟩ : ∃ m, k = m + 1 := ⟨k - 1, by omega⟩
    rw [stowageref18_Name.l0, if_neg (drop_nil hl)]
    simp [Q.escL]
  | cons c l ih =>
    intro i x3 k hl hs hi hk
    obtain ⟨k, rfl⟩ : ∃ m, k = m + 1 := ⟨k - 1, by omega⟩
    simp only [List.length_cons] at hs hk hi
    obtain ⟨h1, h2, h3⟩ := bt_cons hl
    have hz : (⟨(Q.escB 0 c).toArray⟩ : ByteArray).size = (Q.escB 0 c).length := List.size_toArray
    have hz2 := (Q.escB_length 0 c).2
    rw [stowageref18_Name.l0, if_pos h1, if_pos (by omega), h2, one_eq 0 (.inr rfl) c k (by omega)]
    simp only [Option.bind_some]
    rw [if_pos (by omega), IntWalk.wrap64_in _ (by omega), app_eq]
    have := ih (i + 1) ⟨(x3.data.toList ++ Q.escB 0 c).toArray⟩ k h3 (by
      have : (⟨(x3.data.toList ++ Q.escB 0 c).toArray⟩ : ByteArray).size = (x3.data.toList ++ Q.escB 0 c).length := List.size_toArray
      have h4 := len_eq x3
      rw [this, List.length_append]
      omega) (by omega) (by omega)
    rw [show ((i : Int) + 1) = ((i + 1 : Nat) : Int) by omega, this, Q.escL_cons]
    simp
theorem refName_eq (a : ByteArray) (h : a.size ≤ 5000) (k : Nat) (hk : a.size + 2 ≤ k) : stowageref18_Name.f k a = some ⟨(Q.escL 0 a.data.toList).toArray⟩ := by
  have hn := len_eq a
  unfold stowageref18_Name.f
  have := refName_loop a a.data.toList 0 ⟨#[]⟩ k rfl (by have : (⟨#[]⟩ : ByteArray).size = 0 := rfl; omega) (by omega) (by omega)
  simpa using this
theorem number_eq (c : UInt8) (k : Nat) (hk : 2 ≤ k) : stowageref18_number.f k (c.toNat : Int) = some ((Q.sixU c).toNat : Int) := by
  have H : ∀ n < 256, stowageref18_number.f 2 ((n : Nat) : Int) = some ((Q.sixU (UInt8.ofNat n)).toNat : Int) := by decide +kernel
  have h := H c.toNat c.toNat_lt
  rw [UInt8.ofNat_toNat] at h
  exact at_rounds (stowageref18_number.mono _) hk h
theorem six_join (a b : UInt8) (ha : a < 16) (hb : b < 16) : wrap64 (wrap64 (16 * (a.toNat : Int)) + (b.toNat : Int)) % (256 : Int) = (((a <<< 4 ||| b).toNat : Nat) : Int) := by
  have H : ∀ m < 16, ∀ n < 16, wrap64 (wrap64 (16 * ((m : Nat) : Int)) + ((n : Nat) : Int)) % (256 : Int) = (((UInt8.ofNat m <<< 4 ||| UInt8.ofNat n).toNat : Nat) : Int) := by decide +kernel
  have := H a.toNat (UInt8.lt_iff_toNat_lt.1 ha) b.toNat (UInt8.lt_iff_toNat_lt.1 hb)
  rwa [UInt8.ofNat_toNat, UInt8.ofNat_toNat] at this
/-- The bytes that may not stand raw, beside the blanks. -/
def barOf (no : Int) : List UInt8 := if no = 63 then [35, 63] else [35]
def numsOf (l : List UInt8) : List Int := l.map fun c => (c.toNat : Int)
def readRes (out : List Int) (o : Option (List UInt8)) : Option (ByteArray × Bool) := match o with
  | some r => some (strOfNums (out ++ numsOf r), true)
  | none => some (⟨#[]⟩, false)
theorem readRes_cons (out : List Int) (c : UInt8) (o : Option (List UInt8)) : readRes out (o.map (c :: ·)) = readRes (out ++ [(c.toNat : Int)]) o := by
  cases o with
  | none => rfl
  | some r => simp [readRes, numsOf]
theorem bad_iff (no : Int) (hno : no = 63 ∨ no = 0) (c : UInt8) : (c < 33 || 126 < c || (barOf no).contains c) = (decide ((c.toNat : Int) < 33) || decide ((c.toNat : Int) > 126) || decide ((c.toNat : Int) = 35) || ((c.toNat : Int) == no)) := by
  have H : ∀ n < 256, (UInt8.ofNat n < 33 || 126 < UInt8.ofNat n || (barOf no).contains (UInt8.ofNat n)) = (decide (((n : Nat) : Int) < 33) || decide (((n : Nat) : Int) > 126) || decide (((n : Nat) : Int) = 35) || (((n : Nat) : Int) == no)) := by
    rcases hno with rfl | rfl
    · decide +kernel
    · decide +kernel
  have := H c.toNat c.toNat_lt
  rwa [UInt8.ofNat_toNat] at this
theorem c37 (c : UInt8) : (c == 37) = decide ((c.toNat : Int) = 37) := by
  have H : ∀ n < 256, (UInt8.ofNat n == 37) = decide (((n : Nat) : Int) = 37) := by decide +kernel
  have := H c.toNat c.toNat_lt
  rwa [UInt8.ofNat_toNat] at this
theorem c43 (c : UInt8) : (c == 43) = decide ((c.toNat : Int) = 43) := by
  have H : ∀ n < 256, (UInt8.ofNat n == 43) = decide (((n : Nat) : Int) = 43) := by decide +kernel
  have := H c.toNat c.toNat_lt
  rwa [UInt8.ofNat_toNat] at this
theorem six16 (c : UInt8) : (Q.sixU c < 16) ∨ ((Q.sixU c < 16) = False ∧ ((Q.sixU c).toNat : Int) > 15) := by
  by_cases h : Q.sixU c < 16
  · exact .inl h
  · refine .inr ⟨eq_false h, ?_⟩
    have : ¬ (Q.sixU c).toNat < 16 := fun h' => h (UInt8.lt_iff_toNat_lt.2 h')
    omega
theorem read_j1_fail (k : Nat) (x0 : ByteArray) (x1 : Int) (x2 : Bool) (x8 : List Int) (x9 : Int) : stowageref18_Read.j1 (k + 1) x0 x1 x2 x8 x9 true = some (⟨#[]⟩, false) := by
  rw [stowageref18_Read.j1, if_pos rfl]
theorem read_loop (x0 : ByteArray) (no : Int) (hno : no = 63 ∨ no = 0) (plus : Bool) (hx : x0.size ≤ 100000) : ∀ (n : Nat) (l : List UInt8) (i : Nat) (out : List Int) (k : Nat), l.length ≤ n → x0.data.toList.drop i = l → out.length + l.length ≤ 100000 → 2 * n + 4 ≤ k →
    stowageref18_Read.l0 k x0 no plus out (i : Int) = readRes out (Q.readL (barOf no) plus l) := by
  intro n
  induction n with
  | zero =>
    intro l i out k hn hl ho hk
    obtain rfl : l = [] := List.length_eq_zero_iff.1 (by omega)
    obtain ⟨k, rfl⟩ : ∃ m, k = m + 1 := ⟨k - 1, by omega⟩
    rw [stowageref18_Read.l0, if_neg (drop_nil hl)]
    simp [Q.readL, readRes, numsOf]
  | succ n ih =>
    intro l i out k hn hl ho hk
    obtain ⟨k, rfl⟩ : ∃ m, k = m + 2 := ⟨k - 2, by omega⟩
    match l with
    | [] =>
      rw [stowageref18_Read.l0, if_neg (drop_nil hl)]
      simp [Q.readL, readRes, numsOf]
    | c :: l =>
      simp only [List.length_cons] at hn ho
      obtain ⟨h1, h2, h3⟩ := bt_cons hl
      rw [stowageref18_Read.l0, if_pos h1, if_pos (by omega), h2]
      have e37 := c37 c
      by_cases h37 : (c.toNat : Int) = 37
      · rw [decide_eq_true h37] at e37
        rw [if_pos h37, IntWalk.wrap64_in ((i : Int) + 2) (by omega), IntWalk.wrap64_in ((i : Int) + 1) (by omega)]
        match l with
        | [] =>
          have := drop_nil h3
          rw [if_pos (by omega), read_j1_fail, Q.readL_pct1 _ _ _ e37]
          rfl
        | [a] =>
          have g3 := drop_nil (bt_cons h3).2.2
          rw [if_pos (by omega), read_j1_fail, Q.readL_pct2 _ _ _ _ e37]
          rfl
        | a :: b :: l =>
          simp only [List.length_cons] at hn ho
          obtain ⟨a1, a2, a3⟩ := bt_cons h3
          obtain ⟨b1, b2, b3⟩ := bt_cons a3
          have a2' : bt x0 ((i : Int) + 1) = (a.toNat : Int) := by rw [← a2]; rfl
          have b2' : bt x0 ((i : Int) + 2) = (b.toNat : Int) := by rw [← b2]; rfl
          rw [if_neg (by omega), if_pos (by omega), if_pos (by omega), a2', number_eq a _ (by omega)]
          simp only [Option.bind_some]
          rw [Q.readL_pct3 _ _ _ _ _ _ e37]
          rcases six16 a with ha | ⟨ha, ha'⟩
          · have hat := UInt8.lt_iff_toNat_lt.1 ha
            have ha15 : ¬ ((Q.sixU a).toNat : Int) > 15 := by
              have : (16 : UInt8).toNat = 16 := rfl
              omega
            rw [if_neg ha15, if_pos (by omega), if_pos (by omega), b2', number_eq b _ (by omega)]
            simp only [Option.bind_some]
            rcases six16 b with hb | ⟨hb, hb'⟩
            · have hbt := UInt8.lt_iff_toNat_lt.1 hb
              have hb15 : ¬ ((Q.sixU b).toNat : Int) > 15 := by
                have : (16 : UInt8).toNat = 16 := rfl
                omega
              rw [decide_eq_false hb15, stowageref18_Read.j1, if_neg (by simp), IntWalk.wrap64_in ((i : Int) + 1) (by omega), IntWalk.wrap64_in ((i : Int) + 2) (by omega), IntWalk.wrap64_in ((i : Int) + 3) (by omega), if_pos (by omega), if_pos (by omega), a2', number_eq a _ (by omega)]
              simp only [Option.bind_some]
              rw [if_pos (by omega), if_pos (by omega), b2', number_eq b _ (by omega)]
              simp only [Option.bind_some]
              rw [if_pos (by omega), six_join _ _ ha hb, show ((i : Int) + 3) = ((i + 1 + 1 + 1 : Nat) : Int) by omega, ih l (i + 1 + 1 + 1) _ k (by omega) b3 (by simp; omega) (by omega), if_pos (by simp [ha, hb]), readRes_cons]
            · rw [decide_eq_true hb', read_j1_fail, if_neg (by simp [hb])]
              rfl
          · rw [if_pos ha', read_j1_fail, if_neg (by simp [ha])]
            rfl
      · rw [decide_eq_false h37] at e37
        rw [if_neg h37]
        have hbad := bad_iff no hno c
        have fin : ∀ b : Bool, (c < 33 || 126 < c || (barOf no).contains c) = b → stowageref18_Read.j2 (k + 1) x0 no plus out (i : Int) (c.toNat : Int) b = readRes out (Q.readL (barOf no) plus (c :: l)) := by
          intro b hb
          cases b with
          | true => rw [stowageref18_Read.j2, if_pos rfl, Q.readL_bad _ _ _ _ e37 hb]; rfl
          | false =>
            rw [stowageref18_Read.j2, if_neg (by simp), Q.readL_raw _ _ _ _ e37 hb, readRes_cons, IntWalk.wrap64_in ((i : Int) + 1) (by omega)]
            have e43 := c43 c
            have hih := fun (o : List Int) (hlen : o.length = out.length + 1) => ih l (i + 1) o k (by omega) h3 (by omega) (by omega)
            rw [show ((i : Int) + 1) = ((i + 1 : Nat) : Int) by omega]
            cases plus with
            | true =>
              rw [if_pos rfl]
              by_cases h43 : (c.toNat : Int) = 43
              · rw [if_pos h43, if_pos (by omega), hih _ (by simp)]
                rw [decide_eq_true h43] at e43
                rw [e43]
                rfl
              · rw [if_neg h43, if_pos (by omega), hih _ (by simp)]
                rw [decide_eq_false h43] at e43
                rw [e43]
                rfl
            | false =>
              rw [if_neg (by simp), if_pos (by omega), hih _ (by simp)]
              rfl
        by_cases q1 : (c.toNat : Int) < 33
        · rw [if_pos q1]; exact fin true (by rw [hbad, decide_eq_true q1]; rfl)
        · rw [if_neg q1]
          by_cases q2 : (c.toNat : Int) > 126
          · rw [if_pos q2]; exact fin true (by rw [hbad, decide_eq_true q2]; simp)
          · rw [if_neg q2]
            by_cases q3 : (c.toNat : Int) = 35
            · rw [if_pos q3]; exact fin true (by rw [hbad, decide_eq_true q3]; simp)
            · rw [if_neg q3]
              exact fin _ (by rw [hbad, decide_eq_false q1, decide_eq_false q2, decide_eq_false q3]; simp)
theorem strOf_nums (l : List UInt8) : strOfNums (numsOf l) = ⟨l.toArray⟩ := by
  unfold strOfNums numsOf
  simp [Function.comp_def]
theorem refRead_eq (a : ByteArray) (no : Int) (hno : no = 63 ∨ no = 0) (plus : Bool) (h : a.size ≤ 20000) (k : Nat) (hk : 2 * a.size + 4 ≤ k) :
    stowageref18_Read.f k a no plus = match Q.readL (barOf no) plus a.data.toList with | some r => some (⟨r.toArray⟩, true) | none => some (⟨#[]⟩, false) := by
  have hn := len_eq a
  unfold stowageref18_Read.f
  have := read_loop a no hno plus (by omega) a.data.toList.length a.data.toList 0 [] k (Nat.le_refl _) rfl (by simp; omega) (by omega)
  rw [show ((0 : Nat) : Int) = 0 from rfl] at this
  rw [this]
  unfold readRes
  cases Q.readL (barOf no) plus a.data.toList with
  | none => rfl
  | some r => simp only [List.nil_append]; rw [strOf_nums]
abbrev PairP := S24
abbrev PairR := S57
theorem rdP_cons {xs : List PairP} {i : Nat} {p : PairP} {l : List PairP} (h : xs.drop i = p :: l) : (i : Int) < xs.length ∧ rd_T24 xs (i : Int) = p ∧ xs.drop (i + 1) = l := by
  have hi : i < xs.length := by
    rcases Nat.lt_or_ge i xs.length with h1 | h1
    · exact h1
    · rw [List.drop_eq_nil_of_le h1] at h; cases h
  have hd := List.drop_eq_getElem_cons hi
  rw [h] at hd
  injection hd with h1 h2
  refine ⟨by omega, ?_, h2.symm⟩
  unfold rd_T24
  rw [Int.toNat_natCast, List.getD_eq_getElem?_getD, List.getElem?_eq_getElem hi, h1]
  rfl
theorem rdP_nil {α : Type} {xs : List α} {i : Nat} (h : xs.drop i = []) : ¬ (i : Int) < xs.length := by
  have := List.drop_eq_nil_iff.1 h
  omega
def itemB (p : PairP) : ByteArray := ⟨(Q.itemL p.f0.data.toList p.f1.data.toList).toArray⟩
def qOk (l : List PairP) : Bool := l.all fun p => !(p.f0.data.toList == [])
def small (l : List PairP) : Prop := ∀ p ∈ l, p.f0.size ≤ 5000 ∧ p.f1.size ≤ 5000
def queryRes (acc : List ByteArray) (l : List PairP) : Option (ByteArray × Int) := if qOk l = true then (strings_Join.f (acc ++ l.map itemB) (⟨#[38]⟩ : ByteArray)).bind (fun t => some (t, 0)) else some (⟨#[]⟩, 3)
theorem query_loop (x : List PairP) (hx : x.length ≤ 16) : ∀ (l : List PairP) (i : Nat) (acc : List ByteArray) (k : Nat), x.drop i = l → small l → acc.length + l.length ≤ 16 → i + l.length ≤ 16 → l.length + 1 ≤ k →
    percent_Query.l0 k acc x (x.length : Int) (i : Int) = queryRes acc l := by
  intro l
  induction l with
  | nil =>
    intro i acc k hl hs ha hi hk
    obtain ⟨k, rfl⟩ : ∃ m, k = m + 1 := ⟨k - 1, by omega⟩
    rw [percent_Query.l0, if_neg (rdP_nil hl)]
    unfold queryRes
    rw [if_pos (show qOk [] = true from rfl), List.map_nil, List.append_nil]
  | cons p l ih =>
    intro i acc k hl hs ha hi hk
    obtain ⟨k, rfl⟩ : ∃ m, k = m + 1 := ⟨k - 1, by omega⟩
    simp only [List.length_cons] at ha hk hi
    obtain ⟨h1, h2, h3⟩ := rdP_cons hl
    obtain ⟨s0, s1⟩ := hs p (by simp)
    have hih := fun (a : List ByteArray) (hal : a.length = acc.length + 1) => ih (i + 1) a k h3 (fun q hq => hs q (by simp [hq])) (by omega) (by omega) (by omega)
    rw [percent_Query.l0, if_pos h1, if_pos (by omega), if_pos h1, h2, IntWalk.wrap64_in ((i : Int) + 1) (by omega), show ((i : Int) + 1) = ((i + 1 : Nat) : Int) by omega, ByteArray.toList_eq, ByteArray.toList_eq]
    by_cases hn : p.f0.data.toList = []
    · rw [if_pos hn]
      unfold queryRes
      rw [if_neg (by unfold qOk; rw [List.all_cons, show (p.f0.data.toList == []) = true by rw [hn]; rfl]; simp)]
    · have hq : ∀ a : List ByteArray, queryRes acc (p :: l) = queryRes (acc ++ [itemB p]) l := by
        intro _
        unfold queryRes qOk
        have hb : (p.f0.data.toList == []) = false := by simpa using hn
        rw [List.all_cons, hb]
        simp
      rw [if_neg hn, name_eq p.f0 s0, hq acc]
      simp only [Option.bind_some]
      by_cases hv : p.f1.data.toList = []
      · rw [if_pos hv, if_pos (by omega)]
        have e : (⟨(Q.escL 0 p.f0.data.toList).toArray⟩ : ByteArray) = itemB p := by
          unfold itemB Q.itemL
          rw [if_pos hv, List.append_nil]
        rw [e]
        exact hih _ (by simp)
      · rw [if_neg hv, name_eq p.f1 s1]
        simp only [Option.bind_some]
        have z0 := size_esc 0 p.f0
        have z1 := size_esc 0 p.f1
        rw [if_pos (by omega), if_pos (by have : (⟨#[61]⟩ : ByteArray).size = 1 := rfl; simp only [ByteArray.size_append]; omega), if_pos (by omega)]
        have e : (⟨(Q.escL 0 p.f0.data.toList).toArray⟩ : ByteArray) ++ ((⟨#[61]⟩ : ByteArray) ++ ⟨(Q.escL 0 p.f1.data.toList).toArray⟩) = itemB p := by
          unfold itemB Q.itemL
          rw [if_neg hv]
          apply ByteArray.ext
          simp [ByteArray.data_append]
        rw [e]
        exact hih _ (by simp)
theorem join_le (B : Nat) (c : UInt8) : ∀ (l : List (List UInt8)), (∀ a ∈ l, a.length ≤ B) → (Lib.join l [c]).length ≤ l.length * (B + 1)
  | [], _ => by simp [Lib.join_nil]
  | [a], h => by
    rw [Lib.join_one]
    have := h a (by simp)
    simp
    omega
  | a :: b :: l, h => by
    rw [Q.join_cons2]
    have h1 := h a (by simp)
    have h2 := join_le B c (b :: l) fun x hx => h x (by simp [hx])
    simp only [List.length_append, List.length_cons, List.length_nil] at h2 ⊢
    rw [Nat.add_mul (l.length + 1) 1 (B + 1)]
    omega
/-- The text of pairs. -/
def pairsL (l : List PairP) : List UInt8 := Lib.join (l.map fun p => Q.itemL p.f0.data.toList p.f1.data.toList) [38]
theorem pairsL_length (l : List PairP) (hl : l.length ≤ 16) (hs : small l) : (pairsL l).length ≤ 16 * 30002 := by
  have := join_le 30001 38 (l.map fun p => Q.itemL p.f0.data.toList p.f1.data.toList) (fun a ha => by
    obtain ⟨p, hp, rfl⟩ := List.mem_map.1 ha
    obtain ⟨s0, s1⟩ := hs p hp
    have := Q.itemL_length p.f0.data.toList p.f1.data.toList
    have e0 := len_eq p.f0
    have e1 := len_eq p.f1
    omega)
  rw [List.length_map] at this
  have h2 : l.length * (30001 + 1) ≤ 16 * 30002 := Nat.mul_le_mul_right _ hl
  exact Nat.le_trans this h2
theorem query_eq (l : List PairP) (hl : l.length ≤ 16) (hs : small l) (k : Nat) (hk : 17 ≤ k) : percent_Query.f k l = if qOk l = true then some (⟨(pairsL l).toArray⟩, 0) else some (⟨#[]⟩, 3) := by
  unfold percent_Query.f
  rw [if_neg (by omega)]
  have := query_loop l hl l 0 [] k rfl hs (by simpa using hl) (by omega) (by omega)
  rw [show ((0 : Nat) : Int) = 0 from rfl] at this
  rw [this]
  unfold queryRes
  by_cases hq : qOk l = true
  · rw [if_pos hq, if_pos hq]
    have hm : (l.map itemB).map (·.data.toList) = l.map fun p => Q.itemL p.f0.data.toList p.f1.data.toList := by
      rw [List.map_map]
      apply List.map_congr_left
      intro p _
      simp [itemB]
    have hz := pairsL_length l hl hs
    unfold strings_Join.f
    rw [List.nil_append, hm, show (⟨#[38]⟩ : ByteArray).data.toList = [38] from rfl, if_pos ⟨by rw [List.length_map]; omega, by unfold pairsL at hz; omega⟩]
    rfl
  · rw [if_neg hq, if_neg hq]
theorem query_many (l : List PairP) (hl : 16 < l.length) (k : Nat) : percent_Query.f k l = some (⟨#[]⟩, 131) := by
  unfold percent_Query.f
  rw [if_pos (by omega)]
theorem all_items : ∀ (l : List PairP), qOk l = true → percent_Unquery_all (l.map fun p => Q.itemL p.f0.data.toList p.f1.data.toList) = some l
  | [], _ => rfl
  | p :: l, h => by
    unfold qOk at h
    rw [List.all_cons, Bool.and_eq_true] at h
    have hn : p.f0.data.toList ≠ [] := by simpa using h.1
    have hp : percent_Unquery_pair (Q.itemL p.f0.data.toList p.f1.data.toList) = some p := by
      unfold percent_Unquery_pair
      rw [Q.cutB_item, if_neg (Q.escL_ne hn 0), readL_escL 0 (.inr rfl) [35] (.inr rfl) true, readL_escL 0 (.inr rfl) [35] (.inr rfl) true]
    rw [List.map_cons, percent_Unquery_all, hp, all_items l h.2]
    rfl
theorem unquery_pairs (l : List PairP) (hl : l.length ≤ 16) (hs : small l) (hq : qOk l = true) : percent_Unquery.f ⟨(pairsL l).toArray⟩ = some (l, 0) := by
  have hz := pairsL_length l hl hs
  have hz2 : (⟨(pairsL l).toArray⟩ : ByteArray).size = (pairsL l).length := List.size_toArray
  unfold percent_Unquery.f
  rw [if_pos (by omega), show (⟨(pairsL l).toArray⟩ : ByteArray).data.toList = pairsL l by simp]
  by_cases he : l = []
  · subst he
    rw [if_pos (show pairsL [] = [] from rfl)]
  · have hne : ∀ a ∈ l.map (fun p => Q.itemL p.f0.data.toList p.f1.data.toList), a ≠ [] := fun a ha => by
      obtain ⟨p, hp, rfl⟩ := List.mem_map.1 ha
      have := List.all_eq_true.1 hq p hp
      exact Q.itemL_ne (by simpa using this) _
    have hsp : Q.splitL 38 (pairsL l) = l.map fun p => Q.itemL p.f0.data.toList p.f1.data.toList :=
      Q.splitL_join 38 _ (by simpa using he) fun a ha => by
        obtain ⟨p, hp, rfl⟩ := List.mem_map.1 ha
        exact Q.itemL_no38 _ _
    have hc := Q.splitL_length 38 (pairsL l)
    rw [hsp, List.length_map] at hc
    rw [if_neg (show ¬ pairsL l = [] from Q.join_ne _ (by simpa using he) hne _), if_neg (by omega), hsp, all_items l hq]
theorem splitL_le (c : UInt8) : ∀ (l : List UInt8), ∀ p ∈ Q.splitL c l, p.length ≤ l.length
  | [], p, hp => by simp [Q.splitL] at hp; subst hp; simp
  | x :: l, p, hp => by
    cases hx : (x == c) with
    | true =>
      rw [Q.splitL_hit c x l hx] at hp
      rcases List.mem_cons.1 hp with rfl | hp
      · simp
      · have := splitL_le c l p hp
        simp
        omega
    | false =>
      cases hs : Q.splitL c l with
      | nil => exact absurd hs (Q.splitL_ne c l)
      | cons q qs =>
        rw [Q.splitL_miss c x l q qs hx hs] at hp
        have ih := splitL_le c l
        rw [hs] at ih
        rcases List.mem_cons.1 hp with rfl | hp
        · have := ih q (by simp)
          simp
          omega
        · have := ih p (by simp [hp])
          simp
          omega
theorem pair_ok {q : List UInt8} {p : PairP} (h : percent_Unquery_pair q = some p) : p.f0.data.toList ≠ [] ∧ p.f0.size ≤ q.length ∧ p.f1.size ≤ q.length := by
  unfold percent_Unquery_pair at h
  have hl := Q.cutB_length 61 q
  split at h
  · cases h
  · rename_i hne
    split at h
    · rename_i x y hx hy
      cases h
      have r1 := Q.readL_length _ _ _ _ (Nat.le_refl _) _ hx
      have r2 := Q.readL_length _ _ _ _ (Nat.le_refl _) _ hy
      have e1 : (⟨x.toArray⟩ : ByteArray).size = x.length := List.size_toArray
      have e2 : (⟨y.toArray⟩ : ByteArray).size = y.length := List.size_toArray
      refine ⟨?_, by simp only [e1]; omega, by simp only [e2]; omega⟩
      cases hc : (Q.cutB 61 q).1 with
      | nil => exact absurd hc hne
      | cons c l =>
        rw [hc] at hx
        show (⟨x.toArray⟩ : ByteArray).data.toList ≠ []
        rw [show (⟨x.toArray⟩ : ByteArray).data.toList = x by simp]
        exact Q.readL_ne _ _ _ _ _ hx
    · cases h
theorem all_ok (B : Nat) : ∀ (ps : List (List UInt8)) (ys : List PairP), (∀ q ∈ ps, q.length ≤ B) → percent_Unquery_all ps = some ys → qOk ys = true ∧ ∀ p ∈ ys, p.f0.size ≤ B ∧ p.f1.size ≤ B
  | [], ys, _, h => by simp [percent_Unquery_all] at h; subst h; exact ⟨rfl, by simp⟩
  | q :: ps, ys, hB, h => by
    rw [percent_Unquery_all] at h
    cases hq : percent_Unquery_pair q with
    | none => rw [hq] at h; cases h
    | some p =>
      rw [hq] at h
      obtain ⟨zs, hz, rfl⟩ := Option.map_eq_some_iff.1 h
      obtain ⟨i1, i2⟩ := all_ok B ps zs (fun a ha => hB a (by simp [ha])) hz
      obtain ⟨p1, p2, p3⟩ := pair_ok hq
      have hb := hB q (by simp)
      refine ⟨?_, ?_⟩
      · unfold qOk at i1 ⊢
        rw [List.all_cons, i1, show (p.f0.data.toList == []) = false by simpa using p1]
        rfl
      · intro a ha
        rcases List.mem_cons.1 ha with rfl | ha
        · exact ⟨by omega, by omega⟩
        · exact i2 a ha
/-- What a text says: an error and no pair, or pairs that can be written. -/
theorem unquery_cases (t : ByteArray) (ht : t.size ≤ 5000) : (∃ e, e ≠ 0 ∧ percent_Unquery.f t = some ([], e)) ∨ ∃ m, m.length ≤ 16 ∧ small m ∧ qOk m = true ∧ percent_Unquery.f t = some (m, 0) := by
  unfold percent_Unquery.f
  rw [if_pos (by omega)]
  by_cases h0 : t.data.toList = []
  · rw [if_pos h0]
    exact .inr ⟨[], by simp, fun p hp => by simp at hp, rfl, rfl⟩
  · rw [if_neg h0]
    by_cases h1 : 16 ≤ t.data.toList.count 38
    · rw [if_pos h1]
      exact .inl ⟨131, by omega, rfl⟩
    · rw [if_neg h1]
      cases ha : percent_Unquery_all (Q.splitL 38 t.data.toList) with
      | none => exact .inl ⟨3, by omega, rfl⟩
      | some m =>
        have hlen := percent_Unquery_all_length _ _ ha
        rw [Q.splitL_length] at hlen
        obtain ⟨hq, hs⟩ := all_ok t.data.toList.length _ m (splitL_le 38 _) ha
        have e0 := len_eq t
        exact .inr ⟨m, by omega, fun p hp => by have := hs p hp; omega, hq, rfl⟩
def conv (p : PairP) : PairR := ⟨p.f0, p.f1⟩
theorem refs_loop (x : List PairP) (hx : x.length ≤ 1000000000) : ∀ (l : List PairP) (i : Nat) (acc : List PairR) (k : Nat), x.drop i = l → acc.length + l.length ≤ 1000000000 → i + l.length ≤ 1000000000 → l.length + 1 ≤ k →
    stowagelaw18_Refs.l0 k x acc (i : Int) = some (acc ++ l.map conv) := by
  intro l
  induction l with
  | nil =>
    intro i acc k hl ha hi hk
    obtain ⟨k, rfl⟩ : ∃ m, k = m + 1 := ⟨k - 1, by omega⟩
    rw [stowagelaw18_Refs.l0, if_neg (rdP_nil hl)]
    simp
  | cons p l ih =>
    intro i acc k hl ha hi hk
    obtain ⟨k, rfl⟩ : ∃ m, k = m + 1 := ⟨k - 1, by omega⟩
    simp only [List.length_cons] at ha hk hi
    obtain ⟨h1, h2, h3⟩ := rdP_cons hl
    rw [stowagelaw18_Refs.l0, if_pos h1, if_pos (by omega), if_pos (by omega), h2, IntWalk.wrap64_in ((i : Int) + 1) (by omega), show ((i : Int) + 1) = ((i + 1 : Nat) : Int) by omega,
      ih (i + 1) _ k h3 (by simp; omega) (by omega) (by omega)]
    simp [conv]
theorem refs_eq (x : List PairP) (hx : x.length ≤ 1000000000) (k : Nat) (hk : x.length + 1 ≤ k) : stowagelaw18_Refs.f k x = some (x.map conv) := by
  unfold stowagelaw18_Refs.f
  have := refs_loop x hx x 0 [] k rfl (by simpa using hx) (by omega) hk
  simpa using this
theorem same_loop (x : List PairR) (hx : x.length ≤ 1000000000) : ∀ (n i k : Nat), i + n = x.length → n + 1 ≤ k → stowageref18_Same.l0 k x x (i : Int) = some true := by
  intro n
  induction n with
  | zero =>
    intro i k hi hk
    obtain ⟨k, rfl⟩ : ∃ m, k = m + 1 := ⟨k - 1, by omega⟩
    rw [stowageref18_Same.l0, if_neg (by omega)]
  | succ n ih =>
    intro i k hi hk
    obtain ⟨k, rfl⟩ : ∃ m, k = m + 1 := ⟨k - 1, by omega⟩
    rw [stowageref18_Same.l0, if_pos (by omega), if_pos (by omega), if_pos (by omega), if_neg (by simp), IntWalk.wrap64_in ((i : Int) + 1) (by omega), show ((i : Int) + 1) = ((i + 1 : Nat) : Int) by omega]
    exact ih (i + 1) k (by omega) (by omega)
theorem same_eq (x : List PairR) (hx : x.length ≤ 1000000000) (k : Nat) (hk : x.length + 1 ≤ k) : stowageref18_Same.f k x x = some true := by
  unfold stowageref18_Same.f
  rw [if_pos rfl]
  exact same_loop x hx x.length 0 k (by omega) hk
theorem awake_at (k : Nat) (hk : 4 ≤ k) : stowagelaw18_awake.f k = some true := at_rounds stowagelaw18_awake.mono hk awake_true
def tot (l : List PairP) : Nat := (l.map fun p => p.f0.size + p.f1.size).sum
theorem small_of_tot : ∀ (l : List PairP), tot l ≤ 5000 → small l
  | [], _ => fun p hp => by simp at hp
  | q :: l, h => by
    have e : tot (q :: l) = q.f0.size + q.f1.size + tot l := by simp [tot]
    intro p hp
    rcases List.mem_cons.1 hp with rfl | hp
    · exact ⟨by omega, by omega⟩
    · exact small_of_tot l (by omega) p hp
theorem rdR_cons {xs : List PairR} {i : Nat} {p : PairR} {l : List PairR} (h : xs.drop i = p :: l) : (i : Int) < xs.length ∧ rd_T57 xs (i : Int) = p ∧ xs.drop (i + 1) = l := by
  have hi : i < xs.length := by
    rcases Nat.lt_or_ge i xs.length with h1 | h1
    · exact h1
    · rw [List.drop_eq_nil_of_le h1] at h; cases h
  have hd := List.drop_eq_getElem_cons hi
  rw [h] at hd
  injection hd with h1 h2
  refine ⟨by omega, ?_, h2.symm⟩
  unfold rd_T57
  rw [Int.toNat_natCast, List.getD_eq_getElem?_getD, List.getElem?_eq_getElem hi, h1]
  rfl
theorem rdB_cons {xs : List ByteArray} {i : Nat} {p : ByteArray} {l : List ByteArray} (h : xs.drop i = p :: l) : (i : Int) < xs.length ∧ rdOf ByteArray.empty xs (i : Int) = p ∧ xs.drop (i + 1) = l := by
  have hi : i < xs.length := by
    rcases Nat.lt_or_ge i xs.length with h1 | h1
    · exact h1
    · rw [List.drop_eq_nil_of_le h1] at h; cases h
  have hd := List.drop_eq_getElem_cons hi
  rw [h] at hd
  injection hd with h1 h2
  refine ⟨by omega, ?_, h2.symm⟩
  unfold rdOf
  rw [Int.toNat_natCast, List.getD_eq_getElem?_getD, List.getElem?_eq_getElem hi, h1]
  rfl
/-! ### Get -/
theorem get_loop (x : List PairP) (nm : ByteArray) (hx : x.length ≤ 1000000000) : ∀ (l : List PairP) (i k : Nat), x.drop i = l → i + l.length ≤ 1000000000 → l.length + 1 ≤ k →
    ∃ r, percent_Get.l0 k nm x (x.length : Int) (i : Int) = some r ∧ stowageref18_Get.l0 k (x.map conv) nm (i : Int) = some r := by
  intro l
  induction l with
  | nil =>
    intro i k hl hi hk
    obtain ⟨k, rfl⟩ : ∃ m, k = m + 1 := ⟨k - 1, by omega⟩
    have h := rdP_nil hl
    rw [percent_Get.l0, stowageref18_Get.l0, if_neg h, if_neg (by rw [List.length_map]; exact h)]
    exact ⟨_, rfl, rfl⟩
  | cons p l ih =>
    intro i k hl hi hk
    obtain ⟨k, rfl⟩ : ∃ m, k = m + 1 := ⟨k - 1, by omega⟩
    simp only [List.length_cons] at hi hk
    obtain ⟨h1, h2, h3⟩ := rdP_cons hl
    have hl2 : (x.map conv).drop i = conv p :: l.map conv := by rw [← List.map_drop, hl]; rfl
    obtain ⟨g1, g2, g3⟩ := rdR_cons hl2
    have ea : percent_Get.l0 (k + 1) nm x (x.length : Int) (i : Int) = if p.f0.toList = nm.toList then some (p.f1, true) else percent_Get.l0 k nm x (x.length : Int) (wrap64 ((i : Int) + 1)) := by
      rw [percent_Get.l0, if_pos h1, if_pos (by omega), if_pos h1, h2]
    have eb : stowageref18_Get.l0 (k + 1) (x.map conv) nm (i : Int) = if p.f0.toList = nm.toList then some (p.f1, true) else stowageref18_Get.l0 k (x.map conv) nm (wrap64 ((i : Int) + 1)) := by
      rw [stowageref18_Get.l0, if_pos g1, if_pos (by omega), g2]
      rfl
    rw [ea, eb]
    by_cases he : p.f0.toList = nm.toList
    · rw [if_pos he, if_pos he]
      exact ⟨_, rfl, rfl⟩
    · rw [if_neg he, if_neg he, IntWalk.wrap64_in ((i : Int) + 1) (by omega), show ((i : Int) + 1) = ((i + 1 : Nat) : Int) by omega]
      exact ih (i + 1) k h3 (by omega) (by omega)
theorem get_eq (x : List PairP) (nm : ByteArray) (hx : x.length ≤ 1000000000) (k : Nat) (hk : x.length + 1 ≤ k) : ∃ r, percent_Get.f k x nm = some r ∧ stowageref18_Get.f k (x.map conv) nm = some r :=
  get_loop x nm hx x 0 k rfl (by omega) hk
/-! ### Query -/
def itemR (p : PairP) : List UInt8 := Q.itemL p.f0.data.toList p.f1.data.toList
def tailL (l : List PairP) : List UInt8 := Lib.joinTail [38] (l.map itemR)
theorem pairsL_cons (p : PairP) (l : List PairP) : pairsL (p :: l) = itemR p ++ tailL l := by
  show Lib.join (itemR p :: l.map itemR) [38] = _
  rw [Lib.join_cons]
  rfl
theorem tailL_cons (p : PairP) (l : List PairP) : tailL (p :: l) = 38 :: (itemR p ++ tailL l) := by
  simp [tailL, Lib.joinTail]
def refQ (acc l : List UInt8) (ok : Bool) : Option (ByteArray × Int) := if ok = true then some (⟨(acc ++ l).toArray⟩, 0) else some (⟨#[]⟩, 3)
theorem refQ_app (acc a l : List UInt8) (ok : Bool) : refQ (acc ++ a) l ok = refQ acc (a ++ l) ok := by
  unfold refQ
  rw [List.append_assoc]
theorem refQuery_loop (x : List PairP) (hx : x.length ≤ 16) : ∀ (l : List PairP) (i : Nat) (acc : List UInt8) (k : Nat), x.drop i = l → small l → i + l.length ≤ 16 → acc.length + l.length * 30003 ≤ 1000000 → 2 * l.length + 5010 ≤ k →
    stowageref18_Query.l0 k (x.map conv) ⟨acc.toArray⟩ (i : Int) = refQ acc (if i = 0 then pairsL l else tailL l) (qOk l) := by
  intro l
  induction l with
  | nil =>
    intro i acc k hl hs hi ha hk
    obtain ⟨k, rfl⟩ : ∃ m, k = m + 1 := ⟨k - 1, by omega⟩
    rw [stowageref18_Query.l0, if_neg (by rw [List.length_map]; exact rdP_nil hl)]
    have : (if i = 0 then pairsL [] else tailL []) = [] := by split <;> rfl
    rw [this]
    unfold refQ
    rw [if_pos (show qOk [] = true from rfl), List.append_nil]
  | cons p l ih =>
    intro i acc k hl hs hi ha hk
    obtain ⟨k, rfl⟩ : ∃ m, k = m + 2 := ⟨k - 2, by omega⟩
    simp only [List.length_cons] at hi hk ha
    obtain ⟨s0, s1⟩ := hs p (by simp)
    have hl2 : (x.map conv).drop i = conv p :: l.map conv := by rw [← List.map_drop, hl]; rfl
    obtain ⟨g1, g2, g3⟩ := rdR_cons hl2
    have h3 := (rdP_cons hl).2.2
    rw [stowageref18_Query.l0, if_pos g1, if_pos (by omega), g2, ByteArray.toList_eq, show (conv p).f0 = p.f0 from rfl]
    by_cases hn : p.f0.data.toList = []
    · rw [if_pos hn]
      unfold refQ
      rw [if_neg (by unfold qOk; rw [List.all_cons, show (p.f0.data.toList == []) = true by rw [hn]; rfl]; simp)]
    · have hb : (p.f0.data.toList == []) = false := by simpa using hn
      have hq : qOk (p :: l) = qOk l := by unfold qOk; rw [List.all_cons, hb]; rfl
      have hln := Q.itemL_length p.f0.data.toList p.f1.data.toList
      have e0 := len_eq p.f0
      have e1 := len_eq p.f1
      have step : ∀ (sep : List UInt8), sep.length ≤ 1 → stowageref18_Query.j1 (k + 1) (x.map conv) ⟨(acc ++ sep).toArray⟩ (i : Int) = refQ acc (sep ++ (itemR p ++ tailL l)) (qOk (p :: l)) := by
        intro sep hsep
        have z : (⟨(acc ++ sep).toArray⟩ : ByteArray).size = (acc ++ sep).length := List.size_toArray
        have z0 := size_esc 0 p.f0
        have z1 := size_esc 0 p.f1
        rw [List.length_append] at z
        have hsz1 : (⟨#[61]⟩ : ByteArray).size = 1 := rfl
        have hih := fun (a : List UInt8) (ha : a.length + l.length * 30003 ≤ 1000000) => ih (i + 1) a k h3 (fun q hq => hs q (by simp [hq])) (by omega) ha (by omega)
        have hlen : ((acc ++ sep) ++ itemR p).length + l.length * 30003 ≤ 1000000 := by
          unfold itemR
          rw [List.length_append, List.length_append]
          omega
        have hfin := hih _ hlen
        rw [if_neg (by omega)] at hfin
        rw [stowageref18_Query.j1, if_pos (by omega), if_pos g1, g2, show (conv p).f0 = p.f0 from rfl, show (conv p).f1 = p.f1 from rfl, refName_eq p.f0 s0 k (by omega)]
        simp only [Option.bind_some]
        rw [if_pos (by omega), ByteArray.toList_eq, IntWalk.wrap64_in ((i : Int) + 1) (by omega), show ((i : Int) + 1) = ((i + 1 : Nat) : Int) by omega]
        have hgoal : refQ acc (sep ++ (itemR p ++ tailL l)) (qOk (p :: l)) = refQ ((acc ++ sep) ++ itemR p) (tailL l) (qOk l) := by
          rw [hq, refQ_app, refQ_app]
        rw [hgoal]
        by_cases hv : p.f1.data.toList = []
        · have e : (⟨(acc ++ sep).toArray⟩ : ByteArray) ++ ⟨(Q.escL 0 p.f0.data.toList).toArray⟩ = ⟨((acc ++ sep) ++ itemR p).toArray⟩ := by
            unfold itemR Q.itemL
            rw [if_pos hv, List.append_nil, app_eq]
          rw [if_pos hv, e]
          exact hfin
        · have e : ((⟨(acc ++ sep).toArray⟩ : ByteArray) ++ ⟨(Q.escL 0 p.f0.data.toList).toArray⟩ ++ ⟨#[61]⟩) ++ ⟨(Q.escL 0 p.f1.data.toList).toArray⟩ = ⟨((acc ++ sep) ++ itemR p).toArray⟩ := by
            unfold itemR Q.itemL
            rw [if_neg hv]
            apply ByteArray.ext
            simp [ByteArray.data_append]
          rw [if_neg hv, if_pos (by rw [ByteArray.size_append]; omega), refName_eq p.f1 s1 k (by omega)]
          simp only [Option.bind_some]
          rw [if_pos (by simp only [ByteArray.size_append]; omega), e]
          exact hfin
      rw [if_neg hn]
      have zacc : (⟨acc.toArray⟩ : ByteArray).size = acc.length := List.size_toArray
      rcases Nat.eq_zero_or_pos i with rfl | hpos
      · rw [if_neg (by omega), if_pos rfl, pairsL_cons]
        have := step [] (by simp)
        rw [List.append_nil, List.nil_append] at this
        exact this
      · rw [if_pos (by omega), if_pos (by omega), if_neg (by omega), tailL_cons]
        have := step [38] (by simp)
        have e : (⟨acc.toArray⟩ : ByteArray) ++ ⟨#[38]⟩ = ⟨(acc ++ [38]).toArray⟩ := by
          apply ByteArray.ext
          simp [ByteArray.data_append]
        rw [e]
        exact this
theorem refQuery_eq (x : List PairP) (hx : x.length ≤ 16) (hs : small x) (k : Nat) (hk : 6000 ≤ k) : stowageref18_Query.f k (x.map conv) = percent_Query.f k x := by
  rw [query_eq x hx hs k (by omega)]
  unfold stowageref18_Query.f
  rw [if_neg (by rw [List.length_map]; omega)]
  have := refQuery_loop x hx x 0 [] k rfl hs (by omega) (by simp; omega) (by omega)
  rw [if_pos rfl] at this
  have e : (⟨#[]⟩ : ByteArray) = ⟨([] : List UInt8).toArray⟩ := rfl
  rw [e]
  rw [show ((0 : Nat) : Int) = 0 from rfl] at this
  rw [this]
  rfl
/-! ### Unquery -/
theorem parts_loop (x : ByteArray) (hx : x.size ≤ 5000) : ∀ (r pre : List UInt8) (fr i k : Nat) (acc : List ByteArray), x.data.toList.drop fr = pre ++ r → fr ≤ x.size → i = fr + pre.length → x.data.toList.drop i = r → (∀ c ∈ pre, c ≠ 38) → acc.length + r.length ≤ 6000 → r.length + 3 ≤ k →
    stowageref18_parts.l0 k x 38 acc (fr : Int) (i : Int) = some (acc ++ (Q.splitL 38 (pre ++ r)).map fun q => ⟨q.toArray⟩) := by
  intro r
  induction r with
  | nil =>
    intro pre fr i k acc hd hf hi hr hp ha hk
    obtain ⟨k, rfl⟩ : ∃ m, k = m + 2 := ⟨k - 2, by omega⟩
    have hie : (i : Int) = (x.size : Int) := by
      have h2 : (x.data.toList.drop fr).length = pre.length := by rw [hd]; simp
      rw [List.length_drop, len_eq] at h2
      omega
    have hext : x.extract fr i = ⟨pre.toArray⟩ := by
      apply ByteArray.ext
      apply Array.toList_inj.1
      rw [Lib.extract_data, hd, hi]
      simp
    rw [stowageref18_parts.l0, if_pos (by omega), if_pos hie, if_pos (by omega), if_pos (by omega), if_pos (by omega), IntWalk.wrap64_in ((i : Int) + 1) (by omega), Int.toNat_natCast, Int.toNat_natCast, hext,
      stowageref18_parts.l0, if_neg (by omega), List.append_nil, Q.splitL_self 38 pre hp]
    rfl
  | cons c r ih =>
    intro pre fr i k acc hd hf hi hr hp ha hk
    obtain ⟨k, rfl⟩ : ∃ m, k = m + 1 := ⟨k - 1, by omega⟩
    simp only [List.length_cons] at ha hk
    obtain ⟨h1, h2, h3⟩ := bt_cons hr
    have hext : x.extract fr i = ⟨pre.toArray⟩ := by
      apply ByteArray.ext
      apply Array.toList_inj.1
      rw [Lib.extract_data, hd, hi]
      simp
    rw [stowageref18_parts.l0, if_pos (by omega), if_neg (by omega), if_pos (by omega), if_pos h1, h2, IntWalk.wrap64_in ((i : Int) + 1) (by omega), show ((i : Int) + 1) = ((i + 1 : Nat) : Int) by omega]
    by_cases hc : (c.toNat : Int) = 38
    · have hc' : c = 38 := UInt8.toNat_inj.1 (by have : (38 : UInt8).toNat = 38 := rfl; omega)
      subst hc'
      rw [if_pos hc, if_pos (by omega), if_pos (by omega), if_pos (by omega), Int.toNat_natCast, Int.toNat_natCast, hext,
        ih [] (i + 1) (i + 1) k _ (by simpa using h3) (by omega) (by simp) h3 (by simp) (by simp; omega) (by omega), Q.splitL_app 38 pre r hp]
      simp
    · rw [if_neg hc, ih (pre ++ [c]) fr (i + 1) k acc (by rw [hd]; simp) hf (by simp; omega) h3 (fun y hy => by
        rcases List.mem_append.1 hy with hy | hy
        · exact hp y hy
        · obtain rfl : y = c := by simpa using hy
          rintro rfl
          exact hc rfl) (by omega) (by omega)]
      simp
theorem parts_eq (x : ByteArray) (hx : x.size ≤ 5000) (k : Nat) (hk : 5010 ≤ k) : stowageref18_parts.f k x 38 = some ((Q.splitL 38 x.data.toList).map fun q => ⟨q.toArray⟩) := by
  have hn := len_eq x
  unfold stowageref18_parts.f
  have := parts_loop x hx x.data.toList [] 0 0 k [] rfl (by omega) rfl rfl (by simp) (by simp; omega) (by omega)
  simpa using this
theorem split61 : ∀ q : List UInt8, (∃ a b, q = a ++ 61 :: b ∧ ∀ x ∈ a, x ≠ 61) ∨ ∀ x ∈ q, x ≠ 61
  | [] => .inr (by simp)
  | c :: q => by
    by_cases hc : c = 61
    · subst hc
      exact .inl ⟨[], q, rfl, by simp⟩
    · rcases split61 q with ⟨a, b, rfl, h⟩ | h
      · refine .inl ⟨c :: a, b, rfl, fun x hx => ?_⟩
        rcases List.mem_cons.1 hx with rfl | hx
        · exact hc
        · exact h x hx
      · refine .inr fun x hx => ?_
        rcases List.mem_cons.1 hx with rfl | hx
        · exact hc
        · exact h x hx
/-- A pair out of a piece cut at a place. -/
def pairAt (q : List UInt8) (pos : Nat) : Option PairP :=
  if pos = 0 then none else match Q.readL [35] true (q.take pos), Q.readL [35] true (q.drop (min (pos + 1) q.length)) with
    | some x, some y => some ⟨⟨x.toArray⟩, ⟨y.toArray⟩⟩
    | _, _ => none
theorem pairAt_some (a b : List UInt8) (h : ∀ x ∈ a, x ≠ 61) : pairAt (a ++ 61 :: b) a.length = percent_Unquery_pair (a ++ 61 :: b) := by
  unfold pairAt percent_Unquery_pair
  rw [Q.cutB_some _ _ _ (Q.indexByte_app 61 a b h)]
  have e1 : (a ++ 61 :: b).take a.length = a := by simp
  have e2 : (a ++ 61 :: b).drop (a.length + 1) = b := by simp
  have e3 : min (a.length + 1) (a ++ 61 :: b).length = a.length + 1 := by simp
  rw [e3, e1, e2]
  by_cases ha : a = []
  · subst ha; rfl
  · rw [if_neg (by simpa using ha), if_neg ha]
    cases Q.readL [35] true a <;> cases Q.readL [35] true b <;> rfl
theorem pairAt_none (a : List UInt8) (h : ∀ x ∈ a, x ≠ 61) : pairAt a a.length = percent_Unquery_pair a := by
  unfold pairAt percent_Unquery_pair
  rw [Q.cutB_none _ _ (by rw [Q.indexByte_none 61 a h]; omega)]
  have e3 : min (a.length + 1) a.length = a.length := by omega
  rw [e3, List.take_length, List.drop_length]
  by_cases ha : a = []
  · subst ha; rfl
  · rw [if_neg (by simpa using ha), if_neg ha]
    cases Q.readL [35] true a <;> rfl
theorem extract0 (q : List UInt8) (n : Nat) : (⟨q.toArray⟩ : ByteArray).extract 0 n = ⟨(q.take n).toArray⟩ := by
  apply ByteArray.ext
  apply Array.toList_inj.1
  rw [Lib.extract_data]
  simp
theorem extractE (q : List UInt8) (n m : Nat) (hm : m = q.length) : (⟨q.toArray⟩ : ByteArray).extract n m = ⟨(q.drop n).toArray⟩ := by
  apply ByteArray.ext
  apply Array.toList_inj.1
  rw [Lib.extract_data, hm]
  simp only
  exact List.take_of_length_le (by simp)
theorem refRead_list (q : List UInt8) (h : q.length ≤ 5000) (k : Nat) (hk : 10005 ≤ k) : stowageref18_Read.f k ⟨q.toArray⟩ 0 true = match Q.readL [35] true q with | some r => some (⟨r.toArray⟩, true) | none => some (⟨#[]⟩, false) := by
  have z : (⟨q.toArray⟩ : ByteArray).size = q.length := List.size_toArray
  rw [refRead_eq ⟨q.toArray⟩ 0 (.inr rfl) true (by omega) k (by omega), show barOf 0 = [35] from rfl, show (⟨q.toArray⟩ : ByteArray).data.toList = q by simp]
theorem j2_eq (x4 : List ByteArray) (acc : List PairR) (i : Nat) (q : List UInt8) (r : List ByteArray) (hq : x4.drop i = ⟨q.toArray⟩ :: r) (pos : Nat) (hpos : pos ≤ q.length) (hl : q.length ≤ 5000) (ha : acc.length ≤ 1000) (hi : i ≤ 1000) (k : Nat) (hk : 10005 ≤ k) :
    stowageref18_Unquery.j2 (k + 1) x4 acc (i : Int) (pos : Int) = match pairAt q pos with | some p => stowageref18_Unquery.l0 k x4 (acc ++ [conv p]) ((i + 1 : Nat) : Int) | none => some ([], 3) := by
  obtain ⟨g1, g2, g3⟩ := rdB_cons hq
  have z : (⟨q.toArray⟩ : ByteArray).size = q.length := List.size_toArray
  have hmn : mn (wrap64 ((pos : Int) + 1)) ((⟨q.toArray⟩ : ByteArray).size : Int) = ((min (pos + 1) q.length : Nat) : Int) := by
    rw [IntWalk.wrap64_in _ (by omega), z]
    unfold mn
    split <;> omega
  rw [stowageref18_Unquery.j2, if_pos (by omega), if_pos g1, if_pos (by omega), g2, if_pos (by omega), hmn, Int.toNat_natCast, Int.toNat_natCast, extract0, extractE q _ _ z, refRead_list _ (by rw [List.length_take]; omega) k hk]
  unfold pairAt
  have hmin : min (pos + 1) q.length ≤ q.length := Nat.min_le_right _ _
  have hd := refRead_list (q.drop (min (pos + 1) q.length)) (by rw [List.length_drop]; omega) k hk
  by_cases hp : pos = 0
  · subst hp
    rw [if_pos rfl]
    cases Q.readL [35] true (q.take 0) <;> simp only [Option.bind_some] <;> rw [if_pos (by omega), if_pos (by omega), hd] <;> cases Q.readL [35] true (q.drop (min (0 + 1) q.length)) <;> rfl
  · rw [if_neg hp]
    have hp' : ¬ (pos : Int) = 0 := by omega
    cases Q.readL [35] true (q.take pos) with
    | none =>
      simp only [Option.bind_some]
      rw [if_pos (by omega), if_pos (by omega), hd]
      cases Q.readL [35] true (q.drop (min (pos + 1) q.length)) with
      | none => simp only [Option.bind_some]; rw [if_neg hp']; rfl
      | some y => simp only [Option.bind_some]; rw [if_neg hp']; rfl
    | some x =>
      simp only [Option.bind_some]
      rw [if_pos (by omega), if_pos (by omega), hd]
      cases Q.readL [35] true (q.drop (min (pos + 1) q.length)) with
      | none => simp only [Option.bind_some]; rw [if_neg hp', if_pos trivial]; rfl
      | some y =>
        simp only [Option.bind_some]
        rw [if_neg hp', if_pos trivial, if_pos trivial, if_pos (by omega), IntWalk.wrap64_in ((i : Int) + 1) (by omega), show ((i : Int) + 1) = ((i + 1 : Nat) : Int) by omega]
        rfl
theorem l1_loop (x4 : List ByteArray) (acc : List PairR) (i : Nat) (q : List UInt8) (r : List ByteArray) (hq : x4.drop i = ⟨q.toArray⟩ :: r) (hl : q.length ≤ 5000) (R : Option (List PairR × Int)) (K : Nat) (rest : List UInt8) (hrest : rest = [] ∨ ∃ b, rest = 61 :: b) :
    ∀ (a : List UInt8) (x7 k : Nat), q.drop x7 = a ++ rest → x7 ≤ q.length → (∀ x ∈ a, x ≠ 61) → (∀ k', K ≤ k' → stowageref18_Unquery.j2 k' x4 acc (i : Int) ((x7 + a.length : Nat) : Int) = R) → K + a.length + 1 ≤ k →
    stowageref18_Unquery.l1 k x4 acc (i : Int) (x7 : Int) = R := by
  obtain ⟨g1, g2, g3⟩ := rdB_cons hq
  have z : (⟨q.toArray⟩ : ByteArray).size = q.length := List.size_toArray
  have zd : (⟨q.toArray⟩ : ByteArray).data.toList = q := by simp
  intro a
  induction a with
  | nil =>
    intro x7 k hd hx ha hR hk
    obtain ⟨k, rfl⟩ : ∃ m, k = m + 1 := ⟨k - 1, by omega⟩
    have hR' := hR k (by simp at hk; omega)
    rw [List.length_nil, Nat.add_zero] at hR'
    rw [List.nil_append] at hd
    rw [stowageref18_Unquery.l1, if_pos (by omega), if_pos g1, g2]
    rcases hrest with rfl | ⟨b, rfl⟩
    · rw [if_neg (drop_nil (s := ⟨q.toArray⟩) (by rw [zd]; exact hd))]
      exact hR'
    · obtain ⟨h1, h2, h3⟩ := bt_cons (s := ⟨q.toArray⟩) (i := x7) (c := 61) (l := b) (by rw [zd]; exact hd)
      rw [if_pos h1, if_pos (by omega), h2, if_pos (show (((61 : UInt8).toNat : Nat) : Int) = 61 from rfl)]
      exact hR'
  | cons c a ih =>
    intro x7 k hd hx ha hR hk
    obtain ⟨k, rfl⟩ : ∃ m, k = m + 1 := ⟨k - 1, by omega⟩
    simp only [List.length_cons] at hR hk
    obtain ⟨h1, h2, h3⟩ := bt_cons (s := ⟨q.toArray⟩) (i := x7) (c := c) (l := a ++ rest) (by rw [zd]; exact hd)
    rw [zd] at h3
    have hc : ¬ (c.toNat : Int) = 61 := fun e => ha c (by simp) (UInt8.toNat_inj.1 (by have : (61 : UInt8).toNat = 61 := rfl; omega))
    rw [stowageref18_Unquery.l1, if_pos (by omega), if_pos g1, g2, if_pos h1, if_pos (by omega), h2, if_neg hc, IntWalk.wrap64_in ((x7 : Int) + 1) (by omega), show ((x7 : Int) + 1) = ((x7 + 1 : Nat) : Int) by omega]
    exact ih (x7 + 1) k h3 (by omega) (fun y hy => ha y (by simp [hy])) (fun k' hk' => by
      have := hR k' hk'
      rw [show x7 + 1 + a.length = x7 + (a.length + 1) by omega]
      exact this) (by omega)
theorem unq_loop (x4 : List ByteArray) : ∀ (ps : List (List UInt8)) (i : Nat) (acc : List PairR) (k : Nat), x4.drop i = ps.map (fun q => (⟨q.toArray⟩ : ByteArray)) → (∀ q ∈ ps, q.length ≤ 5000) → acc.length + ps.length ≤ 100 → i + ps.length ≤ 100 → 5010 * ps.length + 10100 ≤ k →
    stowageref18_Unquery.l0 k x4 acc (i : Int) = match percent_Unquery_all ps with | some ys => some (acc ++ ys.map conv, 0) | none => some ([], 3) := by
  intro ps
  induction ps with
  | nil =>
    intro i acc k hd hl ha hi hk
    obtain ⟨k, rfl⟩ : ∃ m, k = m + 1 := ⟨k - 1, by omega⟩
    rw [stowageref18_Unquery.l0, if_neg (rdP_nil (by simpa using hd))]
    simp [percent_Unquery_all]
  | cons q ps ih =>
    intro i acc k hd hl ha hi hk
    obtain ⟨k, rfl⟩ : ∃ m, k = m + 1 := ⟨k - 1, by omega⟩
    simp only [List.length_cons] at ha hi hk
    have hq : x4.drop i = ⟨q.toArray⟩ :: ps.map (fun q => (⟨q.toArray⟩ : ByteArray)) := hd
    obtain ⟨g1, g2, g3⟩ := rdB_cons hq
    have hql := hl q (by simp)
    have fin : ∀ pos, pos ≤ q.length → pairAt q pos = percent_Unquery_pair q → ∀ k', 5010 * ps.length + 10101 ≤ k' → stowageref18_Unquery.j2 k' x4 acc (i : Int) (pos : Int) = match percent_Unquery_all (q :: ps) with | some ys => some (acc ++ ys.map conv, 0) | none => some ([], 3) := by
      intro pos hpos hpair k' hk'
      obtain ⟨k', rfl⟩ : ∃ m, k' = m + 1 := ⟨k' - 1, by omega⟩
      rw [j2_eq x4 acc i q _ hq pos hpos hql (by omega) (by omega) k' (by omega), hpair, percent_Unquery_all]
      cases percent_Unquery_pair q with
      | none => rfl
      | some p =>
        simp only
        rw [ih (i + 1) (acc ++ [conv p]) k' g3 (fun x hx => hl x (by simp [hx])) (by simp; omega) (by omega) (by omega)]
        cases percent_Unquery_all ps with
        | none => rfl
        | some ys => simp
    rw [stowageref18_Unquery.l0, if_pos g1]
    rcases split61 q with ⟨a, b, hab, hna⟩ | hna
    · have hlen : q.length = a.length + (b.length + 1) := by rw [hab]; simp
      exact l1_loop x4 acc i q _ hq hql _ (5010 * ps.length + 10101) (61 :: b) (.inr ⟨b, rfl⟩) a 0 k (by simpa using hab) (by omega) hna (fun k' hk' => by
        rw [Nat.zero_add]
        exact fin a.length (by omega) (by rw [hab]; exact pairAt_some a b hna) k' hk') (by omega)
    · exact l1_loop x4 acc i q _ hq hql _ (5010 * ps.length + 10101) [] (.inl rfl) q 0 k (by simp) (by omega) hna (fun k' hk' => by
        rw [Nat.zero_add]
        exact fin q.length (by omega) (pairAt_none q hna) k' hk') (by omega)
theorem refUnquery_eq (t : ByteArray) (ht : t.size ≤ 5000) (k : Nat) (hk : 200000 ≤ k) : ∃ m e, percent_Unquery.f t = some (m, e) ∧ m.length ≤ 16 ∧ stowageref18_Unquery.f k t = some (m.map conv, e) := by
  unfold percent_Unquery.f stowageref18_Unquery.f
  rw [if_pos (by omega), ByteArray.toList_eq]
  have hn := len_eq t
  by_cases h0 : t.data.toList = []
  · rw [if_pos h0, if_pos h0]
    exact ⟨[], 0, rfl, by simp, rfl⟩
  · rw [if_neg h0, if_neg h0, parts_eq t ht k (by omega)]
    simp only [Option.bind_some]
    have hsl := Q.splitL_length 38 t.data.toList
    rw [List.length_map, hsl]
    by_cases h1 : 16 ≤ t.data.toList.count 38
    · rw [if_pos h1, if_pos (by omega)]
      exact ⟨[], 131, rfl, by simp, rfl⟩
    · rw [if_neg h1, if_neg (by omega)]
      have := unq_loop ((Q.splitL 38 t.data.toList).map fun q => (⟨q.toArray⟩ : ByteArray)) (Q.splitL 38 t.data.toList) 0 [] k rfl (fun q hq => by have := splitL_le 38 _ q hq; omega) (by simp; omega) (by omega) (by omega)
      rw [show ((0 : Nat) : Int) = 0 from rfl] at this
      rw [this]
      cases ha : percent_Unquery_all (Q.splitL 38 t.data.toList) with
      | none => exact ⟨[], 3, rfl, by simp, rfl⟩
      | some m =>
        have hml := percent_Unquery_all_length _ _ ha
        exact ⟨m, 0, rfl, by omega, rfl⟩
theorem queries_end (x : List PairP) (t nm : ByteArray) (n : Nat) (i : Nat) (hi : ¬ (i : Int) < x.length) (hn : n = t.size + tot x) (k : Nat) (hk : 200000 + x.length ≤ k) (hx : x.length ≤ 1000000000) :
    stowagelaw18_PercentQueries.l0 (k + 1) x t nm (n : Int) (i : Int) = some true := by
  rw [stowagelaw18_PercentQueries.l0, if_neg hi]
  by_cases hb : (n : Int) > 5000
  · rw [if_pos hb, awake_at k (by omega)]
    rfl
  · have hsm := small_of_tot x (by omega)
    rw [if_neg hb]
    obtain ⟨qr, hq1, hq2⟩ : ∃ r, percent_Query.f k x = some r ∧ stowageref18_Query.f k (x.map conv) = some r := by
      rcases Nat.lt_or_ge 16 x.length with hm | hm
      · refine ⟨_, query_many x hm k, ?_⟩
        unfold stowageref18_Query.f
        rw [if_pos (by rw [List.length_map]; omega)]
      · rw [refQuery_eq x hm hsm k (by omega), query_eq x hm hsm k (by omega)]
        by_cases hq : qOk x = true
        · rw [if_pos hq]; exact ⟨_, rfl, rfl⟩
        · rw [if_neg hq]; exact ⟨_, rfl, rfl⟩
    obtain ⟨m, e, hu1, hml, hu2⟩ := refUnquery_eq t (by omega) k (by omega)
    obtain ⟨g, hg1, hg2⟩ := get_eq x nm hx k (by omega)
    rw [hq1, refs_eq x hx k (by omega)]
    simp only [Option.bind_some]
    rw [hq2, hu1]
    simp only [Option.bind_some]
    rw [hu2, hg1]
    simp only [Option.bind_some]
    rw [hg2, awake_at k (by omega)]
    simp only [Option.bind_some, if_true]
    rw [refs_eq m (by omega) k (by omega)]
    simp only [Option.bind_some]
    rw [same_eq _ (by rw [List.length_map]; omega) k (by rw [List.length_map]; omega)]
    simp
theorem queries_loop (x : List PairP) (t nm : ByteArray) (hx : x.length ≤ 1000000000) : ∀ (l : List PairP) (i n k : Nat), x.drop i = l → n + tot l = t.size + tot x → n + tot l ≤ 1000000000 → i + l.length ≤ 1000000000 → l.length + x.length + 200001 ≤ k →
    stowagelaw18_PercentQueries.l0 k x t nm (n : Int) (i : Int) = some true := by
  intro l
  induction l with
  | nil =>
    intro i n k hl hn hb hi hk
    obtain ⟨k, rfl⟩ : ∃ m, k = m + 1 := ⟨k - 1, by omega⟩
    exact queries_end x t nm n i (rdP_nil hl) (by simpa [tot] using hn) k (by simp at hk; omega) hx
  | cons p l ih =>
    intro i n k hl hn hb hi hk
    obtain ⟨k, rfl⟩ : ∃ m, k = m + 1 := ⟨k - 1, by omega⟩
    simp only [List.length_cons] at hk hi
    have e : tot (p :: l) = p.f0.size + p.f1.size + tot l := by simp [tot]
    obtain ⟨h1, h2, h3⟩ := rdP_cons hl
    rw [stowagelaw18_PercentQueries.l0, if_pos h1, if_pos (by omega), h2, IntWalk.wrap64_in ((i : Int) + 1) (by omega), IntWalk.wrap64_in ((n : Int) + (p.f0.size : Int)) (by omega), IntWalk.wrap64_in _ (by omega),
      show ((i : Int) + 1) = ((i + 1 : Nat) : Int) by omega, show ((n : Int) + (p.f0.size : Int) + (p.f1.size : Int)) = ((n + (p.f0.size + p.f1.size) : Nat) : Int) by omega]
    exact ih (i + 1) _ k h3 (by omega) (by omega) (by omega) (by omega)
theorem PercentQueries_true (l : List PairP) (t nm : ByteArray) (hl : l.length ≤ 500000000) (h : t.size + tot l ≤ 500000000) : ∃ k, stowagelaw18_PercentQueries.f k l t nm = some true := by
  refine ⟨l.length + l.length + 200001, ?_⟩
  unfold stowagelaw18_PercentQueries.f
  exact queries_loop l t nm (by omega) l 0 t.size _ rfl rfl (by omega) (by omega) (by omega)
end Go.Proofs.YtfagmfmpiicggaaDoor.Pure
