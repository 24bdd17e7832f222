/- Plain words of the percent layer: what its functions compute, over lists of bytes. No program in sight. -/
namespace Go.Proofs.YtfagmfmpiicggaaDoor.Q

/-- Where a byte stands first; -1: nowhere. -/
def idxB (l : List UInt8) (c : Int) : Int := match l.findIdx? (fun x => (x.toNat : Int) == c) with
  | some i => (i : Int)
  | none => -1

/-- A great digit of base sixteen. -/
def hexU (n : UInt8) : UInt8 := if n < 10 then 48 + n else 55 + n
/-- Does a byte stand for itself? -/
def plainU (c : UInt8) : Bool := (97 ≤ c && c ≤ 122) || (65 ≤ c && c ≤ 90) || (48 ≤ c && c ≤ 57) || c == 45 || c == 46 || c == 95 || c == 126
/-- A byte's text. -/
def escB (more : Int) (c : UInt8) : List UInt8 := if plainU c || (more != 0 && (c.toNat : Int) == more) then [c] else [37, hexU (c >>> 4), hexU (c &&& 15)]
/-- A text's text. -/
def escL (more : Int) (l : List UInt8) : List UInt8 := l.flatMap (escB more)

theorem escB_length (more : Int) (c : UInt8) : 1 ≤ (escB more c).length ∧ (escB more c).length ≤ 3 := by
  unfold escB
  split <;> simp
theorem escL_nil (more : Int) : escL more [] = [] := rfl
theorem escL_cons (more : Int) (c : UInt8) (l : List UInt8) : escL more (c :: l) = escB more c ++ escL more l := by simp [escL]
theorem escL_append (more : Int) (l m : List UInt8) : escL more (l ++ m) = escL more l ++ escL more m := by simp [escL]
theorem escL_length (more : Int) (l : List UInt8) : l.length ≤ (escL more l).length ∧ (escL more l).length ≤ 3 * l.length := by
  induction l with
  | nil => simp [escL]
  | cons c l ih =>
    rw [escL_cons]
    have := escB_length more c
    simp only [List.length_append, List.length_cons]
    omega

/-- A digit's number; 16: it is none. -/
def sixU (c : UInt8) : UInt8 := if 48 ≤ c && c ≤ 57 then c - 48 else if 97 ≤ c && c ≤ 102 then c - 87 else if 65 ≤ c && c ≤ 70 then c - 55 else 16
/-- Reading a text: 'bar': the bytes that may not stand raw. -/
def readL (bar : List UInt8) (plus : Bool) : List UInt8 → Option (List UInt8)
  | [] => some []
  | c :: l =>
    if c == 37 then
      match l with
      | a :: b :: l' => if sixU a < 16 && sixU b < 16 then (readL bar plus l').map ((sixU a <<< 4 ||| sixU b) :: ·) else none
      | _ => none
    else if c < 33 || 126 < c || bar.contains c then none
    else (readL bar plus l).map ((if plus && c == 43 then 32 else c) :: ·)

theorem readL_pct3 (bar : List UInt8) (plus : Bool) (c a b : UInt8) (l : List UInt8) (hc : (c == 37) = true) : readL bar plus (c :: a :: b :: l) = if sixU a < 16 && sixU b < 16 then (readL bar plus l).map ((sixU a <<< 4 ||| sixU b) :: ·) else none := by
  rw [readL.eq_def]
  simp only [hc, if_true]
theorem readL_pct2 (bar : List UInt8) (plus : Bool) (c a : UInt8) (hc : (c == 37) = true) : readL bar plus [c, a] = none := by
  rw [readL.eq_def]
  simp only [hc, if_true]
theorem readL_pct1 (bar : List UInt8) (plus : Bool) (c : UInt8) (hc : (c == 37) = true) : readL bar plus [c] = none := by
  rw [readL.eq_def]
  simp only [hc, if_true]
theorem readL_bad (bar : List UInt8) (plus : Bool) (c : UInt8) (l : List UInt8) (hc : (c == 37) = false) (hb : (c < 33 || 126 < c || bar.contains c) = true) : readL bar plus (c :: l) = none := by
  rw [readL.eq_def]
  simp only [hc, hb, if_true, Bool.false_eq_true, if_false]
theorem readL_raw (bar : List UInt8) (plus : Bool) (c : UInt8) (l : List UInt8) (hc : (c == 37) = false) (hb : (c < 33 || 126 < c || bar.contains c) = false) : readL bar plus (c :: l) = (readL bar plus l).map ((if plus && c == 43 then 32 else c) :: ·) := by
  conv => lhs; rw [readL.eq_def]
  simp only [hc, hb, Bool.false_eq_true, if_false]

theorem readL_length (bar : List UInt8) (plus : Bool) (n : Nat) : ∀ l : List UInt8, l.length ≤ n → ∀ r, readL bar plus l = some r → r.length ≤ l.length := by
  induction n with
  | zero =>
    intro l hl r h
    obtain rfl : l = [] := List.length_eq_zero_iff.1 (by omega)
    simp [readL] at h
    subst h
    simp
  | succ n ih =>
    intro l hl r h
    match l with
    | [] => simp [readL] at h; subst h; simp
    | c :: l =>
      unfold readL at h
      split at h
      · match l with
        | [] => simp at h
        | [_] => simp at h
        | a :: b :: l' =>
          simp only at h
          split at h
          · obtain ⟨q, hq, rfl⟩ := Option.map_eq_some_iff.1 h
            have := ih l' (by simp at hl; omega) q hq
            simp
            omega
          · simp at h
      · split at h
        · simp at h
        · obtain ⟨q, hq, rfl⟩ := Option.map_eq_some_iff.1 h
          have := ih l (by simp at hl; omega) q hq
          simp
          omega
end Go.Proofs.YtfagmfmpiicggaaDoor.Q
