/- Merged of several texts of this session's by merge.py. -/
import Derived.Test.YtdidopoalmkhlaaDoorMr7
import Derived.Test.YtdidopoalmkhlaaDoorCards
import Derived.Test.YtdidopoalmkhlaaDoorTie
import Derived.WalkKit
import Derived.ProofKit
import Derived.OpenShut
import Derived.Below
import Derived.Carry
import Derived.Deep.DeepHandedRow
import Derived.Deep.DeepLaidRun
import Derived.Test.YtdidopoalmkhlaaDoorMr3
import Derived.Test.YtdidopoalmkhlaaDoorMr2
import Derived.HandedShaped
section
namespace Go.Proofs.YtdidopoalmkhlaaDoor.Pure
open Go.RowKit Go.Proofs.YtdidopoalmkhlaaDoor.Or Go.Proofs.YtdidopoalmkhlaaDoorW.PrintWords Go.Proofs.YtdidopoalmkhlaaDoorW.PrintLast Go.Proofs.YtdidopoalmkhlaaDoorW.PrintMore
set_option linter.unusedVariables false
set_option linter.unusedSimpArgs false
theorem nb_not (f bit : Int) : (Go.bits .and .i64 f bit == 0) = !(nb f bit) := by
 unfold nb bne; rw [Bool.not_not]
theorem Decode_eq (k : Nat) (hk : 40 ≤ k) (s : ByteArray) (hs : s.size ≤ 1073741824) : cmd_Decode.f k s =
  ((cmd_Decode_txt k (!nb (fb (xn s 0 0 10).1) 1) s (xn s 0 0 10).2.1 (xn s 0 0 10).2.2 64).bind fun b2 => (cmd_Decode_txt k (!nb (fb (xn s 0 0 10).1) 2) b2.2.1 b2.2.2.1 b2.2.2.2 63).bind fun b3 => (cmd_Decode_txt k (!nb (fb (xn s 0 0 10).1) 4) b3.2.1 b3.2.2.1 b3.2.2.2 1024).bind fun b4 => (cmd_Decode_num k (!nb (fb (xn s 0 0 10).1) 8) b4.2.1 b4.2.2.1 b4.2.2.2 1099511627776).bind fun b5 => (cmd_Decode_num k (!nb (fb (xn s 0 0 10).1) 16) b5.2.1 b5.2.2.1 b5.2.2.2 100).bind fun b6 => (cmd_Decode_txt k (!nb (fb (xn s 0 0 10).1) 32) b6.2.1 b6.2.2.1 b6.2.2.2 64).bind fun b7 => (cmd_Decode_num k (!nb (fb (xn s 0 0 10).1) 64) b7.2.1 b7.2.2.1 b7.2.2.2 512).bind fun b8 => (if b8.1 ≤ 512 then cmd_Decode_l0 k b8.1.toNat b8.2.1 b8.2.2.1 b8.2.2.2 [] else none).bind fun b9 => (cmd_Decode_num k (!nb (fb (xn s 0 0 10).1) 128) b9.1 b9.2.1 b9.2.2.1 100).bind fun b10 => (if b10.1 ≤ 100 then cmd_Decode_l1 k b10.1.toNat b10.2.1 b10.2.2.1 b10.2.2.2 [] else none).bind fun b11 => (octet_Reader_End.f b11.1 b11.2.1 b11.2.2.1).bind fun b12 => if b12.1 = 0 then ((cmd_Check.f k (xn s 0 0 10).1 b2.1 b3.1 b4.1 b5.1 b6.1 b7.1 b9.2.2.2 b11.2.2.2).bind fun c => if c = 0 then some ((xn s 0 0 10).1, b2.1, b3.1, b4.1, b5.1, b6.1, b7.1, b9.2.2.2, b11.2.2.2, 0) else some cmd_Decode_none) else some cmd_Decode_none) := by
 unfold cmd_Decode.f octet_NewReader.f
 rw [Option.bind_some, show octet_Reader_Int.f k s 0 0 10 = _ from oct_RInt s 0 hs (Nat.zero_le _) 0 10 (by omega) (by omega) k (by omega), Option.bind_some]
 show ((cmd_fields.f k (xn s 0 0 10).1).bind _) = _
 rw [fields_eq _ k (by omega), Option.bind_some]
 simp only [nb_not]
abbrev RPiece := S95
abbrev RPick := S61
theorem Same_l1 (a0 : Int) (a1 a2 a3 : ByteArray) (a4 a5 : Int) (a6 : ByteArray) (ps : List RPiece) (l : List RPick) (hl : l.length ≤ 1048576) : ∀ (n i k : Nat), i + n = l.length → n < k → stowageref16_Same.l1 k (i : Int) a0 a1 a2 a3 a4 a5 a6 ps l a0 a1 a2 a3 a4 a5 a6 ps l = some true := by
 intro n
 induction n with
 | zero =>
  intro i k hn hk
  obtain ⟨k, rfl⟩ : ∃ j, k = j + 1 := ⟨k - 1, by omega⟩
  rw [stowageref16_Same.l1, if_neg (by omega)]
 | succ n ih =>
  intro i k hn hk
  obtain ⟨k, rfl⟩ : ∃ j, k = j + 1 := ⟨k - 1, by omega⟩
  rw [stowageref16_Same.l1, if_pos (by omega), if_pos (by omega), if_pos (by omega), if_neg (by simp), w1 i (by omega)]
  exact ih (i + 1) k (by omega) (by omega)
theorem Same_l0 (a0 : Int) (a1 a2 a3 : ByteArray) (a4 a5 : Int) (a6 : ByteArray) (ps : List RPiece) (l : List RPick) (hp : ps.length ≤ 1048576) (hl : l.length ≤ 1048576) : ∀ (n i k : Nat), i + n = ps.length → n + 1048578 < k → stowageref16_Same.l0 k (i : Int) a0 a1 a2 a3 a4 a5 a6 ps l a0 a1 a2 a3 a4 a5 a6 ps l = some true := by
 intro n
 induction n with
 | zero =>
  intro i k hn hk
  obtain ⟨k, rfl⟩ : ∃ j, k = j + 1 := ⟨k - 1, by omega⟩
  rw [stowageref16_Same.l0, if_neg (by omega)]
  exact Same_l1 a0 a1 a2 a3 a4 a5 a6 ps l hl l.length 0 k (by omega) (by omega)
 | succ n ih =>
  intro i k hn hk
  obtain ⟨k, rfl⟩ : ∃ j, k = j + 1 := ⟨k - 1, by omega⟩
  rw [stowageref16_Same.l0, if_pos (by omega), if_pos (by omega), if_pos (by omega), if_neg (by simp), w1 i (by omega)]
  exact ih (i + 1) k (by omega) (by omega)
theorem Same_self (a0 : Int) (a1 a2 a3 : ByteArray) (a4 a5 : Int) (a6 : ByteArray) (ps : List RPiece) (l : List RPick) (hp : ps.length ≤ 1048576) (hl : l.length ≤ 1048576) (k : Nat) (hk : 2097160 ≤ k) : stowageref16_Same.f k a0 a1 a2 a3 a4 a5 a6 ps l a0 a1 a2 a3 a4 a5 a6 ps l = some true := by
 unfold stowageref16_Same.f
 rw [if_pos rfl, if_pos rfl, if_pos rfl, if_pos rfl, if_pos rfl, if_pos rfl, if_pos rfl, if_pos rfl]
 obtain ⟨k, rfl⟩ : ∃ j, k = j + 1 := ⟨k - 1, by omega⟩
 rw [stowageref16_Same.j0, if_neg (by simp)]
 exact Same_l0 a0 a1 a2 a3 a4 a5 a6 ps l hp hl ps.length 0 k (by omega) (by omega)
def refC (c : Piece) : RPiece := ⟨c.f0, c.f1⟩
def refK (p : Pick) : RPick := ⟨p.f0, p.f1⟩
theorem un_j4_bad (k : Nat) (a : ByteArray) (x4 : List Int) (x5 x6 x7 : Int) (h : x7 < 0) : stowageref03_Unhex.j4 (k + 1) a x4 x5 x6 x7 = some ((⟨#[]⟩ : ByteArray), 3) := by rw [stowageref03_Unhex.j4, if_pos h]
theorem un_go (a : ByteArray) (hs : a.size ≤ 1048576) : ∀ n i k (acc : List Int) (h : Int), i + n = a.size → 5 * n + 5 < k → acc.length ≤ i → ∃ b, stowageref03_Unhex.l0 k a acc h (i : Int) = some (b, if (a.data.toList.drop i).all Sha.hb = true then 0 else 3) := by
 intro n
 induction n with
 | zero =>
  intro i k acc h hi hk ha
  obtain ⟨k, rfl⟩ : ∃ j, k = j + 1 := ⟨k - 1, by omega⟩
  refine ⟨strOfNums acc, ?_⟩
  rw [stowageref03_Unhex.l0, if_neg (by omega), List.drop_of_length_le (by rw [len_eq]; omega)]
  rfl
 | succ n ih =>
  intro i k acc h hi hk ha
  obtain ⟨k, rfl⟩ : ∃ j, k = j + 1 + 1 + 1 + 1 + 1 := ⟨k - 5, by omega⟩
  obtain ⟨c, hd, hb⟩ := bt_get a i (by omega)
  have hcn : c.toNat < 256 := c.toNat_lt
  have good : ∀ d : Int, 0 ≤ d → Sha.hb c = true → ∃ b, stowageref03_Unhex.j4 (k + 1) a acc h (i : Int) d = some (b, if (c :: a.data.toList.drop (i + 1)).all Sha.hb = true then 0 else 3) := by
   intro d h0 hc
   rw [stowageref03_Unhex.j4, if_neg (by omega), w1 i (by omega)]
   have e : ((c :: a.data.toList.drop (i + 1)).all Sha.hb) = (a.data.toList.drop (i + 1)).all Sha.hb := by rw [List.all_cons, hc, Bool.true_and]
   rw [e]
   split
   ·
    rw [if_pos (by omega)]
    exact ih (i + 1) k _ _ (by omega) (by omega) (by rw [List.length_append, List.length_singleton]; omega)
   ·
    exact ih (i + 1) k _ _ (by omega) (by omega) (by omega)
  have bad : Sha.hb c = false → ((c :: a.data.toList.drop (i + 1)).all Sha.hb) = false := fun hc => by rw [List.all_cons, hc, Bool.false_and]
  rw [hd]
  have j2 : ∀ d : Int, (¬ (97 ≤ c.toNat ∧ c.toNat ≤ 102)) → stowageref03_Unhex.j2 (k + 1 + 1 + 1) a acc h (i : Int) d = stowageref03_Unhex.j4 (k + 1) a acc h (i : Int) d := by
   intro d hn
   rw [stowageref03_Unhex.j2, if_pos (by omega), if_pos (by omega), hb]
   have e : ∀ q : Bool, q = false → stowageref03_Unhex.j3 (k + 1 + 1) a acc h (i : Int) d q = stowageref03_Unhex.j4 (k + 1) a acc h (i : Int) d := fun q hq => by rw [hq, stowageref03_Unhex.j3, if_neg (by decide)]
   by_cases h1 : (c.toNat : Int) ≥ 97
   ·
    rw [if_pos h1]; exact e _ (decide_eq_false (by omega))
   ·
    rw [if_neg h1]; exact e _ rfl
  rw [stowageref03_Unhex.l0, if_pos (by omega), if_pos (by omega), hb]
  by_cases h1 : 48 ≤ c.toNat ∧ c.toNat ≤ 57
  ·
   rw [if_pos (by omega), decide_eq_true (by omega : (c.toNat : Int) ≤ 57), stowageref03_Unhex.j1, if_pos rfl, if_pos (by omega), if_pos (by omega), hb, IntWalk.wrap64_in (c.toNat : Int) (by omega), IntWalk.wrap64_in _ (by omega), j2 _ (by omega)]
   exact good _ (by omega) (by simp [Sha.hb]; omega)
  ·
   have e1 : ∀ q : Bool, q = false → stowageref03_Unhex.j1 (k + 1 + 1 + 1 + 1) a acc h (i : Int) (-1) q = stowageref03_Unhex.j2 (k + 1 + 1 + 1) a acc h (i : Int) (-1) := fun q hq => by rw [hq, stowageref03_Unhex.j1, if_neg (by decide)]
   have e2 : (if (c.toNat : Int) ≥ 48 then stowageref03_Unhex.j1 (k + 1 + 1 + 1 + 1) a acc h (i : Int) (-1) (decide ((c.toNat : Int) ≤ 57)) else stowageref03_Unhex.j1 (k + 1 + 1 + 1 + 1) a acc h (i : Int) (-1) false) = stowageref03_Unhex.j2 (k + 1 + 1 + 1) a acc h (i : Int) (-1) := by
    by_cases h2 : (c.toNat : Int) ≥ 48
    ·
     rw [if_pos h2]; exact e1 _ (decide_eq_false (by omega))
    ·
     rw [if_neg h2]; exact e1 _ rfl
   rw [e2]
   by_cases h3 : 97 ≤ c.toNat ∧ c.toNat ≤ 102
   ·
    rw [stowageref03_Unhex.j2, if_pos (by omega), if_pos (by omega), hb, if_pos (by omega), decide_eq_true (by omega : (c.toNat : Int) ≤ 102), stowageref03_Unhex.j3, if_pos rfl, if_pos (by omega), if_pos (by omega), hb, IntWalk.wrap64_in (c.toNat : Int) (by omega), IntWalk.wrap64_in _ (by omega)]
    exact good _ (by omega) (by simp [Sha.hb]; omega)
   ·
    rw [j2 _ h3, un_j4_bad k a acc h _ _ (by omega), bad (by simp [Sha.hb]; omega)]
    exact ⟨_, rfl⟩
theorem may06_eq (a : ByteArray) (hs : a.size ≤ 1048576) (k : Nat) (hk : 5300000 ≤ k) : stowageref06_May.f k a = some (D a) := by
 unfold stowageref06_May.f stowageref03_Unhex.f
 by_cases h2 : ((a.size : Int) % 2) = 0
 ·
  rw [if_pos h2]
  obtain ⟨b, hb⟩ := un_go a hs a.size 0 k [] 0 (by omega) (by omega) (Nat.le_refl _)
  rw [show ((0 : Nat) : Int) = 0 from rfl, List.drop_zero] at hb
  rw [hb, Option.bind_some]
  unfold D
  cases hc : a.data.toList.all Sha.hb
  ·
   rfl
  ·
   show (if (0 : Int) = 0 then some ((a.size : Int) == 64) else some false) = _
   rw [if_pos rfl, Bool.true_and]
   congr 1
   by_cases h : a.size = 64
   ·
    simp [h]
   ·
    rw [decide_eq_false h]
    simpa using (show ¬ (a.size : Int) = 64 by omega)
 ·
  rw [if_neg h2, Option.bind_some]
  have h : ¬ a.size = 64 := by omega
  unfold D
  rw [decide_eq_false h, Bool.and_false]
  rfl
theorem rd13 (l : List Piece) (i : Nat) (h : i < l.length) : rd_T95 (l.map refC) (i : Int) = refC (rdC l i) := by
 show (l.map refC).getD (i : Int).toNat _ = refC (l.getD (i : Int).toNat _)
 rw [Int.toNat_natCast, List.getD_eq_getElem?_getD, List.getD_eq_getElem?_getD, List.getElem?_map, List.getElem?_eq_getElem h]
 rfl
theorem pieces13_go (l : List Piece) (hl : l.length ≤ 1048576) (hs : ∀ y ∈ l, y.f0.size ≤ 1048576) : ∀ n i k (s : Int), i + n = l.length → n + 5300000 < k → 0 ≤ s → s ≤ 4096 * i → stowageref13_Pieces.l0 k (l.map refC) s (i : Int) = some (if 512 < l.length then (0, 1) else pcs (l.drop i) s) := by
 have hm : (l.map refC).length = l.length := List.length_map _
 intro n
 induction n with
 | zero =>
  intro i k s hi hk h0 h1
  obtain ⟨k, rfl⟩ : ∃ j, k = j + 1 := ⟨k - 1, by omega⟩
  rw [stowageref13_Pieces.l0, hm, if_neg (by omega), List.drop_of_length_le (by omega)]
  by_cases h : 512 < l.length
  ·
   rw [if_pos (by omega), if_pos h]
  ·
   rw [if_neg (by omega), if_neg h]
   rfl
 | succ n ih =>
  intro i k s hi hk h0 h1
  obtain ⟨k, rfl⟩ : ∃ j, k = j + 1 := ⟨k - 1, by omega⟩
  have e : (if 512 < l.length then ((0 : Int), (1 : Int)) else (0, 1)) = (0, 1) := by split <;> rfl
  rw [stowageref13_Pieces.l0, hm, if_pos (by omega), if_pos (by omega), rd13 l i (by omega)]
  show (stowageref06_May.f k (rdC l i).f0).bind (fun t => if t = true then (if (rdC l i).f1 < 1 then some (0, 1) else (if (rdC l i).f1 > 4096 then some (0, 1) else stowageref13_Pieces.l0 k (l.map refC) (wrap64 (s + (rdC l i).f1)) (wrap64 ((i : Int) + 1)))) else some (0, 1)) = _
  rw [may06_eq _ (hs _ (memC l i (by omega))) k (by omega), Option.bind_some, dropC l i (by omega), pcs, w1 i (by omega)]
  by_cases hd : D (rdC l i).f0 = true
  ·
   rw [if_pos hd]
   by_cases h2 : (rdC l i).f1 < 1
   ·
    rw [if_pos h2, if_neg (show ¬ (D (rdC l i).f0 = true ∧ 1 ≤ (rdC l i).f1 ∧ (rdC l i).f1 ≤ 4096) from fun h => by omega), e]
   ·
    rw [if_neg h2]
    by_cases h3 : (rdC l i).f1 > 4096
    ·
     rw [if_pos h3, if_neg (show ¬ (D (rdC l i).f0 = true ∧ 1 ≤ (rdC l i).f1 ∧ (rdC l i).f1 ≤ 4096) from fun h => by omega), e]
    ·
     rw [if_neg h3, if_pos (show D (rdC l i).f0 = true ∧ 1 ≤ (rdC l i).f1 ∧ (rdC l i).f1 ≤ 4096 from ⟨hd, by omega, by omega⟩), IntWalk.wrap64_in _ (by omega), ih (i + 1) k _ (by omega) (by omega) (by omega) (by omega)]
  ·
   rw [if_neg hd, if_neg (show ¬ (D (rdC l i).f0 = true ∧ 1 ≤ (rdC l i).f1 ∧ (rdC l i).f1 ≤ 4096) from fun h => hd h.1), e]
theorem pieces13_eq (l : List Piece) (hl : l.length ≤ 1048576) (hs : ∀ y ∈ l, y.f0.size ≤ 1048576) (k : Nat) (hk : 6400000 ≤ k) : stowageref13_Pieces.f k (l.map refC) = some (Pc l) := by
 unfold stowageref13_Pieces.f Pc
 exact pieces13_go l hl hs l.length 0 k 0 (by omega) (by omega) (by omega) (by omega)
theorem rdK' (l : List Pick) (i : Nat) (h : i < l.length) : rd_T61 (l.map refK) (i : Int) = refK (rdK l i) := by
 show (l.map refK).getD (i : Int).toNat _ = refK (l.getD (i : Int).toNat _)
 rw [Int.toNat_natCast, List.getD_eq_getElem?_getD, List.getD_eq_getElem?_getD, List.getElem?_map, List.getElem?_eq_getElem h]
 rfl
theorem Piece_go2 (ps : List Piece) (hl : ps.length ≤ 1048576) : ∀ (n i k : Nat) (acc : List RPiece), i + n = ps.length → acc.length = i → n < k → stowagelaw13_Piece.l0 k ps acc (i : Int) = some (acc ++ (ps.drop i).map refC) := by
 intro n
 induction n with
 | zero =>
  intro i k acc hn ha hk
  obtain ⟨k, rfl⟩ : ∃ j, k = j + 1 := ⟨k - 1, by omega⟩
  rw [stowagelaw13_Piece.l0, if_neg (by omega), List.drop_of_length_le (by omega), List.map_nil, List.append_nil]
 | succ n ih =>
  intro i k acc hn ha hk
  obtain ⟨k, rfl⟩ : ∃ j, k = j + 1 := ⟨k - 1, by omega⟩
  rw [stowagelaw13_Piece.l0, if_pos (by omega), if_pos (by omega), if_pos (by omega), w1 i (by omega), ih (i + 1) k _ (by omega) (by rw [List.length_append, ha]; rfl) (by omega), dropC ps i (by omega), List.map_cons, List.append_assoc]
  rfl
theorem Ref_go2 (a0 : Int) (a1 a2 a3 : ByteArray) (a4 a5 : Int) (a6 : ByteArray) (ps : List Piece) (l : List Pick) (hp : ps.length ≤ 1048576) (hl : l.length ≤ 1048576) : ∀ (n i k : Nat) (acc : List RPick), i + n = l.length → acc.length = i → n + 1048578 < k → stowagelaw16_Ref.l0 k acc (i : Int) a0 a1 a2 a3 a4 a5 a6 ps l = some (a0, a1, a2, a3, a4, a5, a6, ps.map refC, acc ++ (l.drop i).map refK) := by
 intro n
 induction n with
 | zero =>
  intro i k acc hn ha hk
  obtain ⟨k, rfl⟩ : ∃ j, k = j + 1 := ⟨k - 1, by omega⟩
  have h1 := Piece_go2 ps hp ps.length 0 k [] (by omega) rfl (by omega)
  rw [List.drop_zero, List.nil_append] at h1
  have h1' : stowagelaw13_Piece.f k ps = some (ps.map refC) := h1
  rw [stowagelaw16_Ref.l0, if_neg (by omega), h1', Option.bind_some, List.drop_of_length_le (by omega), List.map_nil, List.append_nil]
 | succ n ih =>
  intro i k acc hn ha hk
  obtain ⟨k, rfl⟩ : ∃ j, k = j + 1 := ⟨k - 1, by omega⟩
  rw [stowagelaw16_Ref.l0, if_pos (by omega), if_pos (by omega), if_pos (by omega), w1 i (by omega), ih (i + 1) k _ (by omega) (by rw [List.length_append, ha]; rfl) (by omega), dropK l i (by omega), List.map_cons, List.append_assoc]
  rfl
theorem Ref_eq2 (a0 : Int) (a1 a2 a3 : ByteArray) (a4 a5 : Int) (a6 : ByteArray) (ps : List Piece) (l : List Pick) (hp : ps.length ≤ 1048576) (hl : l.length ≤ 1048576) (k : Nat) (hk : 2097160 ≤ k) : stowagelaw16_Ref.f k a0 a1 a2 a3 a4 a5 a6 ps l = some (a0, a1, a2, a3, a4, a5, a6, ps.map refC, l.map refK) :=
 Ref_go2 a0 a1 a2 a3 a4 a5 a6 ps l hp hl l.length 0 k [] (by omega) rfl (by omega)
structure Small6 (a6 : ByteArray) (l : List Pick) : Prop where
 s : a6.size ≤ 1048576
 t : ∀ y ∈ l, y.f1.size ≤ 1048576
section
variable (a0 : Int) (a1 a2 a3 : ByteArray) (a4 a5 : Int) (a6 : ByteArray) (ps : List Piece) (l : List Pick)
abbrev t7 : Prop := l.all pk = true
abbrev t6 : Prop := l.length ≤ 100 ∧ (a0 ≠ 8 → l.length = 0)
abbrev t5 : Prop := ((a0 = 3 ∨ a0 = 7) → D a6 = true ∧ (Pc ps).2 = 0 ∧ (Pc ps).1 ≤ 1048576) ∧ (¬ (a0 = 3 ∨ a0 = 7) → a6.size = 0 ∧ ps.length = 0)
abbrev t4 : Prop := (a0 = 7 → 1 ≤ a5 ∧ a5 ≤ 100) ∧ (a0 ≠ 7 → a5 = 0)
abbrev iD : Prop := a0 = 5 ∨ (7 ≤ a0 ∧ a0 ≤ 10)
abbrev t3 : Prop := 0 ≤ a4 ∧ a4 ≤ 1099511627776 ∧ (¬ iD a0 → a4 = 0) ∧ (iD a0 → a0 < 10 → a4 ≠ 0)
abbrev t2 : Prop := ((3 ≤ a0 ∧ a0 ≤ 9) → keyOk a3 = true) ∧ (¬ (3 ≤ a0 ∧ a0 ≤ 9) → a3.size = 0)
abbrev t1 : Prop := (a0 = 10 → a2.size = 0) ∧ (a0 < 10 → bucketOk a2 = true)
abbrev t0 : Prop := a1.size ≠ 0 → a0 ≠ 10 ∧ tokOk a1 = true
end
theorem hasKey_eq (n : Int) : stowageref16_HasKey.f n = some (decide (3 ≤ n ∧ n ≤ 9)) := by
 unfold stowageref16_HasKey.f
 by_cases h1 : n ≥ 3
 ·
  rw [if_pos h1]; congr 1; exact decide_eq_decide.2 ⟨fun h => ⟨h1, h⟩, fun h => h.2⟩
 ·
  rw [if_neg h1]; congr 1; exact (decide_eq_false (fun h => h1 h.1)).symm
end Go.Proofs.YtdidopoalmkhlaaDoor.Pure
end
section
namespace Go.Proofs.YtdidopoalmkhlaaDoor.Pure
open Go.RowKit Go.Proofs.YtdidopoalmkhlaaDoor.Or Go.Proofs.YtdidopoalmkhlaaDoorW.PrintWords Go.Proofs.YtdidopoalmkhlaaDoorW.PrintLast Go.Proofs.YtdidopoalmkhlaaDoorW.PrintMore
set_option linter.unusedVariables false
set_option linter.unusedSimpArgs false
theorem ic {p q : Prop} [Decidable p] [Decidable q] (h : p ↔ q) : (if p then (0 : Int) else 1) = (if q then 0 else 1) := by
 by_cases hp : p
 ·
  rw [if_pos hp, if_pos (h.1 hp)]
 ·
  rw [if_neg hp, if_neg (fun g => hp (h.2 g))]
theorem hasID_eq (n : Int) : stowageref16_hasID.f n = some (decide (iD n)) := by
 unfold stowageref16_hasID.f
 by_cases h0 : n = 5
 ·
  rw [if_pos h0, decide_eq_true (.inl h0)]
 ·
  rw [if_neg h0]
  by_cases h1 : n ≥ 7
  ·
   rw [if_pos h1]; congr 1; exact decide_eq_decide.2 ⟨fun h => .inr ⟨h1, h⟩, fun h => by rcases h with h | h; exact absurd h h0; exact h.2⟩
  ·
   rw [if_neg h1]; congr 1; exact (decide_eq_false (fun h => by rcases h with h | h; exact h0 h; exact h1 h.1)).symm
theorem hasSum_eq (n : Int) : stowageref16_hasSum.f n = some (decide (n = 3 ∨ n = 7)) := by
 unfold stowageref16_hasSum.f
 by_cases h0 : n = 3
 ·
  rw [if_pos h0, decide_eq_true (.inl h0)]
 ·
  rw [if_neg h0]; congr 1
  by_cases h1 : n = 7
  ·
   rw [beq_iff_eq.mpr h1, decide_eq_true (.inr h1)]
  ·
   rw [beq_eq_false_iff_ne.mpr h1, decide_eq_false (fun h => by rcases h with h | h; exact h0 h; exact h1 h)]
section
variable (a0 : Int) (a1 a2 a3 : ByteArray) (a4 a5 : Int) (a6 : ByteArray) (ps : List Piece) (l : List Pick)
theorem rc_l0 (hl : l.length ≤ 1048576) (hs : ∀ y ∈ l, y.f1.size ≤ 1048576) : ∀ n i k, i + n = l.length → n + 5300001 < k → stowageref16_Check.l0 k (i : Int) a0 a1 a2 a3 a4 a5 a6 (ps.map refC) (l.map refK) = some (if (l.drop i).all pk = true then 0 else 1) := by
 have hm : (l.map refK).length = l.length := List.length_map _
 intro n
 induction n with
 | zero =>
  intro i k hn hk
  obtain ⟨k, rfl⟩ : ∃ j, k = j + 1 := ⟨k - 1, by omega⟩
  rw [stowageref16_Check.l0, hm, if_neg (by omega), List.drop_of_length_le (by omega)]
  rfl
 | succ n ih =>
  intro i k hn hk
  obtain ⟨k, rfl⟩ : ∃ j, k = j + 1 := ⟨k - 1, by omega⟩
  have hd : (rdK l i).f1.size ≤ 1048576 := hs _ (memK l i (by omega))
  rw [stowageref16_Check.l0, hm, if_pos (by omega), if_pos (by omega), rdK' l i (by omega), dropK l i (by omega), List.all_cons]
  show (if (rdK l i).f0 < 0 then _ else if (rdK l i).f0 > 100 then _ else (stowageref06_May.f k (rdK l i).f1).bind _) = _
  have no : pk (rdK l i) = false → (some 1 : Option Int) = some (if (pk (rdK l i) && (l.drop (i + 1)).all pk) = true then 0 else 1) := fun h => by rw [h, Bool.false_and, if_neg (by decide)]
  by_cases h1 : (rdK l i).f0 < 0
  ·
   rw [if_pos h1]; exact no (by unfold pk; rw [decide_eq_false (by omega), Bool.false_and])
  ·
   rw [if_neg h1]
   by_cases h2 : (rdK l i).f0 > 100
   ·
    rw [if_pos h2]; exact no (by unfold pk; rw [decide_eq_false (by omega), Bool.false_and])
   ·
    rw [if_neg h2, may06_eq _ hd k (by omega), Option.bind_some]
    cases h3 : D (rdK l i).f1
    ·
     rw [if_neg (by decide)]; exact no (by unfold pk; rw [h3, Bool.and_false])
    ·
     have e : pk (rdK l i) = true := by unfold pk; rw [h3, decide_eq_true ⟨by omega, by omega⟩]; rfl
     rw [if_pos rfl, w1 i (by omega), ih (i + 1) k (by omega) (by omega), e, Bool.true_and]
variable (hsm : SmallCmd a1 a2 a3 a6 ps l) (h6 : Small6 a6 l)
include hsm h6
theorem rc_j7 (b : Bool) (k : Nat) (hk : 7000000 ≤ k) : stowageref16_Check.j7 k b a0 a1 a2 a3 a4 a5 a6 (ps.map refC) (l.map refK) = some (if b = false ∧ t7 l then 0 else 1) := by
 obtain ⟨k, rfl⟩ : ∃ j, k = j + 1 := ⟨k - 1, by omega⟩
 rw [stowageref16_Check.j7]
 cases b with
 | true => rw [if_pos rfl, if_neg (by simp)]
 | false =>
  have := rc_l0 a0 a1 a2 a3 a4 a5 a6 ps l hsm.hl h6.t l.length 0 k (by omega) (by have := hsm.hl; omega)
  rw [if_neg (by decide)]
  show stowageref16_Check.l0 k ((0 : Nat) : Int) a0 a1 a2 a3 a4 a5 a6 (ps.map refC) (l.map refK) = _
  rw [this, List.drop_zero]
  simp only [true_and]
theorem rc_j6 (b : Bool) (k : Nat) (hk : 7000001 ≤ k) : stowageref16_Check.j6 k b a0 a1 a2 a3 a4 a5 a6 (ps.map refC) (l.map refK) = some (if b = false ∧ t6 a0 l ∧ t7 l then 0 else 1) := by
 obtain ⟨k, rfl⟩ : ∃ j, k = j + 1 := ⟨k - 1, by omega⟩
 have J := fun c => rc_j7 a0 a1 a2 a3 a4 a5 a6 ps l hsm h6 c k (by omega)
 have hm : (l.map refK).length = l.length := List.length_map _
 rw [stowageref16_Check.j6, hm]
 cases b with
 | true => rw [if_pos rfl, if_neg (by simp)]
 | false =>
  rw [if_neg (by decide)]
  by_cases h1 : (l.length : Int) > 100
  ·
   rw [if_pos h1, J, if_neg (by simp), if_neg (fun h => by have := h.2.1.1; omega)]
  ·
   rw [if_neg h1]
   by_cases h2 : a0 = 8
   ·
    rw [if_pos h2, J]; congr 1; exact ic ⟨fun h => ⟨rfl, ⟨by omega, fun g => absurd h2 g⟩, h.2⟩, fun h => ⟨rfl, h.2.2⟩⟩
   ·
    rw [if_neg h2, J]; congr 1; exact ic ⟨fun h => ⟨rfl, ⟨by omega, fun _ => by have := of_decide_eq_false h.1; omega⟩, h.2⟩, fun h => ⟨decide_eq_false (by have := h.2.1.2 h2; omega), h.2.2⟩⟩
theorem rc_j5 (b : Bool) (k : Nat) (hk : 7000002 ≤ k) : stowageref16_Check.j5 k b a0 a1 a2 a3 a4 a5 a6 (ps.map refC) (l.map refK) = some (if b = false ∧ t5 a0 a6 ps ∧ t6 a0 l ∧ t7 l then 0 else 1) := by
 obtain ⟨k, rfl⟩ : ∃ j, k = j + 1 := ⟨k - 1, by omega⟩
 have J := fun c => rc_j6 a0 a1 a2 a3 a4 a5 a6 ps l hsm h6 c k (by omega)
 have hm : (ps.map refC).length = ps.length := List.length_map _
 rw [stowageref16_Check.j5, hm]
 cases b with
 | true => rw [if_pos rfl, if_neg (by simp)]
 | false =>
  rw [if_neg (by decide), pieces13_eq ps hsm.hp hsm.sp k (by omega), Option.bind_some, hasSum_eq, Option.bind_some, may06_eq a6 h6.s k (by omega)]
  conv => lhs; simp only [Option.bind_some]
  by_cases h1 : a0 = 3 ∨ a0 = 7
  ·
   rw [decide_eq_true h1, if_pos rfl, if_pos rfl]
   by_cases h2 : D a6 = false
   ·
    rw [if_neg (by rw [h2]; decide), J, if_neg (by simp), if_neg (fun h => by have := (h.2.1.1 h1).1; rw [h2] at this; cases this)]
   ·
    have h2 : D a6 = true := by simpa using h2
    rw [if_pos h2]
    by_cases h3 : (Pc ps).2 = 0
    ·
     rw [if_pos h3]
     by_cases h4 : (Pc ps).1 > 1048576
     ·
      rw [if_pos h4, J, if_neg (by simp), if_neg (fun h => by have := (h.2.1.1 h1).2.2; omega)]
     ·
      rw [if_neg h4, J]; congr 1; exact ic ⟨fun h => ⟨rfl, ⟨fun _ => ⟨h2, h3, by omega⟩, fun g => absurd h1 g⟩, h.2⟩, fun h => ⟨rfl, h.2.2⟩⟩
    ·
     rw [if_neg h3, J, if_neg (by simp), if_neg (fun h => h3 (h.2.1.1 h1).2.1)]
  ·
   rw [decide_eq_false h1, if_neg (by decide), if_neg (by decide)]
   by_cases h2 : a6.toList = ([] : List UInt8)
   ·
    rw [if_pos h2, J]; congr 1; exact ic ⟨fun h => ⟨rfl, ⟨fun g => absurd g h1, fun _ => ⟨(toList_nil a6).1 h2, by have := of_decide_eq_false h.1; omega⟩⟩, h.2⟩, fun h => ⟨decide_eq_false (by have := (h.2.1.2 h1).2; omega), h.2.2⟩⟩
   ·
    rw [if_neg h2, J, if_neg (by simp), if_neg (fun h => h2 ((toList_nil a6).2 (h.2.1.2 h1).1))]
theorem rc_j4 (b : Bool) (k : Nat) (hk : 7000003 ≤ k) : stowageref16_Check.j4 k b a0 a1 a2 a3 a4 a5 a6 (ps.map refC) (l.map refK) = some (if b = false ∧ t4 a0 a5 ∧ t5 a0 a6 ps ∧ t6 a0 l ∧ t7 l then 0 else 1) := by
 obtain ⟨k, rfl⟩ : ∃ j, k = j + 1 := ⟨k - 1, by omega⟩
 have J := fun c => rc_j5 a0 a1 a2 a3 a4 a5 a6 ps l hsm h6 c k (by omega)
 rw [stowageref16_Check.j4]
 cases b with
 | true => rw [if_pos rfl, if_neg (by simp)]
 | false =>
  rw [if_neg (by decide)]
  by_cases h1 : a0 = 7
  ·
   rw [if_pos h1]
   by_cases h2 : a5 < 1
   ·
    rw [if_pos h2, J, if_neg (by simp), if_neg (fun h => by have := (h.2.1.1 h1).1; omega)]
   ·
    rw [if_neg h2]
    by_cases h3 : a5 > 100
    ·
     rw [if_pos h3, J, if_neg (by simp), if_neg (fun h => by have := (h.2.1.1 h1).2; omega)]
    ·
     rw [if_neg h3, J]; congr 1; exact ic ⟨fun h => ⟨rfl, ⟨fun _ => ⟨by omega, by omega⟩, fun g => absurd h1 g⟩, h.2⟩, fun h => ⟨rfl, h.2.2⟩⟩
  ·
   rw [if_neg h1, J]; congr 1; exact ic ⟨fun h => ⟨rfl, ⟨fun g => absurd g h1, fun _ => bne_eq_false_iff_eq.mp h.1⟩, h.2⟩, fun h => ⟨bne_eq_false_iff_eq.mpr (h.2.1.2 h1), h.2.2⟩⟩
theorem rc_j3 (b : Bool) (k : Nat) (hk : 7000004 ≤ k) : stowageref16_Check.j3 k b a0 a1 a2 a3 a4 a5 a6 (ps.map refC) (l.map refK) = some (if b = false ∧ t3 a0 a4 ∧ t4 a0 a5 ∧ t5 a0 a6 ps ∧ t6 a0 l ∧ t7 l then 0 else 1) := by
 obtain ⟨k, rfl⟩ : ∃ j, k = j + 1 := ⟨k - 1, by omega⟩
 have J := fun c => rc_j4 a0 a1 a2 a3 a4 a5 a6 ps l hsm h6 c k (by omega)
 rw [stowageref16_Check.j3]
 cases b with
 | true => rw [if_pos rfl, if_neg (by simp)]
 | false =>
  rw [if_neg (by decide), hasID_eq]
  conv => lhs; simp only [Option.bind_some]
  by_cases h1 : a4 < 0
  ·
   rw [if_pos h1, J, if_neg (by simp), if_neg (fun h => by have := h.2.1.1; omega)]
  ·
   rw [if_neg h1]
   by_cases h2 : a4 > 1099511627776
   ·
    rw [if_pos h2, J, if_neg (by simp), if_neg (fun h => by have := h.2.1.2.1; omega)]
   ·
    rw [if_neg h2]
    by_cases h3 : iD a0
    ·
     rw [decide_eq_true h3, if_pos rfl, if_pos rfl]
     by_cases h4 : a0 < 10
     ·
      rw [if_pos h4, J]; congr 1; exact ic ⟨fun h => ⟨rfl, ⟨by omega, by omega, fun g => absurd h3 g, fun _ _ => beq_eq_false_iff_ne.mp h.1⟩, h.2⟩, fun h => ⟨beq_eq_false_iff_ne.mpr (h.2.1.2.2.2 h3 h4), h.2.2⟩⟩
     ·
      rw [if_neg h4, J]; congr 1; exact ic ⟨fun h => ⟨rfl, ⟨by omega, by omega, fun g => absurd h3 g, fun _ g => absurd g h4⟩, h.2⟩, fun h => ⟨rfl, h.2.2⟩⟩
    ·
     rw [decide_eq_false h3, if_neg (by decide)]
     by_cases h4 : a4 = 0
     ·
      rw [if_pos h4, if_neg (by decide), J]; congr 1; exact ic ⟨fun h => ⟨rfl, ⟨by omega, by omega, fun _ => h4, fun g => absurd g h3⟩, h.2⟩, fun h => ⟨rfl, h.2.2⟩⟩
     ·
      rw [if_neg h4, J, if_neg (by simp), if_neg (fun h => h4 (h.2.1.2.2.1 h3))]
theorem rc_j2 (b : Bool) (k : Nat) (hk : 9223372036854775810 ≤ k) : stowageref16_Check.j2 k b a0 a1 a2 a3 a4 a5 a6 (ps.map refC) (l.map refK) = some (if b = false ∧ t2 a0 a3 ∧ t3 a0 a4 ∧ t4 a0 a5 ∧ t5 a0 a6 ps ∧ t6 a0 l ∧ t7 l then 0 else 1) := by
 obtain ⟨k, rfl⟩ : ∃ j, k = j + 1 := ⟨k - 1, by omega⟩
 have J := fun c => rc_j3 a0 a1 a2 a3 a4 a5 a6 ps l hsm h6 c k (by omega)
 rw [stowageref16_Check.j2]
 cases b with
 | true => rw [if_pos rfl, if_neg (by simp)]
 | false =>
  rw [if_neg (by decide), hasKey_eq, ref_Key_eq a3 (by have := hsm.s3; omega) k (by omega)]
  conv => lhs; simp only [Option.bind_some]
  by_cases h1 : 3 ≤ a0 ∧ a0 ≤ 9
  ·
   rw [decide_eq_true h1, if_pos rfl, if_pos rfl]
   by_cases h2 : keyOk a3 = false
   ·
    rw [if_neg (by rw [h2]; decide), J, if_neg (by simp), if_neg (fun h => by have := h.2.1.1 h1; rw [h2] at this; cases this)]
   ·
    have h2 : keyOk a3 = true := by simpa using h2
    rw [if_pos h2, J]; congr 1; exact ic ⟨fun h => ⟨rfl, ⟨fun _ => h2, fun g => absurd h1 g⟩, h.2⟩, fun h => ⟨rfl, h.2.2⟩⟩
  ·
   rw [decide_eq_false h1, if_neg (by decide), if_neg (by decide), J]; congr 1
   exact ic ⟨fun h => ⟨rfl, ⟨fun g => absurd g h1, fun _ => (toList_nil a3).1 (bne_eq_false_iff_eq.mp h.1)⟩, h.2⟩, fun h => ⟨bne_eq_false_iff_eq.mpr ((toList_nil a3).2 (h.2.1.2 h1)), h.2.2⟩⟩
theorem rc_j1 (b : Bool) (k : Nat) (hk : 9223372036854775811 ≤ k) : stowageref16_Check.j1 k b a0 a1 a2 a3 a4 a5 a6 (ps.map refC) (l.map refK) = some (if b = false ∧ t1 a0 a2 ∧ t2 a0 a3 ∧ t3 a0 a4 ∧ t4 a0 a5 ∧ t5 a0 a6 ps ∧ t6 a0 l ∧ t7 l then 0 else 1) := by
 obtain ⟨k, rfl⟩ : ∃ j, k = j + 1 := ⟨k - 1, by omega⟩
 have J := fun c => rc_j2 a0 a1 a2 a3 a4 a5 a6 ps l hsm h6 c k (by omega)
 rw [stowageref16_Check.j1]
 cases b with
 | true => rw [if_pos rfl, if_neg (by simp)]
 | false =>
  rw [if_neg (by decide), ref_Bucket_eq a2 (by have := hsm.s2; omega) k (by omega)]
  conv => lhs; simp only [Option.bind_some]
  by_cases h1 : a0 = 10
  ·
   rw [if_pos h1]
   by_cases h2 : a2.toList = ([] : List UInt8)
   ·
    rw [if_pos h2, if_neg (by omega), J]; congr 1; exact ic ⟨fun h => ⟨rfl, ⟨fun _ => (toList_nil a2).1 h2, fun g => by omega⟩, h.2⟩, fun h => ⟨rfl, h.2.2⟩⟩
   ·
    rw [if_neg h2, J, if_neg (by simp), if_neg (fun h => h2 ((toList_nil a2).2 (h.2.1.1 h1)))]
  ·
   rw [if_neg h1]
   by_cases h2 : a0 < 10
   ·
    rw [if_pos h2, J]; congr 1; exact ic ⟨fun h => ⟨rfl, ⟨fun g => absurd g h1, fun _ => by simpa using h.1⟩, h.2⟩, fun h => ⟨by rw [h.2.1.2 h2]; rfl, h.2.2⟩⟩
   ·
    rw [if_neg h2, J]; congr 1; exact ic ⟨fun h => ⟨rfl, ⟨fun g => absurd g h1, fun g => absurd g h2⟩, h.2⟩, fun h => ⟨rfl, h.2.2⟩⟩
theorem rc_j0 (b : Bool) (k : Nat) (hk : 9223372036854775812 ≤ k) : stowageref16_Check.j0 k b a0 a1 a2 a3 a4 a5 a6 (ps.map refC) (l.map refK) = some (if b = false ∧ t0 a0 a1 ∧ t1 a0 a2 ∧ t2 a0 a3 ∧ t3 a0 a4 ∧ t4 a0 a5 ∧ t5 a0 a6 ps ∧ t6 a0 l ∧ t7 l then 0 else 1) := by
 obtain ⟨k, rfl⟩ : ∃ j, k = j + 1 := ⟨k - 1, by omega⟩
 have J := fun c => rc_j1 a0 a1 a2 a3 a4 a5 a6 ps l hsm h6 c k (by omega)
 rw [stowageref16_Check.j0]
 cases b with
 | true => rw [if_pos rfl, if_neg (by simp)]
 | false =>
  rw [if_neg (by decide), ref_Token_eq a1 (by have := hsm.s1; omega) k (by omega)]
  conv => lhs; simp only [Option.bind_some]
  by_cases h1 : a1.toList = ([] : List UInt8)
  ·
   rw [if_pos h1, J]; congr 1; exact ic ⟨fun h => ⟨rfl, fun g => absurd ((toList_nil a1).1 h1) g, h.2⟩, fun h => ⟨rfl, h.2.2⟩⟩
  ·
   have h1' : a1.size ≠ 0 := fun g => h1 ((toList_nil a1).2 g)
   rw [if_neg h1]
   by_cases h2 : a0 = 10
   ·
    rw [if_pos h2, J, if_neg (by simp), if_neg (fun h => (h.2.1 h1').1 h2)]
   ·
    rw [if_neg h2, J]; congr 1; exact ic ⟨fun h => ⟨rfl, fun _ => ⟨h2, by simpa using h.1⟩, h.2⟩, fun h => ⟨by rw [(h.2.1 h1').2]; rfl, h.2.2⟩⟩
end
theorem bits (n : Int) (h : 1 ≤ n ∧ n ≤ 10) : (ba (fb n) 1 = 0 ↔ n = 10) ∧ (ba (fb n) 2 = 0 ↔ n = 10) ∧ (ba (fb n) 4 = 0 ↔ ¬ (3 ≤ n ∧ n ≤ 9)) ∧ (ba (fb n) 8 = 0 ↔ ¬ iD n) ∧ (ba (fb n) 16 = 0 ↔ n ≠ 7) ∧ (ba (fb n) 32 = 0 ↔ ¬ (n = 3 ∨ n = 7)) ∧ (ba (fb n) 64 = 0 ↔ ¬ (n = 3 ∨ n = 7)) ∧ (ba (fb n) 128 = 0 ↔ n ≠ 8) ∧ fb n ≠ 0 := by
 obtain ⟨m, rfl⟩ : ∃ m : Nat, n = m := ⟨n.toNat, by omega⟩
 have : m = 1 ∨ m = 2 ∨ m = 3 ∨ m = 4 ∨ m = 5 ∨ m = 6 ∨ m = 7 ∨ m = 8 ∨ m = 9 ∨ m = 10 := by omega
 rcases this with rfl | rfl | rfl | rfl | rfl | rfl | rfl | rfl | rfl | rfl <;> decide +kernel
theorem CK_iff (a0 : Int) (a1 a2 a3 : ByteArray) (a4 a5 : Int) (a6 : ByteArray) (ps : List Piece) (l : List Pick) :
  CK a0 a1 a2 a3 a4 a5 a6 ps l ↔ (1 ≤ a0 ∧ a0 ≤ 10) ∧ t0 a0 a1 ∧ t1 a0 a2 ∧ t2 a0 a3 ∧ t3 a0 a4 ∧ t4 a0 a5 ∧ t5 a0 a6 ps ∧ t6 a0 l ∧ t7 l := by
 constructor
 ·
  intro h
  have hb := CK_bd h
  obtain ⟨f1, f2, f3, f4, f5, f6, f7, f8, f9⟩ := bits a0 hb.k0
  obtain ⟨h0, ⟨z1, z2, z3, z4, z5, z6, z7, z8⟩, ht, ⟨r1, r2, r3, r4, r5⟩, ⟨q1, q2, q3, q4, q5, q6, q7⟩, hk⟩ := h
  refine ⟨hb.k0, ?_, ⟨fun h => z2 (f2.2 h), fun h => r1 (fun g => by have := f2.1 g; omega)⟩, ⟨fun h => r2 (fun g => f3.1 g h), fun h => z3 (f3.2 h)⟩, ⟨q1, q2, fun h => z4 (f4.2 h), fun h1 h2 h3 => by have := q3 (fun g => f4.1 g h1) h3; omega⟩, ⟨fun h => ?_, fun h => z5 (f5.2 h)⟩, ⟨fun h => ⟨r3 (fun g => f6.1 g h), r4, r5⟩, fun h => ⟨z6 (f6.2 h), z7 (f7.2 h)⟩⟩, ⟨q7, fun h => z8 (f8.2 h)⟩, hk⟩
  ·
   intro h1
   exact ⟨fun h2 => h1 (z1 (f1.2 h2)), ht h1⟩
  ·
   have := q6 (fun g => f5.1 g h)
   omega
 ·
  rintro ⟨hk, h0, h1, h2, h3, h4, h5, h6, h7⟩
  obtain ⟨f1, f2, f3, f4, f5, f6, f7, f8, f9⟩ := bits a0 hk
  have hp0 : ps.length = 0 → (Pc ps).2 = 0 ∧ (Pc ps).1 ≤ 1048576 := fun h => by
   obtain rfl := List.length_eq_zero_iff.1 h
   exact ⟨rfl, by decide⟩
  refine ⟨f9, ⟨fun g => ?_, fun g => h1.1 (f2.1 g), fun g => h2.2 (f3.1 g), fun g => h3.2.2.1 (f4.1 g), fun g => h4.2 (f5.1 g), fun g => (h5.2 (f6.1 g)).1, fun g => (h5.2 (f7.1 g)).2, fun g => h6.2 (f8.1 g)⟩, fun g => (h0 g).2, ⟨fun g => ?_, fun g => ?_, fun g => ?_, ?_, ?_⟩, ⟨h3.1, h3.2.1, fun g e => ?_, ?_, ?_, fun g => ?_, h6.1⟩, h7⟩
  ·
   rcases Nat.eq_zero_or_pos a1.size with e | e
   ·
    exact e
   ·
    exact absurd (f1.1 g) (h0 (by omega)).1
  ·
   by_cases e : a0 = 10
   ·
    exact absurd (f2.2 e) g
   ·
    exact h1.2 (by omega)
  ·
   by_cases e : 3 ≤ a0 ∧ a0 ≤ 9
   ·
    exact h2.1 e
   ·
    exact absurd (f3.2 e) g
  ·
   by_cases e : a0 = 3 ∨ a0 = 7
   ·
    exact (h5.1 e).1
   ·
    exact absurd (f6.2 e) g
  ·
   by_cases e : a0 = 3 ∨ a0 = 7
   ·
    exact (h5.1 e).2.1
   ·
    exact (hp0 (h5.2 e).2).1
  ·
   by_cases e : a0 = 3 ∨ a0 = 7
   ·
    exact (h5.1 e).2.2
   ·
    exact (hp0 (h5.2 e).2).2
  ·
   by_cases e1 : a0 < 10
   ·
    by_cases e2 : iD a0
    ·
     exact absurd e (h3.2.2.2 e2 e1)
    ·
     exact absurd (f4.2 e2) g
   ·
    omega
  ·
   by_cases e : a0 = 7
   ·
    have := (h4.1 e).1; omega
   ·
    have := h4.2 e; omega
  ·
   by_cases e : a0 = 7
   ·
    exact (h4.1 e).2
   ·
    have := h4.2 e; omega
  ·
   by_cases e : a0 = 7
   ·
    have := (h4.1 e).1; omega
   ·
    exact absurd (f5.2 e) g
theorem rcheck_eq (a0 : Int) (a1 a2 a3 : ByteArray) (a4 a5 : Int) (a6 : ByteArray) (ps : List Piece) (l : List Pick) (hsm : SmallCmd a1 a2 a3 a6 ps l) (h6 : Small6 a6 l) (k : Nat) (hk : 9223372036854775812 ≤ k) :
  stowageref16_Check.f k a0 a1 a2 a3 a4 a5 a6 (ps.map refC) (l.map refK) = some (if CK a0 a1 a2 a3 a4 a5 a6 ps l then 0 else 1) := by
 have J := fun c => rc_j0 a0 a1 a2 a3 a4 a5 a6 ps l hsm h6 c k hk
 unfold stowageref16_Check.f
 have hiff := CK_iff a0 a1 a2 a3 a4 a5 a6 ps l
 by_cases h1 : a0 < 1
 ·
  rw [if_pos h1, J, if_neg (by simp), if_neg (fun h => by have := (hiff.1 h).1; omega)]
 ·
  rw [if_neg h1, J]; congr 1
  exact ic ⟨fun h => hiff.2 ⟨⟨by omega, by have := of_decide_eq_false h.1; omega⟩, h.2⟩, fun h => ⟨decide_eq_false (by have := (hiff.1 h).1; omega), (hiff.1 h).2⟩⟩
end Go.Proofs.YtdidopoalmkhlaaDoor.Pure
end
section
namespace Go.Proofs.YtdidopoalmkhlaaDoor.Pure
open Go.RowKit Go.Proofs.YtdidopoalmkhlaaDoor.Or Go.Proofs.YtdidopoalmkhlaaDoorW.PrintWords Go.Proofs.YtdidopoalmkhlaaDoorW.PrintLast Go.Proofs.YtdidopoalmkhlaaDoorW.PrintMore
set_option linter.unusedVariables false
set_option linter.unusedSimpArgs false
theorem Bd.bare {a0 : Int} {a1 a2 a3 : ByteArray} {a4 a5 : Int} {a6 : ByteArray} {ps : List Piece} {l : List Pick} (h : Bd a0 a1 a2 a3 a4 a5 a6 ps l) : Bd a0 ⟨#[]⟩ a2 a3 a4 a5 a6 ps l :=
 ⟨h.k0, Nat.zero_le _, h.b2, h.b3, h.b4, h.b5, h.b6, h.hp, h.bp, h.hl, h.bl⟩
section
variable (a0 : Int) (a1 a2 a3 : ByteArray) (a4 a5 : Int) (a6 : ByteArray) (ps : List RPiece) (l : List RPick) (b0 : Int) (b1 b2 b3 : ByteArray) (b4 b5 : Int) (b6 : ByteArray) (qs : List RPiece) (m : List RPick)
end
end Go.Proofs.YtdidopoalmkhlaaDoor.Pure
end
section
namespace Go.Proofs.YtdidopoalmkhlaaDoor.Pure
open Go.RowKit Go.Proofs.YtdidopoalmkhlaaDoor.Or Go.Proofs.YtdidopoalmkhlaaDoorW.PrintWords Go.Proofs.YtdidopoalmkhlaaDoorW.PrintLast Go.Proofs.YtdidopoalmkhlaaDoorW.PrintMore
set_option linter.unusedVariables false
set_option linter.unusedSimpArgs false
theorem two_txt (k : Nat) (hk : 30 ≤ k) (c : Bool) (s : ByteArray) (a : Nat) (e most : Int) (hs : s.size ≤ 1073741824) (ha : a ≤ s.size) (hm : 0 ≤ most) :
  ∃ (t : ByteArray) (m : Nat) (e' : Int), cmd_Decode_txt k (!c) s (a : Int) e most = some (t, s, (m : Int), e') ∧ m ≤ s.size ∧ (t.size : Int) ≤ most ∧ (c = true → stowageref01_Reader_Text.f k s (a : Int) e most = some (s, (m : Int), e', t)) ∧ (c = false → t = ⟨#[]⟩ ∧ m = a ∧ e' = e) := by
 unfold cmd_Decode_txt
 cases c with
 | false => exact ⟨⟨#[]⟩, a, e, rfl, ha, hm, fun h => (by cases h), fun _ => ⟨rfl, rfl, rfl⟩⟩
 | true =>
  obtain ⟨h1, m, h2, h3, h4⟩ := xt_at s a ha e most hm
  refine ⟨(xt s a e most).1, m, (xt s a e most).2.2, ?_, h4, h1, fun _ => ?_, fun h => (by cases h)⟩
  ·
   rw [Bool.not_true, if_neg (by decide), oct_RText s a hs ha e most k hk, h2]
  ·
   rw [ref_RText s a hs ha e most k hk, h2]
theorem two_num (k : Nat) (hk : 30 ≤ k) (c : Bool) (s : ByteArray) (a : Nat) (e most : Int) (hs : s.size ≤ 1073741824) (ha : a ≤ s.size) (hm : 0 ≤ most) (hM : most ≤ 9223372036854775807) :
  ∃ (n : Int) (m : Nat) (e' : Int), cmd_Decode_num k (!c) s (a : Int) e most = some (n, s, (m : Int), e') ∧ m ≤ s.size ∧ 0 ≤ n ∧ n ≤ most ∧ (c = true → stowageref01_Reader_Int.f k s (a : Int) e most = some (s, (m : Int), e', n)) ∧ (c = false → n = 0 ∧ m = a ∧ e' = e) := by
 unfold cmd_Decode_num
 cases c with
 | false => exact ⟨0, a, e, rfl, ha, by omega, hm, fun h => (by cases h), fun _ => ⟨rfl, rfl, rfl⟩⟩
 | true =>
  obtain ⟨h0, h1, m, h2, h3, h4⟩ := xn_at s a ha e most hm
  refine ⟨(xn s a e most).1, m, (xn s a e most).2.2, ?_, h4, h0, h1, fun _ => ?_, fun h => (by cases h)⟩
  ·
   rw [Bool.not_true, if_neg (by decide), oct_RInt s a hs ha e most hm hM k hk, h2]
  ·
   rw [ref_RInt s a hs ha e most hm hM k hk, h2]
theorem two_l0 (k : Nat) (hk : 30 ≤ k) (s : ByteArray) (hs : s.size ≤ 1073741824) : ∀ (n a : Nat) (e : Int) (acc : List Piece), a ≤ s.size → acc.length + n ≤ 1048576 →
  ∃ (l : List Piece) (m : Nat) (e' : Int), cmd_Decode_l0 k n s (a : Int) e acc = some (s, (m : Int), e', acc ++ l) ∧ l.length = n ∧ m ≤ s.size ∧ (∀ y ∈ l, y.f0.size ≤ 64) ∧
   ∀ (i z : Nat) (K : Nat), i + n = z → z ≤ 1048576 → n + 31 ≤ K → stowageref13_Read.l0 K (acc.map refC) (z : Int) (i : Int) s (a : Int) e = some (s, (m : Int), e', (acc ++ l).map refC)
 | 0, a, e, acc, ha, _ => ⟨[], a, e, by rw [cmd_Decode_l0, List.append_nil], rfl, ha, fun y hy => (by cases hy), fun i z K hi hz hK => by
  obtain ⟨K, rfl⟩ : ∃ j, K = j + 1 := ⟨K - 1, by omega⟩
  rw [stowageref13_Read.l0, if_neg (by omega), List.append_nil]⟩
 | n + 1, a, e, acc, ha, hn => by
  obtain ⟨t, m1, e1, g1, g2, g3, g4, -⟩ := two_txt k hk true s a e 64 hs ha (by omega)
  obtain ⟨v, m2, e2, i1, i2, i3, i4, i5, -⟩ := two_num k hk true s m1 e1 4096 hs g2 (by omega) (by omega)
  obtain ⟨l, m, e', j1, j2, j3, j4, j5⟩ := two_l0 k hk s hs n m2 e2 (acc ++ [⟨t, v⟩]) i2 (by rw [List.length_append, List.length_cons, List.length_nil]; omega)
  refine ⟨⟨t, v⟩ :: l, m, e', ?_, by rw [List.length_cons, j2], j3, ?_, ?_⟩
  ·
   have g1' : octet_Reader_Text.f k s (a : Int) e 64 = some (t, s, (m1 : Int), e1) := g1
   have i1' : octet_Reader_Int.f k s (m1 : Int) e1 4096 = some (v, s, (m2 : Int), e2) := i1
   rw [cmd_Decode_l0, g1', Option.bind_some]
   dsimp only
   rw [i1', Option.bind_some, if_pos (by omega)]
   dsimp only
   rw [j1, List.append_assoc]
   rfl
  ·
   intro y hy
   rcases List.mem_cons.1 hy with rfl | hy
   ·
    show t.size ≤ 64; omega
   ·
    exact j4 y hy
  ·
   intro i z K hi hz hK
   obtain ⟨K, rfl⟩ : ∃ j, K = j + 1 := ⟨K - 1, by omega⟩
   have r1 : stowageref01_Reader_Text.f K s (a : Int) e 64 = some (s, (m1 : Int), e1, t) := by
    have q1 := g4 rfl
    rw [ref_RText s a hs ha e 64 k hk] at q1
    rw [ref_RText s a hs ha e 64 K (by omega), q1]
   have r2 : stowageref01_Reader_Int.f K s (m1 : Int) e1 4096 = some (s, (m2 : Int), e2, v) := by
    have q1 := i5 rfl
    rw [ref_RInt s m1 hs g2 e1 4096 (by omega) (by omega) k hk] at q1
    rw [ref_RInt s m1 hs g2 e1 4096 (by omega) (by omega) K (by omega), q1]
   have hm : (acc.map refC).length = acc.length := List.length_map _
   rw [stowageref13_Read.l0, if_pos (by omega), r1, Option.bind_some]
   dsimp only
   rw [r2, Option.bind_some, hm, if_pos (by omega), w1 i (by omega)]
   dsimp only
   have := j5 (i + 1) z K (by omega) hz (by omega)
   rw [List.map_append, List.append_assoc] at this
   exact this
theorem two_l1 (k : Nat) (hk : 30 ≤ k) (s : ByteArray) (hs : s.size ≤ 1073741824) : ∀ (n a : Nat) (e : Int) (acc : List Pick), a ≤ s.size → acc.length + n ≤ 1048576 →
  ∃ (l : List Pick) (m : Nat) (e' : Int), cmd_Decode_l1 k n s (a : Int) e acc = some (s, (m : Int), e', acc ++ l) ∧ l.length = n ∧ m ≤ s.size ∧ (∀ y ∈ l, y.f1.size ≤ 64) ∧
   ∀ (i z : Nat) (K : Nat), i + n = z → z ≤ 1048576 → n + 31 ≤ K → stowageref16_picks.l0 K (acc.map refK) (z : Int) (i : Int) s (a : Int) e = some (s, (m : Int), e', (acc ++ l).map refK)
 | 0, a, e, acc, ha, _ => ⟨[], a, e, by rw [cmd_Decode_l1, List.append_nil], rfl, ha, fun y hy => (by cases hy), fun i z K hi hz hK => by
  obtain ⟨K, rfl⟩ : ∃ j, K = j + 1 := ⟨K - 1, by omega⟩
  rw [stowageref16_picks.l0, if_neg (by omega), List.append_nil]⟩
 | n + 1, a, e, acc, ha, hn => by
  obtain ⟨v, m1, e1, g1, g2, g3, g4, g5, -⟩ := two_num k hk true s a e 100 hs ha (by omega) (by omega)
  obtain ⟨t, m2, e2, i1, i2, i3, i4, -⟩ := two_txt k hk true s m1 e1 64 hs g2 (by omega)
  obtain ⟨l, m, e', j1, j2, j3, j4, j5⟩ := two_l1 k hk s hs n m2 e2 (acc ++ [⟨v, t⟩]) i2 (by rw [List.length_append, List.length_cons, List.length_nil]; omega)
  refine ⟨⟨v, t⟩ :: l, m, e', ?_, by rw [List.length_cons, j2], j3, ?_, ?_⟩
  ·
   have g1' : octet_Reader_Int.f k s (a : Int) e 100 = some (v, s, (m1 : Int), e1) := g1
   have i1' : octet_Reader_Text.f k s (m1 : Int) e1 64 = some (t, s, (m2 : Int), e2) := i1
   rw [cmd_Decode_l1, g1', Option.bind_some]
   dsimp only
   rw [i1', Option.bind_some, if_pos (by omega)]
   dsimp only
   rw [j1, List.append_assoc]
   rfl
  ·
   intro y hy
   rcases List.mem_cons.1 hy with rfl | hy
   ·
    show t.size ≤ 64; omega
   ·
    exact j4 y hy
  ·
   intro i z K hi hz hK
   obtain ⟨K, rfl⟩ : ∃ j, K = j + 1 := ⟨K - 1, by omega⟩
   have r2 : stowageref01_Reader_Text.f K s (m1 : Int) e1 64 = some (s, (m2 : Int), e2, t) := by
    have q1 := i4 rfl
    rw [ref_RText s m1 hs g2 e1 64 k hk] at q1
    rw [ref_RText s m1 hs g2 e1 64 K (by omega), q1]
   have r1 : stowageref01_Reader_Int.f K s (a : Int) e 100 = some (s, (m1 : Int), e1, v) := by
    have q1 := g5 rfl
    rw [ref_RInt s a hs ha e 100 (by omega) (by omega) k hk] at q1
    rw [ref_RInt s a hs ha e 100 (by omega) (by omega) K (by omega), q1]
   have hm : (acc.map refK).length = acc.length := List.length_map _
   rw [stowageref16_picks.l0, if_pos (by omega), r1, Option.bind_some]
   dsimp only
   rw [r2, Option.bind_some, hm, if_pos (by omega), w1 i (by omega)]
   dsimp only
   have := j5 (i + 1) z K (by omega) hz (by omega)
   rw [List.map_append, List.append_assoc] at this
   exact this
theorem bits0 (n : Int) (h0 : 0 ≤ n) (h : n ≤ 10) : nb (fb n) 1 = decide (1 ≤ n ∧ n < 10) ∧ nb (fb n) 2 = decide (1 ≤ n ∧ n < 10) ∧ nb (fb n) 4 = decide (3 ≤ n ∧ n ≤ 9) ∧ nb (fb n) 8 = decide (iD n) ∧ nb (fb n) 16 = decide (n = 7) ∧ nb (fb n) 32 = decide (n = 3 ∨ n = 7) ∧ nb (fb n) 64 = decide (n = 3 ∨ n = 7) ∧ nb (fb n) 128 = decide (n = 8) := by
 obtain ⟨m, rfl⟩ : ∃ m : Nat, n = m := ⟨n.toNat, by omega⟩
 have : m = 0 ∨ m = 1 ∨ m = 2 ∨ m = 3 ∨ m = 4 ∨ m = 5 ∨ m = 6 ∨ m = 7 ∨ m = 8 ∨ m = 9 ∨ m = 10 := by omega
 rcases this with rfl | rfl | rfl | rfl | rfl | rfl | rfl | rfl | rfl | rfl | rfl <;> decide +kernel
theorem both (s : ByteArray) (hs : s.size ≤ 1073741824) (k : Nat) (hk : 9223372036854775900 ≤ k) :
  ∃ (a0 : Int) (a1 a2 a3 : ByteArray) (a4 a5 : Int) (a6 : ByteArray) (ps : List Piece) (l : List Pick) (e : Int), cmd_Decode.f k s = some (a0, a1, a2, a3, a4, a5, a6, ps, l, e) ∧ stowageref16_Decode.f k s = some (a0, a1, a2, a3, a4, a5, a6, ps.map refC, l.map refK, e) ∧ ps.length ≤ 1048576 ∧ l.length ≤ 1048576 := by
 rw [Decode_eq k (by omega) s hs]
 obtain ⟨n0, n1, m0, w1', w2, w3⟩ := xn_at s 0 (Nat.zero_le _) 0 10 (by omega)
 have hr0 : stowageref01_Reader_Int.f k s 0 0 10 = some (s, (xn s 0 0 10).2.1, (xn s 0 0 10).2.2, (xn s 0 0 10).1) := ref_RInt s 0 hs (Nat.zero_le _) 0 10 (by omega) (by omega) k (by omega)
 unfold stowageref16_Decode.f
 rw [hr0, Option.bind_some]
 dsimp only
 obtain ⟨K, hK⟩ : ∃ K, K = (xn s 0 0 10).1 := ⟨_, rfl⟩
 obtain ⟨E, hE⟩ : ∃ E, E = (xn s 0 0 10).2.2 := ⟨_, rfl⟩
 rw [w1', ← hK, ← hE]
 rw [← hK] at n0 n1
 obtain ⟨f1, f2, f3, f4, f5, f6, f7, f8⟩ := bits0 K n0 n1
 obtain ⟨k, rfl⟩ : ∃ j, k = j + 1 + 1 + 1 + 1 + 1 + 1 + 1 := ⟨k - 7, by omega⟩
 have hj : (if K ≥ 1 then stowageref16_Decode.j0 (k + 1 + 1 + 1 + 1 + 1 + 1 + 1) K (decide (K < 10)) s (m0 : Int) E K ⟨#[]⟩ ⟨#[]⟩ ⟨#[]⟩ 0 0 ⟨#[]⟩ else stowageref16_Decode.j0 (k + 1 + 1 + 1 + 1 + 1 + 1 + 1) K false s (m0 : Int) E K ⟨#[]⟩ ⟨#[]⟩ ⟨#[]⟩ 0 0 ⟨#[]⟩) = stowageref16_Decode.j0 (k + 1 + 1 + 1 + 1 + 1 + 1 + 1) K (nb (fb K) 1) s (m0 : Int) E K ⟨#[]⟩ ⟨#[]⟩ ⟨#[]⟩ 0 0 ⟨#[]⟩ := by
  rw [f1]
  by_cases h : K ≥ 1
  ·
   rw [if_pos h]; congr 1; exact decide_eq_decide.2 ⟨fun g => ⟨h, g⟩, fun g => g.2⟩
  ·
   rw [if_neg h, decide_eq_false (fun g => h g.1)]
 rw [hj]
 obtain ⟨KK, hKK⟩ : ∃ KK, KK = k + 1 + 1 + 1 + 1 + 1 + 1 + 1 := ⟨_, rfl⟩
 rw [← hKK]
 obtain ⟨a1, m1, e1, g1, h1, t1, c1, b1⟩ := two_txt KK (by omega) (nb (fb K) 1) s m0 E 64 hs w3 (by omega)
 obtain ⟨a2, m2, e2, g2, h2, t2, c2, b2⟩ := two_txt KK (by omega) (nb (fb K) 2) s m1 e1 63 hs h1 (by omega)
 obtain ⟨a3, m3, e3, g3, h3, t3, c3, b3⟩ := two_txt KK (by omega) (nb (fb K) 4) s m2 e2 1024 hs h2 (by omega)
 obtain ⟨a4, m4, e4, g4, h4, t4, u4, c4, b4⟩ := two_num KK (by omega) (nb (fb K) 8) s m3 e3 1099511627776 hs h3 (by omega) (by omega)
 obtain ⟨a5, m5, e5, g5, h5, t5, u5, c5, b5⟩ := two_num KK (by omega) (nb (fb K) 16) s m4 e4 100 hs h4 (by omega) (by omega)
 obtain ⟨a6, m6, e6, g6, h6, t6, c6, b6⟩ := two_txt KK (by omega) (nb (fb K) 32) s m5 e5 64 hs h5 (by omega)
 obtain ⟨n7, m7, e7, g7, h7, t7, u7, c7, b7⟩ := two_num KK (by omega) (nb (fb K) 64) s m6 e6 512 hs h6 (by omega) (by omega)
 obtain ⟨ps, m8, e8, g8, l8, h8, t8, c8⟩ := two_l0 KK (by omega) s hs n7.toNat m7 e7 [] h7 (by rw [List.length_nil]; omega)
 obtain ⟨n9, m9, e9, g9, h9, t9, u9, c9, b9⟩ := two_num KK (by omega) (nb (fb K) 128) s m8 e8 100 hs h8 (by omega) (by omega)
 obtain ⟨l, mA, eA, gA, lA, hA, tA, cA⟩ := two_l1 KK (by omega) s hs n9.toNat m9 e9 [] h9 (by rw [List.length_nil]; omega)
 rw [g1, Option.bind_some]
 dsimp only
 rw [g2, Option.bind_some]
 dsimp only
 rw [g3, Option.bind_some]
 dsimp only
 rw [g4, Option.bind_some]
 dsimp only
 rw [g5, Option.bind_some]
 dsimp only
 rw [g6, Option.bind_some]
 dsimp only
 rw [g7, Option.bind_some]
 dsimp only
 rw [if_pos u7, g8, Option.bind_some]
 dsimp only
 rw [g9, Option.bind_some]
 dsimp only
 rw [if_pos u9, gA, Option.bind_some]
 dsimp only
 rw [List.nil_append, List.nil_append]
 -- the document's way, to its end
 have T := fun (a : Nat) (e most : Int) (K : Nat) (ha : a ≤ s.size) (hK1 : 30 ≤ K) => (ref_RText s a hs ha e most K hK1).trans (ref_RText s a hs ha e most KK (by omega)).symm
 have I := fun (a : Nat) (e most : Int) (K : Nat) (ha : a ≤ s.size) (hm : 0 ≤ most) (hM : most ≤ 9223372036854775807) (hK1 : 30 ≤ K) => (ref_RInt s a hs ha e most hm hM K hK1).trans (ref_RInt s a hs ha e most hm hM KK (by omega)).symm
 have D0 : stowageref16_Decode.j0 KK K (nb (fb K) 1) s (m0 : Int) E K ⟨#[]⟩ ⟨#[]⟩ ⟨#[]⟩ 0 0 ⟨#[]⟩ = stowageref16_Decode.j1 (k + 1 + 1 + 1 + 1 + 1 + 1) K s (m2 : Int) e2 K a1 a2 ⟨#[]⟩ 0 0 ⟨#[]⟩ := by
  rw [hKK, stowageref16_Decode.j0]
  cases hb : nb (fb K) 1
  ·
   have hb2 : nb (fb K) 2 = false := by rw [f2, ← f1]; exact hb
   obtain ⟨rfl, rfl, rfl⟩ := b1 hb
   obtain ⟨rfl, rfl, rfl⟩ := b2 hb2
   rw [if_neg (by decide)]
  ·
   have hb2 : nb (fb K) 2 = true := by rw [f2, ← f1]; exact hb
   rw [if_pos rfl, T m0 E 64 _ w3 (by omega), c1 hb, Option.bind_some]
   dsimp only
   rw [T m1 e1 63 _ h1 (by omega), c2 hb2, Option.bind_some]
 have D1 : stowageref16_Decode.j1 (k + 1 + 1 + 1 + 1 + 1 + 1) K s (m2 : Int) e2 K a1 a2 ⟨#[]⟩ 0 0 ⟨#[]⟩ = stowageref16_Decode.j2 (k + 1 + 1 + 1 + 1 + 1) K s (m3 : Int) e3 K a1 a2 a3 0 0 ⟨#[]⟩ := by
  rw [stowageref16_Decode.j1, hasKey_eq, Option.bind_some, ← f3]
  cases hb : nb (fb K) 4
  ·
   obtain ⟨rfl, rfl, rfl⟩ := b3 hb
   rw [if_neg (by decide)]
  ·
   rw [if_pos rfl, T m2 e2 1024 _ h2 (by omega), c3 hb, Option.bind_some]
 have D2 : stowageref16_Decode.j2 (k + 1 + 1 + 1 + 1 + 1) K s (m3 : Int) e3 K a1 a2 a3 0 0 ⟨#[]⟩ = stowageref16_Decode.j3 (k + 1 + 1 + 1 + 1) K s (m4 : Int) e4 K a1 a2 a3 a4 0 ⟨#[]⟩ := by
  rw [stowageref16_Decode.j2, hasID_eq, Option.bind_some, ← f4]
  cases hb : nb (fb K) 8
  ·
   obtain ⟨rfl, rfl, rfl⟩ := b4 hb
   rw [if_neg (by decide)]
  ·
   rw [if_pos rfl, I m3 e3 _ _ h3 (by omega) (by omega) (by omega), c4 hb, Option.bind_some]
 have D3 : stowageref16_Decode.j3 (k + 1 + 1 + 1 + 1) K s (m4 : Int) e4 K a1 a2 a3 a4 0 ⟨#[]⟩ = stowageref16_Decode.j4 (k + 1 + 1 + 1) K s (m5 : Int) e5 K a1 a2 a3 a4 a5 ⟨#[]⟩ := by
  rw [stowageref16_Decode.j3]
  cases hb : nb (fb K) 16
  ·
   obtain ⟨rfl, rfl, rfl⟩ := b5 hb
   rw [f5] at hb
   rw [if_neg (of_decide_eq_false hb)]
  ·
   have hb' := hb
   rw [f5] at hb'
   rw [if_pos (of_decide_eq_true hb'), I m4 e4 _ _ h4 (by omega) (by omega) (by omega), c5 hb, Option.bind_some]
 have D4 : stowageref16_Decode.j4 (k + 1 + 1 + 1) K s (m5 : Int) e5 K a1 a2 a3 a4 a5 ⟨#[]⟩ = stowageref16_Decode.j5 (k + 1 + 1) K s (m8 : Int) e8 K a1 a2 a3 a4 a5 a6 (ps.map refC) := by
  rw [stowageref16_Decode.j4, hasSum_eq, Option.bind_some, ← f6]
  cases hb : nb (fb K) 32
  ·
   have hb7 : nb (fb K) 64 = false := by rw [f7, ← f6]; exact hb
   obtain ⟨rfl, rfl, rfl⟩ := b6 hb
   obtain ⟨rfl, rfl, rfl⟩ := b7 hb7
   have g8' : cmd_Decode_l0 KK 0 s (m7 : Int) e7 [] = some (s, (m8 : Int), e8, [] ++ ps) := g8
   rw [cmd_Decode_l0] at g8'
   simp only [Option.some.injEq, Prod.mk.injEq, true_and, List.nil_append] at g8'
   obtain ⟨q1, rfl, rfl⟩ := g8'
   rw [if_neg (by decide), q1]
   rfl
  ·
   have hb7 : nb (fb K) 64 = true := by rw [f7, ← f6]; exact hb
   have hrd : stowageref13_Read.f (k + 1 + 1) s (m6 : Int) e6 = some (s, (m8 : Int), e8, ps.map refC) := by
    unfold stowageref13_Read.f
    rw [I m6 e6 512 _ h6 (by omega) (by omega) (by omega), c7 hb7, Option.bind_some]
    have := c8 0 n7.toNat (k + 1 + 1) (by omega) (by omega) (by omega)
    rw [Int.toNat_of_nonneg t7] at this
    exact this
   rw [if_pos rfl, T m5 e5 64 _ h5 (by omega), c6 hb, Option.bind_some]
   dsimp only
   rw [hrd, Option.bind_some]
 have D5 : stowageref16_Decode.j5 (k + 1 + 1) K s (m8 : Int) e8 K a1 a2 a3 a4 a5 a6 (ps.map refC) = stowageref16_Decode.j6 (k + 1) s (mA : Int) eA K a1 a2 a3 a4 a5 a6 (ps.map refC) (l.map refK) := by
  rw [stowageref16_Decode.j5]
  cases hb : nb (fb K) 128
  ·
   obtain ⟨rfl, rfl, rfl⟩ := b9 hb
   have gA' : cmd_Decode_l1 KK 0 s (m9 : Int) e9 [] = some (s, (mA : Int), eA, [] ++ l) := gA
   rw [cmd_Decode_l1] at gA'
   simp only [Option.some.injEq, Prod.mk.injEq, true_and, List.nil_append] at gA'
   obtain ⟨q1, rfl, rfl⟩ := gA'
   rw [f8] at hb
   rw [if_neg (of_decide_eq_false hb), q1]
   rfl
  ·
   have hb' := hb
   rw [f8] at hb'
   have hpk : stowageref16_picks.f (k + 1) s (m8 : Int) e8 = some (s, (mA : Int), eA, l.map refK) := by
    unfold stowageref16_picks.f
    rw [I m8 e8 100 _ h8 (by omega) (by omega) (by omega), c9 hb, Option.bind_some]
    have := cA 0 n9.toNat (k + 1) (by omega) (by omega) (by omega)
    rw [Int.toNat_of_nonneg t9] at this
    exact this
   rw [if_pos (of_decide_eq_true hb'), hpk, Option.bind_some]
 rw [D0, D1, D2, D3, D4, D5, stowageref16_Decode.j6]
 have sm : SmallCmd a1 a2 a3 a6 ps l := ⟨by omega, by omega, by omega, by omega, by omega, fun y hy => by have := t8 y hy; omega, by omega, fun y hy => by have := tA y hy; omega⟩
 have s6 : Small6 a6 l := ⟨by omega, fun y hy => by have := tA y hy; omega⟩
 rw [rcheck_eq K a1 a2 a3 a4 a5 a6 ps l sm s6 k (by omega), check_eq K a1 a2 a3 a4 a5 a6 ps l sm KK (by omega)]
 unfold octet_Reader_End.f stowageref01_Reader_End.f
 have no : ∀ x : Option (Int × ByteArray × ByteArray × ByteArray × Int × Int × ByteArray × List Piece × List Pick × Int), True := fun _ => trivial
 by_cases z : eA = 0
 ·
  rw [if_pos z, if_pos z]
  by_cases y : (mA : Int) < (s.size : Int)
  ·
   rw [if_pos y, if_pos y, Option.bind_some, Option.bind_some]
   exact ⟨0, ⟨#[]⟩, ⟨#[]⟩, ⟨#[]⟩, 0, 0, ⟨#[]⟩, [], [], 3, rfl, rfl, by decide, by decide⟩
  ·
   rw [if_neg y, if_neg y]
   by_cases hc : CK K a1 a2 a3 a4 a5 a6 ps l
   ·
    simp only [Option.bind_some, z, if_pos hc, eq_self_iff_true, if_true]
    exact ⟨_, _, _, _, _, _, _, _, _, _, rfl, rfl, by omega, by omega⟩
   ·
    simp only [Option.bind_some, z, if_neg hc, eq_self_iff_true, if_true, show ¬ ((1 : Int) = 0) from by decide, if_false]
    exact ⟨0, ⟨#[]⟩, ⟨#[]⟩, ⟨#[]⟩, 0, 0, ⟨#[]⟩, [], [], 3, rfl, rfl, by decide, by decide⟩
 ·
  rw [if_neg z, if_neg z]
  simp only [Option.bind_some, if_neg z]
  exact ⟨0, ⟨#[]⟩, ⟨#[]⟩, ⟨#[]⟩, 0, 0, ⟨#[]⟩, [], [], 3, rfl, rfl, by decide, by decide⟩
theorem CmdReads_true (s : ByteArray) (hs : s.size ≤ 1073741824) : ∃ k, stowagelaw16_CmdReads.f k s = some true := by
 refine ⟨9223372036854775900, ?_⟩
 obtain ⟨a0, a1, a2, a3, a4, a5, a6, ps, l, e, h1, h2, h3, h4⟩ := both s hs 9223372036854775900 (Nat.le_refl _)
 unfold stowagelaw16_CmdReads.f
 rw [if_pos]
 unfold stowagelaw16_CmdReads.F
 exact ⟨_, _, _, _, _, _, _, _, _, _, _, _, _, _, _, _, _, _, _, _, _, _, _, _, _, _, _, _, h1, h2, awake_true _ (by omega), Ref_eq2 a0 a1 a2 a3 a4 a5 a6 ps l h3 h4 _ (by omega), Same_self a0 a1 a2 a3 a4 a5 a6 _ _ (by rw [List.length_map]; exact h3) (by rw [List.length_map]; exact h4) _ (by omega)⟩
end Go.Proofs.YtdidopoalmkhlaaDoor.Pure
end
section
/- CmdReads, second form: what the program reads of any text is what the document reads. Its conditions: those of the given card. -/
namespace Go.Proofs.YtdidopoalmkhlaaDoor.cmdReads
open Go.ChangeShapes Go.WideShapes Go.ChangeAt Go.RowKit Go.Proofs.YtdidopoalmkhlaaDoor.Or Go.Proofs.YtdidopoalmkhlaaDoorW.PrintWords
open Go.ChangeMaps (open_string shut_string)
set_option linter.unusedVariables false
set_option linter.unusedSimpArgs false
theorem own : ownKnob Tryd.prog.godebug = none := by kernel_rfl
set_option maxRecDepth 100000 in
/-- What the walk gives, for every argument and every world: the same for both forms. -/
theorem contract (H : Type) (enc : TypeId × Value → H) (W : World) (base : Nat) (args : Array Value) (ds gs : List (DataW H)) (before : List MemPlace)
  (hval : ∀ (j : Nat) t v, Tryd.f4.params[j]? = some t → args[j]? = some v → Value.okWide Tryd.prog W .any base t v)
  (hW : DataW.Whole enc Tryd.prog Tryd.f4.params.toList Rows.cmdReadsSpec.vars false W args.toList ds gs before)
  (hsz : (DataW.weightsEach Tryd.prog (Tryd.f4.params.toList ++ (OpenSpec.ofChange Rows.cmdReadsSpec).bare.plain.varTypes Tryd.prog) (ds ++ gs)).all (· ≤ reachBytes) = true) (hcond : ∀ k, (Rows.OpenSpec.upto Rows.cmdReadsSpec).cond = some k → k H (ds ++ gs) = true) (hG : GG W) :
  Calls Tryd.prog 4 args W fun e W' => ∃ v, e = .returned v ∧ Rows.cmdReadsSpec.post enc Tryd.prog Tryd.f4 false true false false W args v W' := by
 have hW' := hW
 obtain ⟨p, q, hA0, hV, rfl, hfz, hnd⟩ := hW
 have hA : DataW.TrodAll enc Tryd.prog W 0 (fun _ => true) true Tryd.f4.params.toList args.toList ds p := hA0
 rw [Tryd.params4] at hA hval hsz
 obtain ⟨v0, vs0, d0, ds0, p0, q0, hargs, rfl, rfl, h0, r0⟩ := trodAll_cons hA
 obtain ⟨rfl, rfl, rfl⟩ := trodAll_nil r0
 obtain rfl : args = #[v0] := by cases args; simp_all
 obtain ⟨rfl, rfl⟩ := trodVars_none hV
 obtain ⟨a0, rfl, rfl, rfl, y0⟩ := open_string Tryd.underlying9 (hval 0 9 v0 rfl rfl) h0
 have hup := hcond _ rfl
 simp only [Rows.uptoSmall, decide_eq_true_eq, List.cons_append, List.nil_append, Rows.uptoBulkAll, Rows.uptoBulk] at hup
 have e0 := Array.length_toList (xs := a0.data)
 have g0 : a0.data.size = a0.size := rfl
 obtain ⟨k, hk⟩ := Pure.CmdReads_true a0 (by omega)
 refine (stowagelaw16_CmdReads.calls k a0 true W  hk hG).mono fun e W' ⟨he, bel⟩ => ?_
 subst he
 exact ⟨_, rfl, _, _, _, [], _, [], hW', trodAll_mk1 (shut_bool Tryd.underlying4 _), (trodAll_cons_mk (shut_string Tryd.underlying9 y0) trodAll_mk0), rfl, bel.frame _, fun h => by cases h⟩
/-- The cells of a datum without pointers. -/
def flat : DataW Unit → List Value
 | .lit (.int k n) => [.int k n]
 | .agg xs => flats xs
 | _ => []
where flats : List (DataW Unit) → List Value
 | [] => []
 | x :: xs => flat x ++ flats xs
def put (cs : List Value) : Obj → Obj
 | .cells _ t z => .cells cs.toArray t z
 | ob => ob
/-- A world for the witness: the listed tables hold what their text lays. -/
noncomputable def laidWorld (os : Os) : World :=
 { World.holding Tryd.prog os ⟨#[], #[], []⟩ with heap := Rows.cmdReadsUptoRow.laid.foldl (fun h x => match Tryd.prog.globalNamed x.1 with | some g => h.modify g (put (flat x.2)) | none => h) (World.holding Tryd.prog os ⟨#[], #[], []⟩).heap }
theorem laid_met (os : Os) : laidMet Tryd.prog Rows.cmdReadsUptoRow.laid ((laidWorld os).forCall (fun _ _ => 0) ⟨#[], #[.string ByteArray.empty], []⟩).memory :=
 laidMet_of_run3 8 (by kernel_rfl) (by kernel_rfl) (by kernel_rfl)
theorem reads (os : Os) {H : Type} (enc : TypeId × Value → H) : ∃ places, DataW.whole enc Tryd.prog ((laidWorld os).forCall (fun _ _ => 0) ⟨#[], #[.string ByteArray.empty], []⟩).memory Tryd.f4.params.toList Rows.cmdReadsSpec.vars false (#[.string ByteArray.empty] : Array Value).toList 8 = some ([.lit (.string [])], [], places) :=
 ⟨[], by kernel_rfl⟩
set_option maxRecDepth 100000 in
theorem lifted (os : Os) (started : os.Started) (H : Type) (enc : TypeId × Value → H) (F : Stop.Interp) :
  ReturnsInHanded {} Tryd.checked os 4 .any ((Rows.OpenSpec.upto Rows.cmdReadsSpec).preRow enc Tryd.prog Tryd.f4 Rows.cmdReadsUptoRow.domain false Rows.cmdReadsUptoRow.laid) (((Rows.OpenSpec.upto Rows.cmdReadsSpec).at F).post enc Tryd.prog Tryd.f4 false true false false) := by
 obtain ⟨places, hx⟩ := reads os enc
 refine returnsInHanded_of_row (C := Tryd.checked) (s := (Rows.OpenSpec.upto Rows.cmdReadsSpec)) own started (by kernel_rfl) Tryd.func4
  (witness_row_at (enc := enc) (C := Tryd.checked) false (laidWorld os) #[.string ByteArray.empty] rfl (by kernel_rfl) (by kernel_rfl) (by kernel_rfl)
   (OpenSpec.preRow_of_cond 8 hx (by kernel_rfl) (fun k hk => by cases hk; kernel_rfl) (by kernel_rfl) (laid_met os))) ?_
 intro W base args ds gs before hval hW _ hcond hsz hlaid hsh _
 exact contract H enc W base args ds gs before hval hW hsz hcond ⟨KO.table_of_laid hlaid, (Go.Proofs.cell_of_shapedOpen_int (zero := #[.int .i64 0]) (t := 3) hsh (of_decide_eq_true (by kernel_rfl)) (by kernel_rfl) rfl (by kernel_rfl) (by kernel_rfl) Tryd.underlying3)⟩
theorem said : Rows.CmdReadsUptoSaid :=
 OpenClaim.holds_of_cond 4 Tryd.f4 rfl rfl rfl rfl rfl rfl rfl ⟨rfl, rfl, rfl, rfl, rfl⟩ rfl rfl rfl rfl rfl (by kernel_rfl) Tryd.func4 (by kernel_rfl)
  (of_decide_eq_true (by kernel_rfl)) (by unfold Func.isWrapper; first | (rw [if_pos (by decide +kernel)]; kernel_rfl) | (rw [if_neg (by decide +kernel)]; exact ⟨rfl, rfl⟩))
  (fun os started H enc _ F => by rw [OpenClaim.pre_eq_preRow]; exact lifted os started H enc F)
/-- No parameter wants a stand-in; the program's own looks are off: what the card asks. -/
theorem plain (f : FuncId) (fn : Func) (hf : Tryd.pinned.checked.prog.funcNamed "stowage/stowagelaw16.CmdReads" = some f) (hfn : Tryd.pinned.checked.prog.funcs[f]? = some fn) :
  false = Tryd.pinned.checked.prog.looks [] ∧ ∀ (j : Nat) t, fn.params[j]? = some t → Tryd.pinned.checked.prog.wantsStandIn t = false := by
 obtain rfl : f = 4 := Option.some.inj ((show Tryd.prog.funcNamed "stowage/stowagelaw16.CmdReads" = some 4 by kernel_rfl).symm.trans hf) |>.symm
 obtain rfl : fn = Tryd.f4 := (Option.some.inj (Tryd.func4.symm.trans hfn)).symm
 refine ⟨by kernel_rfl, fun j t ht => ?_⟩
 rw [Tryd.params4] at ht
 have hm := Array.mem_of_getElem? ht
 simp only [List.mem_toArray, List.mem_cons, List.not_mem_nil, or_false] at hm
 rcases hm with rfl
 ·
  exact (show Tryd.prog.wantsStandIn 9 = false by kernel_rfl)
/-- The card. -/
theorem card : Rows.CmdReadsUptoCardSaid :=
 Claim7.holds_tied_plain_at .later [] _ _ _ _ said (fun _ h => by cases h) (by kernel_rfl) (fun _ h => by cases h) cmdReadsUpto_row_tie rfl ⟨rfl, rfl⟩ (by kernel_rfl) rfl plain (by kernel_rfl)
end Go.Proofs.YtdidopoalmkhlaaDoor.cmdReads
namespace Go.Proofs.YtdidopoalmkhlaaDoor
theorem cmdReads_cardUpto : Rows.CmdReadsUptoCardSaid := cmdReads.card
end Go.Proofs.YtdidopoalmkhlaaDoor
end
