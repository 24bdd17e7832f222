/- Merged of several texts of this session's by merge.py. -/
import Derived.Test.YtdidopoalmkhlaaDoorMa6
import Derived.KernelRfl
import Derived.ProofKit
import Derived.OpenShut
import Derived.Test.YtdidopoalmkhlaaDoorMa3
import Derived.Test.YtdidopoalmkhlaaDoorCards
import Derived.Test.YtdidopoalmkhlaaDoorTie
import Derived.WalkKit
import Derived.Below
import Derived.Carry
import Derived.Deep.DeepHandedRow
import Derived.Deep.DeepLaidRun
import Derived.Test.YtdidopoalmkhlaaDoorMa2
import Derived.HandedShaped
section
namespace Go.Proofs.YtdidopoalmkhlaaDoor.Pure
open Go.RowKit Go.Proofs.YtdidopoalmkhlaaDoor.Od Go.Proofs.YtdidopoalmkhlaaDoorW.PrintWords Go.Proofs.YtdidopoalmkhlaaDoorW.PrintLast Go.Proofs.YtdidopoalmkhlaaDoorW.PrintMore
set_option linter.unusedVariables false
set_option linter.unusedSimpArgs false
theorem al (a b : ByteArray) : (a ++ b).data.toList = a.data.toList ++ b.data.toList := by
 rw [ByteArray.data_append, Array.toList_append]
theorem ba_empty (a : ByteArray) (h : a.size = 0) : a = ⟨#[]⟩ := ((ba_nil a).2 h).symm
theorem nil_app (s : ByteArray) : s ++ (⟨#[]⟩ : ByteArray) = s := by
 apply ByteArray.ext; apply Array.ext'; rw [al]; exact List.append_nil _
theorem list_ext (a b : ByteArray) (h : a.data.toList = b.data.toList) : a = b := by
 apply ByteArray.ext; exact Array.ext' h
structure Bd (a0 : Int) (a1 a2 a3 : ByteArray) (a4 a5 : Int) (a6 : ByteArray) (ps : List Piece) (l : List Pick) : Prop where
 k0 : 1 ≤ a0 ∧ a0 ≤ 10
 b1 : a1.size ≤ 64
 b2 : a2.size ≤ 63
 b3 : a3.size ≤ 1024
 b4 : 0 ≤ a4 ∧ a4 ≤ 1099511627776
 b5 : 0 ≤ a5 ∧ a5 ≤ 100
 b6 : a6.size ≤ 64
 hp : ps.length ≤ 512
 bp : ∀ y ∈ ps, y.f0.size ≤ 64 ∧ 1 ≤ y.f1 ∧ y.f1 ≤ 4096
 hl : l.length ≤ 100
 bl : ∀ y ∈ l, y.f1.size ≤ 64 ∧ 0 ≤ y.f0 ∧ y.f0 ≤ 100
theorem D_size (a : ByteArray) (h : D a = true) : a.size = 64 := by
 unfold D at h
 rw [Bool.and_eq_true, decide_eq_true_eq] at h
 exact h.2
theorem pcs_all : ∀ (l : List Piece) (s : Int), (pcs l s).2 = 0 → ∀ y ∈ l, y.f0.size ≤ 64 ∧ 1 ≤ y.f1 ∧ y.f1 ≤ 4096
 | [], _, _, y, hy => by cases hy
 | x :: r, s, h, y, hy => by
  rw [pcs] at h
  by_cases hc : D x.f0 = true ∧ 1 ≤ x.f1 ∧ x.f1 ≤ 4096
  ·
   rw [if_pos hc] at h
   rcases List.mem_cons.1 hy with rfl | hy
   ·
    exact ⟨Nat.le_of_eq (D_size _ hc.1), hc.2⟩
   ·
    exact pcs_all r _ h y hy
  ·
   rw [if_neg hc] at h; exact absurd h (by decide)
theorem CK_bd {a0 : Int} {a1 a2 a3 : ByteArray} {a4 a5 : Int} {a6 : ByteArray} {ps : List Piece} {l : List Pick} (h : CK a0 a1 a2 a3 a4 a5 a6 ps l) : Bd a0 a1 a2 a3 a4 a5 a6 ps l := by
 obtain ⟨h0, ⟨z1, z2, z3, z4, z5, z6, z7, z8⟩, ht, ⟨r1, r2, r3, r4, r5⟩, ⟨q1, q2, q3, q4, q5, q6, q7⟩, hk⟩ := h
 have hpl : ps.length ≤ 512 ∧ (pcs ps 0).2 = 0 := by
  unfold Pc at r4
  by_cases hl : 512 < ps.length
  ·
   rw [if_pos hl] at r4; exact absurd r4 (by decide)
  ·
   rw [if_neg hl] at r4; exact ⟨by omega, r4⟩
 refine ⟨by have := fb_kind a0 h0; omega, ?_, ?_, ?_, ⟨q1, q2⟩, ⟨q4, q5⟩, ?_, hpl.1, pcs_all ps 0 hpl.2, q7, ?_⟩
 ·
  by_cases e : a1.size = 0
  ·
   omega
  ·
   have := ht e; unfold tokOk at this; simp only [Bool.and_eq_true, decide_eq_true_eq] at this; omega
 ·
  by_cases e : ba (fb a0) 2 = 0
  ·
   have := z2 e; omega
  ·
   have := r1 e; unfold bucketOk at this; simp only [Bool.and_eq_true, decide_eq_true_eq] at this; omega
 ·
  by_cases e : ba (fb a0) 4 = 0
  ·
   have := z3 e; omega
  ·
   have := r2 e; unfold keyOk at this; simp only [Bool.and_eq_true, decide_eq_true_eq] at this; omega
 ·
  by_cases e : ba (fb a0) 32 = 0
  ·
   have := z6 e; omega
  ·
   have := D_size _ (r3 e); omega
 ·
  intro y hy
  have := List.all_eq_true.1 hk y hy
  unfold pk at this
  simp only [Bool.and_eq_true, decide_eq_true_eq] at this
  exact ⟨Nat.le_of_eq (D_size _ this.2), this.1⟩
def ot (b : Bool) (t : ByteArray) : ByteArray := if b = true then txt t else ⟨#[]⟩
def on (b : Bool) (n : Int) : ByteArray := if b = true then num n else ⟨#[]⟩
def tpB : List Piece → ByteArray
 | [] => ⟨#[]⟩
 | y :: r => (txt y.f0 ++ num y.f1) ++ tpB r
def tkB : List Pick → ByteArray
 | [] => ⟨#[]⟩
 | y :: r => (num y.f0 ++ txt y.f1) ++ tkB r
abbrev nb (f bit : Int) : Bool := Go.bits .and .i64 f bit != 0
def toldB (a0 : Int) (a1 a2 a3 : ByteArray) (a4 a5 : Int) (a6 : ByteArray) (ps : List Piece) (l : List Pick) : ByteArray :=
 num a0 ++ ot (nb (fb a0) 1) a1 ++ ot (nb (fb a0) 2) a2 ++ ot (nb (fb a0) 4) a3 ++ on (nb (fb a0) 8) a4 ++ on (nb (fb a0) 16) a5 ++ ot (nb (fb a0) 32) a6 ++ on (nb (fb a0) 64) (ps.length : Int) ++ tpB ps ++ on (nb (fb a0) 128) (l.length : Int) ++ tkB l
theorem ot_size (b : Bool) (t : ByteArray) : (ot b t).size ≤ t.size + 10 := by
 unfold ot; have := txt_size t; split
 ·
  exact this
 ·
  exact Nat.zero_le _
theorem on_size (b : Bool) (n : Int) : (on b n).size ≤ 10 := by
 unfold on; have := num_size n; split
 ·
  exact this
 ·
  exact Nat.zero_le _
theorem tpB_size : ∀ (l : List Piece), (∀ y ∈ l, y.f0.size ≤ 64) → (tpB l).size ≤ 84 * l.length
 | [], _ => Nat.le_refl _
 | y :: r, h => by
  have h1 := tpB_size r (fun z hz => h z (List.mem_cons_of_mem _ hz))
  have h2 := txt_size y.f0
  have h3 := num_size y.f1
  have h4 := h y List.mem_cons_self
  rw [tpB, ByteArray.size_append, ByteArray.size_append, List.length_cons]
  omega
theorem tkB_size : ∀ (l : List Pick), (∀ y ∈ l, y.f1.size ≤ 64) → (tkB l).size ≤ 84 * l.length
 | [], _ => Nat.le_refl _
 | y :: r, h => by
  have h1 := tkB_size r (fun z hz => h z (List.mem_cons_of_mem _ hz))
  have h2 := txt_size y.f1
  have h3 := num_size y.f0
  have h4 := h y List.mem_cons_self
  rw [tkB, ByteArray.size_append, ByteArray.size_append, List.length_cons]
  omega
theorem told_txt (k : Nat) (b : Bool) (s t : ByteArray) (ht : t.size ≤ 1073741824) (hs : s.size ≤ 1073741824) (hk : 10 ≤ k) : cmd_told_txt k b s t = some (s ++ ot b t) := by
 unfold cmd_told_txt ot
 have := txt_size t
 cases b with
 | false => rw [if_neg (by decide), if_neg (by decide), nil_app]
 | true => rw [if_pos rfl, if_pos rfl, oct_Text t ht k hk, Option.bind_some, if_pos (by omega)]
theorem told_num (k : Nat) (b : Bool) (s : ByteArray) (n : Int) (h0 : 0 ≤ n) (h1 : n ≤ 9223372036854775807) (hs : s.size ≤ 1073741824) (hk : 10 ≤ k) : cmd_told_num k b s n = some (s ++ on b n) := by
 unfold cmd_told_num on
 have := num_size n
 cases b with
 | false => rw [if_neg (by decide), if_neg (by decide), nil_app]
 | true => rw [if_pos rfl, if_pos rfl, IntWalk.u64_in n (by omega), oct_Number n h0 (by omega) k hk, Option.bind_some, if_pos (by omega)]
theorem told_l0 (k : Nat) (hk : 10 ≤ k) : ∀ (l : List Piece) (s : ByteArray), (∀ y ∈ l, y.f0.size ≤ 64 ∧ 1 ≤ y.f1 ∧ y.f1 ≤ 4096) → s.size + 84 * l.length ≤ 1073741824 → cmd_told_l0 k l s = some (s ++ tpB l)
 | [], s, _, _ => by rw [cmd_told_l0, tpB, nil_app]
 | y :: r, s, h, hs => by
  have hy := h y List.mem_cons_self
  have h2 := txt_size y.f0
  have h3 := num_size y.f1
  rw [List.length_cons] at hs
  have hz : (txt y.f0 ++ num y.f1).size ≤ 84 := by rw [ByteArray.size_append]; omega
  rw [cmd_told_l0, oct_Text y.f0 (by omega) k hk, Option.bind_some, IntWalk.u64_in y.f1 (by omega), oct_Number y.f1 (by omega) (by omega) k hk, Option.bind_some, if_pos (by omega), if_pos (by omega),
   told_l0 k hk r _ (fun z hz => h z (List.mem_cons_of_mem _ hz)) (by rw [ByteArray.size_append]; omega), tpB, ba_assoc]
theorem told_l1 (k : Nat) (hk : 10 ≤ k) : ∀ (l : List Pick) (s : ByteArray), (∀ y ∈ l, y.f1.size ≤ 64 ∧ 0 ≤ y.f0 ∧ y.f0 ≤ 100) → s.size + 84 * l.length ≤ 1073741824 → cmd_told_l1 k l s = some (s ++ tkB l)
 | [], s, _, _ => by rw [cmd_told_l1, tkB, nil_app]
 | y :: r, s, h, hs => by
  have hy := h y List.mem_cons_self
  have h2 := txt_size y.f1
  have h3 := num_size y.f0
  rw [List.length_cons] at hs
  have hz : (num y.f0 ++ txt y.f1).size ≤ 84 := by rw [ByteArray.size_append]; omega
  rw [cmd_told_l1, IntWalk.u64_in y.f0 (by omega), oct_Number y.f0 (by omega) (by omega) k hk, Option.bind_some, oct_Text y.f1 (by omega) k hk, Option.bind_some, if_pos (by omega), if_pos (by omega),
   told_l1 k hk r _ (fun z hz => h z (List.mem_cons_of_mem _ hz)) (by rw [ByteArray.size_append]; omega), tkB, ba_assoc]
theorem told_eq {a0 : Int} {a1 a2 a3 : ByteArray} {a4 a5 : Int} {a6 : ByteArray} {ps : List Piece} {l : List Pick} (h : Bd a0 a1 a2 a3 a4 a5 a6 ps l) (k : Nat) (hk : 20 ≤ k) :
  cmd_told.f k a0 a1 a2 a3 a4 a5 a6 ps l = some (toldB a0 a1 a2 a3 a4 a5 a6 ps l) ∧ (toldB a0 a1 a2 a3 a4 a5 a6 ps l).size ≤ 100000 := by
 have q0 := num_size a0
 have q1 := ot_size (nb (fb a0) 1) a1
 have q2 := ot_size (nb (fb a0) 2) a2
 have q3 := ot_size (nb (fb a0) 4) a3
 have q4 := on_size (nb (fb a0) 8) a4
 have q5 := on_size (nb (fb a0) 16) a5
 have q6 := ot_size (nb (fb a0) 32) a6
 have q7 := on_size (nb (fb a0) 64) (ps.length : Int)
 have q8 := tpB_size ps (fun y hy => (h.bp y hy).1)
 have q9 := on_size (nb (fb a0) 128) (l.length : Int)
 have q10 := tkB_size l (fun y hy => (h.bl y hy).1)
 obtain ⟨k0, b1, b2, b3, b4, b5, b6, hp, bp, hl, bl⟩ := h
 constructor
 ·
  unfold cmd_told.f toldB
  rw [fields_eq a0 k (by omega), Option.bind_some, IntWalk.u64_in a0 (by omega), oct_Number a0 (by omega) (by omega) k (by omega), Option.bind_some]
  show ((cmd_told_txt k (nb (fb a0) 1) (num a0) a1).bind fun s1 => (cmd_told_txt k (nb (fb a0) 2) s1 a2).bind fun s2 => (cmd_told_txt k (nb (fb a0) 4) s2 a3).bind fun s3 => (cmd_told_num k (nb (fb a0) 8) s3 a4).bind fun s4 => (cmd_told_num k (nb (fb a0) 16) s4 a5).bind fun s5 => (cmd_told_txt k (nb (fb a0) 32) s5 a6).bind fun s6 => (cmd_told_num k (nb (fb a0) 64) s6 (ps.length : Int)).bind fun s7 => (cmd_told_l0 k ps s7).bind fun s8 => (cmd_told_num k (nb (fb a0) 128) s8 (l.length : Int)).bind fun s9 => cmd_told_l1 k l s9) = _
  generalize nb (fb a0) 1 = c1 at *
  generalize nb (fb a0) 2 = c2 at *
  generalize nb (fb a0) 4 = c3 at *
  generalize nb (fb a0) 8 = c4 at *
  generalize nb (fb a0) 16 = c5 at *
  generalize nb (fb a0) 32 = c6 at *
  generalize nb (fb a0) 64 = c7 at *
  generalize nb (fb a0) 128 = c8 at *
  rw [told_txt k _ _ a1 (by omega) (by omega) (by omega), Option.bind_some]
  rw [told_txt k _ _ a2 (by omega) (by rw [ByteArray.size_append]; omega) (by omega), Option.bind_some]
  rw [told_txt k _ _ a3 (by omega) (by rw [ByteArray.size_append, ByteArray.size_append]; omega) (by omega), Option.bind_some]
  rw [told_num k _ _ a4 (by omega) (by omega) (by rw [ByteArray.size_append, ByteArray.size_append, ByteArray.size_append]; omega) (by omega), Option.bind_some]
  rw [told_num k _ _ a5 (by omega) (by omega) (by rw [ByteArray.size_append, ByteArray.size_append, ByteArray.size_append, ByteArray.size_append]; omega) (by omega), Option.bind_some]
  rw [told_txt k _ _ a6 (by omega) (by rw [ByteArray.size_append, ByteArray.size_append, ByteArray.size_append, ByteArray.size_append, ByteArray.size_append]; omega) (by omega), Option.bind_some]
  rw [told_num k _ _ (ps.length : Int) (by omega) (by omega) (by rw [ByteArray.size_append, ByteArray.size_append, ByteArray.size_append, ByteArray.size_append, ByteArray.size_append, ByteArray.size_append]; omega) (by omega), Option.bind_some]
  rw [told_l0 k (by omega) ps _ bp (by rw [ByteArray.size_append, ByteArray.size_append, ByteArray.size_append, ByteArray.size_append, ByteArray.size_append, ByteArray.size_append, ByteArray.size_append]; omega), Option.bind_some]
  rw [told_num k _ _ (l.length : Int) (by omega) (by omega) (by rw [ByteArray.size_append, ByteArray.size_append, ByteArray.size_append, ByteArray.size_append, ByteArray.size_append, ByteArray.size_append, ByteArray.size_append, ByteArray.size_append]; omega) (by omega), Option.bind_some]
  refine told_l1 k (by omega) l _ bl ?_
  rw [ByteArray.size_append, ByteArray.size_append, ByteArray.size_append, ByteArray.size_append, ByteArray.size_append, ByteArray.size_append, ByteArray.size_append, ByteArray.size_append, ByteArray.size_append]
  omega
 ·
  unfold toldB
  rw [ByteArray.size_append, ByteArray.size_append, ByteArray.size_append, ByteArray.size_append, ByteArray.size_append, ByteArray.size_append, ByteArray.size_append, ByteArray.size_append, ByteArray.size_append, ByteArray.size_append]
  omega
theorem dec_txt (k : Nat) (hk : 30 ≤ k) (c : Bool) (s t : ByteArray) (a : Nat) (most : Int) (rest : List UInt8) (hs : s.size ≤ 1073741824) (ha : a ≤ s.size) (ht : t.size ≤ 1073741824) (hm : (t.size : Int) ≤ most) (hc : c = false → t.size = 0) (h : s.data.toList.drop a = (ot c t).data.toList ++ rest) :
  cmd_Decode_txt k (!c) s (a : Int) 0 most = some (t, s, ((a + (ot c t).size : Nat) : Int), 0) ∧ s.data.toList.drop (a + (ot c t).size) = rest ∧ a + (ot c t).size ≤ s.size := by
 unfold cmd_Decode_txt
 cases c with
 | false =>
  obtain rfl := ba_empty t (hc rfl)
  exact ⟨rfl, h, ha⟩
 | true =>
  have e : ot true t = txt t := rfl
  rw [e] at h ⊢
  rw [Bool.not_true, if_neg (by decide), oct_RText s a hs ha 0 most k hk, xt_back s t a most rest ht hm h]
  refine ⟨rfl, ?_, ?_⟩
  ·
   have := drop_add _ _ _ _ h; rwa [len_eq] at this
  ·
   have := size_le s a _ _ (txt_pos t) h; rwa [len_eq] at this
theorem dec_num (k : Nat) (hk : 30 ≤ k) (c : Bool) (s : ByteArray) (n : Int) (a : Nat) (most : Int) (rest : List UInt8) (hs : s.size ≤ 1073741824) (ha : a ≤ s.size) (h0 : 0 ≤ n) (hm : n ≤ most) (hM : most ≤ 9223372036854775807) (hc : c = false → n = 0) (h : s.data.toList.drop a = (on c n).data.toList ++ rest) :
  cmd_Decode_num k (!c) s (a : Int) 0 most = some (n, s, ((a + (on c n).size : Nat) : Int), 0) ∧ s.data.toList.drop (a + (on c n).size) = rest ∧ a + (on c n).size ≤ s.size := by
 unfold cmd_Decode_num
 cases c with
 | false =>
  obtain rfl := hc rfl
  exact ⟨rfl, h, ha⟩
 | true =>
  have e : on true n = num n := rfl
  rw [e] at h ⊢
  rw [Bool.not_true, if_neg (by decide), oct_RInt s a hs ha 0 most (by omega) hM k hk, xn_back s a n most rest h0 (by omega) hm h]
  refine ⟨rfl, ?_, ?_⟩
  ·
   have := drop_add _ _ _ _ h; rwa [len_eq] at this
  ·
   have := size_le s a _ _ (num_pos n) h; rwa [len_eq] at this
theorem dec_l0 (k : Nat) (hk : 30 ≤ k) (s : ByteArray) (hs : s.size ≤ 1073741824) : ∀ (l : List Piece) (a : Nat) (acc : List Piece) (rest : List UInt8), a ≤ s.size → acc.length + l.length ≤ 1048576 → (∀ y ∈ l, y.f0.size ≤ 64 ∧ 1 ≤ y.f1 ∧ y.f1 ≤ 4096) → s.data.toList.drop a = (tpB l).data.toList ++ rest →
  cmd_Decode_l0 k l.length s (a : Int) 0 acc = some (s, ((a + (tpB l).size : Nat) : Int), 0, acc ++ l) ∧ s.data.toList.drop (a + (tpB l).size) = rest ∧ a + (tpB l).size ≤ s.size
 | [], a, acc, rest, ha, _, _, h => by rw [List.append_nil]; exact ⟨rfl, h, ha⟩
 | y :: r, a, acc, rest, ha, hn, hb, h => by
  have hy := hb y List.mem_cons_self
  rw [tpB, al, al, List.append_assoc, List.append_assoc] at h
  have d1 := drop_add _ _ _ _ h
  rw [len_eq] at d1
  have d2 := drop_add _ _ _ _ d1
  rw [len_eq] at d2
  have s1 := size_le s a _ _ (txt_pos y.f0) h
  rw [len_eq] at s1
  have s2 := size_le s _ _ _ (num_pos y.f1) d1
  rw [len_eq] at s2
  rw [List.length_cons] at hn
  have ih := dec_l0 k hk s hs r (a + (txt y.f0).size + (num y.f1).size) (acc ++ [⟨y.f0, y.f1⟩]) rest s2 (by rw [List.length_append, List.length_cons, List.length_nil]; omega) (fun z hz => hb z (List.mem_cons_of_mem _ hz)) d2
  rw [List.length_cons, cmd_Decode_l0, oct_RText s a hs ha 0 64 k hk, xt_back s y.f0 a 64 _ (by omega) (by omega) h, Option.bind_some]
  show (octet_Reader_Int.f k s ((a + (txt y.f0).size : Nat) : Int) 0 4096).bind _ = _ ∧ _
  rw [oct_RInt s _ hs s1 0 4096 (by omega) (by omega) k hk, xn_back s _ y.f1 4096 _ (by omega) (by omega) (by omega) d1, Option.bind_some, if_pos (by omega)]
  have e : (tpB (y :: r)).size = (txt y.f0).size + (num y.f1).size + (tpB r).size := by rw [tpB, ByteArray.size_append, ByteArray.size_append]
  have e2 : a + (txt y.f0).size + (num y.f1).size + (tpB r).size = a + (tpB (y :: r)).size := by omega
  rw [e2, List.append_assoc] at ih
  exact ih
theorem dec_l1 (k : Nat) (hk : 30 ≤ k) (s : ByteArray) (hs : s.size ≤ 1073741824) : ∀ (l : List Pick) (a : Nat) (acc : List Pick) (rest : List UInt8), a ≤ s.size → acc.length + l.length ≤ 1048576 → (∀ y ∈ l, y.f1.size ≤ 64 ∧ 0 ≤ y.f0 ∧ y.f0 ≤ 100) → s.data.toList.drop a = (tkB l).data.toList ++ rest →
  cmd_Decode_l1 k l.length s (a : Int) 0 acc = some (s, ((a + (tkB l).size : Nat) : Int), 0, acc ++ l) ∧ s.data.toList.drop (a + (tkB l).size) = rest ∧ a + (tkB l).size ≤ s.size
 | [], a, acc, rest, ha, _, _, h => by rw [List.append_nil]; exact ⟨rfl, h, ha⟩
 | y :: r, a, acc, rest, ha, hn, hb, h => by
  have hy := hb y List.mem_cons_self
  rw [tkB, al, al, List.append_assoc, List.append_assoc] at h
  have d1 := drop_add _ _ _ _ h
  rw [len_eq] at d1
  have d2 := drop_add _ _ _ _ d1
  rw [len_eq] at d2
  have s1 := size_le s a _ _ (num_pos y.f0) h
  rw [len_eq] at s1
  have s2 := size_le s _ _ _ (txt_pos y.f1) d1
  rw [len_eq] at s2
  rw [List.length_cons] at hn
  have ih := dec_l1 k hk s hs r (a + (num y.f0).size + (txt y.f1).size) (acc ++ [⟨y.f0, y.f1⟩]) rest s2 (by rw [List.length_append, List.length_cons, List.length_nil]; omega) (fun z hz => hb z (List.mem_cons_of_mem _ hz)) d2
  rw [List.length_cons, cmd_Decode_l1, oct_RInt s a hs ha 0 100 (by omega) (by omega) k hk, xn_back s a y.f0 100 _ (by omega) (by omega) (by omega) h, Option.bind_some]
  show (octet_Reader_Text.f k s ((a + (num y.f0).size : Nat) : Int) 0 64).bind _ = _ ∧ _
  rw [oct_RText s _ hs s1 0 64 k hk, xt_back s y.f1 _ 64 _ (by omega) (by omega) d1, Option.bind_some, if_pos (by omega)]
  have e : (tkB (y :: r)).size = (num y.f0).size + (txt y.f1).size + (tkB r).size := by rw [tkB, ByteArray.size_append, ByteArray.size_append]
  have e2 : a + (num y.f0).size + (txt y.f1).size + (tkB r).size = a + (tkB (y :: r)).size := by omega
  rw [e2, List.append_assoc] at ih
  exact ih
theorem nb_not (f bit : Int) : (Go.bits .and .i64 f bit == 0) = !(nb f bit) := by
 unfold nb bne; rw [Bool.not_not]
theorem nb_zero {f bit : Int} (h : nb f bit = false) : ba f bit = 0 := by
 unfold nb bne at h
 cases e : Go.bits .and .i64 f bit == 0
 ·
  rw [e] at h; cases h
 ·
  exact beq_iff_eq.1 e
theorem Decode_eq (k : Nat) (hk : 40 ≤ k) (s : ByteArray) (hs : s.size ≤ 1073741824) : cmd_Decode.f k s =
  ((cmd_Decode_txt k (!nb (fb (xn s 0 0 10).1) 1) s (xn s 0 0 10).2.1 (xn s 0 0 10).2.2 64).bind fun b2 => (cmd_Decode_txt k (!nb (fb (xn s 0 0 10).1) 2) b2.2.1 b2.2.2.1 b2.2.2.2 63).bind fun b3 => (cmd_Decode_txt k (!nb (fb (xn s 0 0 10).1) 4) b3.2.1 b3.2.2.1 b3.2.2.2 1024).bind fun b4 => (cmd_Decode_num k (!nb (fb (xn s 0 0 10).1) 8) b4.2.1 b4.2.2.1 b4.2.2.2 1099511627776).bind fun b5 => (cmd_Decode_num k (!nb (fb (xn s 0 0 10).1) 16) b5.2.1 b5.2.2.1 b5.2.2.2 100).bind fun b6 => (cmd_Decode_txt k (!nb (fb (xn s 0 0 10).1) 32) b6.2.1 b6.2.2.1 b6.2.2.2 64).bind fun b7 => (cmd_Decode_num k (!nb (fb (xn s 0 0 10).1) 64) b7.2.1 b7.2.2.1 b7.2.2.2 512).bind fun b8 => (if b8.1 ≤ 512 then cmd_Decode_l0 k b8.1.toNat b8.2.1 b8.2.2.1 b8.2.2.2 [] else none).bind fun b9 => (cmd_Decode_num k (!nb (fb (xn s 0 0 10).1) 128) b9.1 b9.2.1 b9.2.2.1 100).bind fun b10 => (if b10.1 ≤ 100 then cmd_Decode_l1 k b10.1.toNat b10.2.1 b10.2.2.1 b10.2.2.2 [] else none).bind fun b11 => (octet_Reader_End.f b11.1 b11.2.1 b11.2.2.1).bind fun b12 => if b12.1 = 0 then ((cmd_Check.f k (xn s 0 0 10).1 b2.1 b3.1 b4.1 b5.1 b6.1 b7.1 b9.2.2.2 b11.2.2.2).bind fun c => if c = 0 then some ((xn s 0 0 10).1, b2.1, b3.1, b4.1, b5.1, b6.1, b7.1, b9.2.2.2, b11.2.2.2, 0) else some cmd_Decode_none) else some cmd_Decode_none) := by
 unfold cmd_Decode.f octet_NewReader.f
 rw [Option.bind_some, show octet_Reader_Int.f k s 0 0 10 = _ from oct_RInt s 0 hs (Nat.zero_le _) 0 10 (by omega) (by omega) k (by omega), Option.bind_some]
 show ((cmd_fields.f k (xn s 0 0 10).1).bind _) = _
 rw [fields_eq _ k (by omega), Option.bind_some]
 simp only [nb_not]
theorem dec_back {a0 : Int} {a1 a2 a3 : ByteArray} {a4 a5 : Int} {a6 : ByteArray} {ps : List Piece} {l : List Pick} (hc : CK a0 a1 a2 a3 a4 a5 a6 ps l) (hs : SmallCmd a1 a2 a3 a6 ps l) (k : Nat) (hk : 1073741828 ≤ k) :
  cmd_Decode.f k (toldB a0 a1 a2 a3 a4 a5 a6 ps l) = some (a0, a1, a2, a3, a4, a5, a6, ps, l, 0) := by
 have hb := CK_bd hc
 have hz := (told_eq hb k (by omega)).2
 obtain ⟨T, hT⟩ : ∃ T, T = toldB a0 a1 a2 a3 a4 a5 a6 ps l := ⟨_, rfl⟩
 rw [← hT] at hz ⊢
 have hL : T.data.toList.drop 0 = (num a0).data.toList ++ ((ot (nb (fb a0) 1) a1).data.toList ++ ((ot (nb (fb a0) 2) a2).data.toList ++ ((ot (nb (fb a0) 4) a3).data.toList ++ ((on (nb (fb a0) 8) a4).data.toList ++ ((on (nb (fb a0) 16) a5).data.toList ++ ((ot (nb (fb a0) 32) a6).data.toList ++ ((on (nb (fb a0) 64) (ps.length : Int)).data.toList ++ ((tpB ps).data.toList ++ ((on (nb (fb a0) 128) (l.length : Int)).data.toList ++ ((tkB l).data.toList ++ [])))))))))) := by
  rw [hT, List.drop_zero]
  unfold toldB
  simp only [al, List.append_assoc, List.append_nil]
 obtain ⟨h0, ⟨z1, z2, z3, z4, z5, z6, z7, z8⟩, -⟩ := id hc
 obtain ⟨k0, b1, b2, b3, b4, b5, b6, hp, bp, hl, bl⟩ := hb
 have hs' : T.size ≤ 1073741824 := by omega
 have q0 := xn_back T 0 a0 10 _ (by omega) (by omega) (by omega) hL
 have d0 := drop_add _ _ _ _ hL
 rw [len_eq] at d0
 have s0 := size_le T 0 _ _ (num_pos a0) hL
 rw [len_eq] at s0
 rw [Decode_eq k (by omega) T hs', q0]
 obtain ⟨e1, d1, s1⟩ := dec_txt k (by omega) (nb (fb a0) 1) T a1 _ 64 _ hs' s0 (by omega) (by omega) (fun h => z1 (nb_zero h)) d0
 obtain ⟨e2, d2, s2⟩ := dec_txt k (by omega) (nb (fb a0) 2) T a2 _ 63 _ hs' s1 (by omega) (by omega) (fun h => z2 (nb_zero h)) d1
 obtain ⟨e3, d3, s3⟩ := dec_txt k (by omega) (nb (fb a0) 4) T a3 _ 1024 _ hs' s2 (by omega) (by omega) (fun h => z3 (nb_zero h)) d2
 obtain ⟨e4, d4, s4⟩ := dec_num k (by omega) (nb (fb a0) 8) T a4 _ 1099511627776 _ hs' s3 b4.1 b4.2 (by omega) (fun h => z4 (nb_zero h)) d3
 obtain ⟨e5, d5, s5⟩ := dec_num k (by omega) (nb (fb a0) 16) T a5 _ 100 _ hs' s4 b5.1 b5.2 (by omega) (fun h => z5 (nb_zero h)) d4
 obtain ⟨e6, d6, s6⟩ := dec_txt k (by omega) (nb (fb a0) 32) T a6 _ 64 _ hs' s5 (by omega) (by omega) (fun h => z6 (nb_zero h)) d5
 obtain ⟨e7, d7, s7⟩ := dec_num k (by omega) (nb (fb a0) 64) T (ps.length : Int) _ 512 _ hs' s6 (by omega) (by omega) (by omega) (fun h => by have := z7 (nb_zero h); omega) d6
 obtain ⟨e8, d8, s8⟩ := dec_l0 k (by omega) T hs' ps _ [] _ s7 (by rw [List.length_nil]; omega) bp d7
 obtain ⟨e9, d9, s9⟩ := dec_num k (by omega) (nb (fb a0) 128) T (l.length : Int) _ 100 _ hs' s8 (by omega) (by omega) (by omega) (fun h => by have := z8 (nb_zero h); omega) d8
 obtain ⟨e10, d10, s10⟩ := dec_l1 k (by omega) T hs' l _ [] _ s9 (by rw [List.length_nil]; omega) bl d9
 have hend := congrArg List.length d10
 rw [List.length_drop, List.length_nil, len_eq] at hend
 show ((cmd_Decode_txt k (!nb (fb a0) 1) T ((0 + (num a0).size : Nat) : Int) 0 64).bind _) = _
 rw [e1, Option.bind_some]
 dsimp only
 rw [e2, Option.bind_some]
 dsimp only
 rw [e3, Option.bind_some]
 dsimp only
 rw [e4, Option.bind_some]
 dsimp only
 rw [e5, Option.bind_some]
 dsimp only
 rw [e6, Option.bind_some]
 dsimp only
 rw [e7, Option.bind_some]
 dsimp only
 rw [if_pos (by omega), Int.toNat_natCast, e8, Option.bind_some]
 dsimp only
 rw [e9, Option.bind_some]
 dsimp only
 rw [if_pos (by omega), Int.toNat_natCast, e10, Option.bind_some]
 dsimp only
 rw [List.nil_append, List.nil_append]
 have en : ∀ p : Nat, p = T.size → octet_Reader_End.f T (p : Int) 0 = some (0, T, (p : Int), 0) := by
  intro p hp; unfold octet_Reader_End.f; rw [if_pos rfl, if_neg (by omega)]
 rw [en _ (by omega), Option.bind_some]
 dsimp only
 rw [if_pos rfl, check_eq _ _ _ _ _ _ _ _ _ hs k hk, if_pos hc, Option.bind_some, if_pos rfl]
theorem one_txt (k : Nat) (hk : 30 ≤ k) (c : Bool) (s : ByteArray) (a : Nat) (e most : Int) (hs : s.size ≤ 1073741824) (ha : a ≤ s.size) (hm : 0 ≤ most) :
  ∃ (t : ByteArray) (m : Nat) (e' : Int), cmd_Decode_txt k (!c) s (a : Int) e most = some (t, s, (m : Int), e') ∧ m ≤ s.size ∧ (t.size : Int) ≤ most ∧ (e' = 0 → e = 0 ∧ s.data.toList.drop a = (ot c t).data.toList ++ s.data.toList.drop m) := by
 unfold cmd_Decode_txt
 cases c with
 | false => exact ⟨⟨#[]⟩, a, e, rfl, ha, hm, fun h => ⟨h, rfl⟩⟩
 | true =>
  rw [Bool.not_true, if_neg (by decide), oct_RText s a hs ha e most k hk]
  obtain ⟨h1, m, h2, h3, h4⟩ := xt_at s a ha e most hm
  refine ⟨(xt s a e most).1, m, (xt s a e most).2.2, by rw [h2], h4, h1, fun h => ?_⟩
  obtain ⟨g1, m', g2, g3, g4⟩ := xt_e s a e most h
  obtain rfl : m' = m := by rw [h2] at g2; omega
  exact ⟨g1, g4⟩
theorem one_num (k : Nat) (hk : 30 ≤ k) (c : Bool) (s : ByteArray) (a : Nat) (e most : Int) (hs : s.size ≤ 1073741824) (ha : a ≤ s.size) (hm : 0 ≤ most) (hM : most ≤ 9223372036854775807) :
  ∃ (n : Int) (m : Nat) (e' : Int), cmd_Decode_num k (!c) s (a : Int) e most = some (n, s, (m : Int), e') ∧ m ≤ s.size ∧ 0 ≤ n ∧ n ≤ most ∧ (e' = 0 → e = 0 ∧ s.data.toList.drop a = (on c n).data.toList ++ s.data.toList.drop m) := by
 unfold cmd_Decode_num
 cases c with
 | false => exact ⟨0, a, e, rfl, ha, by omega, hm, fun h => ⟨h, rfl⟩⟩
 | true =>
  rw [Bool.not_true, if_neg (by decide), oct_RInt s a hs ha e most hm hM k hk]
  obtain ⟨h0, h1, m, h2, h3, h4⟩ := xn_at s a ha e most hm
  refine ⟨(xn s a e most).1, m, (xn s a e most).2.2, by rw [h2], h4, h0, h1, fun h => ?_⟩
  obtain ⟨g1, m', g2, g3, g4⟩ := xn_e s a e most h
  obtain rfl : m' = m := by rw [h2] at g2; omega
  exact ⟨g1, g4⟩
theorem one_l0 (k : Nat) (hk : 30 ≤ k) (s : ByteArray) (hs : s.size ≤ 1073741824) : ∀ (n a : Nat) (e : Int) (acc : List Piece), a ≤ s.size → acc.length + n ≤ 1048576 →
  ∃ (l : List Piece) (m : Nat) (e' : Int), cmd_Decode_l0 k n s (a : Int) e acc = some (s, (m : Int), e', acc ++ l) ∧ l.length = n ∧ m ≤ s.size ∧ (∀ y ∈ l, y.f0.size ≤ 64) ∧ (e' = 0 → e = 0 ∧ s.data.toList.drop a = (tpB l).data.toList ++ s.data.toList.drop m)
 | 0, a, e, acc, ha, _ => ⟨[], a, e, by rw [cmd_Decode_l0, List.append_nil], rfl, ha, fun y hy => (by cases hy), fun h => ⟨h, rfl⟩⟩
 | n + 1, a, e, acc, ha, hn => by
  obtain ⟨t, m1, e1, g1, g2, g3, g4⟩ := one_txt k hk true s a e 64 hs ha (by omega)
  obtain ⟨v, m2, e2, i1, i2, i3, i4, i5⟩ := one_num k hk true s m1 e1 4096 hs g2 (by omega) (by omega)
  obtain ⟨l, m, e', j1, j2, j3, j4, j5⟩ := one_l0 k hk s hs n m2 e2 (acc ++ [⟨t, v⟩]) i2 (by rw [List.length_append, List.length_cons, List.length_nil]; omega)
  refine ⟨⟨t, v⟩ :: l, m, e', ?_, by rw [List.length_cons, j2], j3, ?_, fun h => ?_⟩
  ·
   have g1' : octet_Reader_Text.f k s (a : Int) e 64 = some (t, s, (m1 : Int), e1) := g1
   have i1' : octet_Reader_Int.f k s (m1 : Int) e1 4096 = some (v, s, (m2 : Int), e2) := i1
   rw [cmd_Decode_l0, g1', Option.bind_some]
   dsimp only
   rw [i1', Option.bind_some, if_pos (by omega)]
   dsimp only
   rw [j1, List.append_assoc]
   rfl
  ·
   intro y hy
   rcases List.mem_cons.1 hy with rfl | hy
   ·
    show t.size ≤ 64; omega
   ·
    exact j4 y hy
  ·
   obtain ⟨r1, r2⟩ := j5 h
   obtain ⟨r3, r4⟩ := i5 r1
   obtain ⟨r5, r6⟩ := g4 r3
   refine ⟨r5, ?_⟩
   rw [r6, r4, r2, tpB, al, al, List.append_assoc, List.append_assoc]
   rfl
theorem one_l1 (k : Nat) (hk : 30 ≤ k) (s : ByteArray) (hs : s.size ≤ 1073741824) : ∀ (n a : Nat) (e : Int) (acc : List Pick), a ≤ s.size → acc.length + n ≤ 1048576 →
  ∃ (l : List Pick) (m : Nat) (e' : Int), cmd_Decode_l1 k n s (a : Int) e acc = some (s, (m : Int), e', acc ++ l) ∧ l.length = n ∧ m ≤ s.size ∧ (∀ y ∈ l, y.f1.size ≤ 64) ∧ (e' = 0 → e = 0 ∧ s.data.toList.drop a = (tkB l).data.toList ++ s.data.toList.drop m)
 | 0, a, e, acc, ha, _ => ⟨[], a, e, by rw [cmd_Decode_l1, List.append_nil], rfl, ha, fun y hy => (by cases hy), fun h => ⟨h, rfl⟩⟩
 | n + 1, a, e, acc, ha, hn => by
  obtain ⟨v, m1, e1, g1, g2, g3, g4, g5⟩ := one_num k hk true s a e 100 hs ha (by omega) (by omega)
  obtain ⟨t, m2, e2, i1, i2, i3, i4⟩ := one_txt k hk true s m1 e1 64 hs g2 (by omega)
  obtain ⟨l, m, e', j1, j2, j3, j4, j5⟩ := one_l1 k hk s hs n m2 e2 (acc ++ [⟨v, t⟩]) i2 (by rw [List.length_append, List.length_cons, List.length_nil]; omega)
  refine ⟨⟨v, t⟩ :: l, m, e', ?_, by rw [List.length_cons, j2], j3, ?_, fun h => ?_⟩
  ·
   have g1' : octet_Reader_Int.f k s (a : Int) e 100 = some (v, s, (m1 : Int), e1) := g1
   have i1' : octet_Reader_Text.f k s (m1 : Int) e1 64 = some (t, s, (m2 : Int), e2) := i1
   rw [cmd_Decode_l1, g1', Option.bind_some]
   dsimp only
   rw [i1', Option.bind_some, if_pos (by omega)]
   dsimp only
   rw [j1, List.append_assoc]
   rfl
  ·
   intro y hy
   rcases List.mem_cons.1 hy with rfl | hy
   ·
    show t.size ≤ 64; omega
   ·
    exact j4 y hy
  ·
   obtain ⟨r1, r2⟩ := j5 h
   obtain ⟨r3, r4⟩ := i4 r1
   obtain ⟨r5, r6⟩ := g5 r3
   refine ⟨r5, ?_⟩
   rw [r6, r4, r2, tkB, al, al, List.append_assoc, List.append_assoc]
   rfl
theorem dec_only (s : ByteArray) (hs : s.size ≤ 1073741824) (k : Nat) (hk : 1073741828 ≤ k) :
  cmd_Decode.f k s = some cmd_Decode_none ∨ ∃ (a0 : Int) (a1 a2 a3 : ByteArray) (a4 a5 : Int) (a6 : ByteArray) (ps : List Piece) (l : List Pick), cmd_Decode.f k s = some (a0, a1, a2, a3, a4, a5, a6, ps, l, 0) ∧ CK a0 a1 a2 a3 a4 a5 a6 ps l ∧ SmallCmd a1 a2 a3 a6 ps l ∧ toldB a0 a1 a2 a3 a4 a5 a6 ps l = s := by
 rw [Decode_eq k (by omega) s hs]
 obtain ⟨n0, n1, m0, w1, w2, w3⟩ := xn_at s 0 (Nat.zero_le _) 0 10 (by omega)
 obtain ⟨K, hK⟩ : ∃ K, K = (xn s 0 0 10).1 := ⟨_, rfl⟩
 obtain ⟨E, hE⟩ : ∃ E, E = (xn s 0 0 10).2.2 := ⟨_, rfl⟩
 rw [w1, ← hK, ← hE]
 obtain ⟨a1, m1, e1, g1, h1, t1, c1⟩ := one_txt k (by omega) (nb (fb K) 1) s m0 E 64 hs w3 (by omega)
 obtain ⟨a2, m2, e2, g2, h2, t2, c2⟩ := one_txt k (by omega) (nb (fb K) 2) s m1 e1 63 hs h1 (by omega)
 obtain ⟨a3, m3, e3, g3, h3, t3, c3⟩ := one_txt k (by omega) (nb (fb K) 4) s m2 e2 1024 hs h2 (by omega)
 obtain ⟨a4, m4, e4, g4, h4, t4, u4, c4⟩ := one_num k (by omega) (nb (fb K) 8) s m3 e3 1099511627776 hs h3 (by omega) (by omega)
 obtain ⟨a5, m5, e5, g5, h5, t5, u5, c5⟩ := one_num k (by omega) (nb (fb K) 16) s m4 e4 100 hs h4 (by omega) (by omega)
 obtain ⟨a6, m6, e6, g6, h6, t6, c6⟩ := one_txt k (by omega) (nb (fb K) 32) s m5 e5 64 hs h5 (by omega)
 obtain ⟨n7, m7, e7, g7, h7, t7, u7, c7⟩ := one_num k (by omega) (nb (fb K) 64) s m6 e6 512 hs h6 (by omega) (by omega)
 obtain ⟨ps, m8, e8, g8, l8, h8, t8, c8⟩ := one_l0 k (by omega) s hs n7.toNat m7 e7 [] h7 (by rw [List.length_nil]; omega)
 obtain ⟨n9, m9, e9, g9, h9, t9, u9, c9⟩ := one_num k (by omega) (nb (fb K) 128) s m8 e8 100 hs h8 (by omega) (by omega)
 obtain ⟨l, mA, eA, gA, lA, hA, tA, cA⟩ := one_l1 k (by omega) s hs n9.toNat m9 e9 [] h9 (by rw [List.length_nil]; omega)
 rw [g1, Option.bind_some]
 dsimp only
 rw [g2, Option.bind_some]
 dsimp only
 rw [g3, Option.bind_some]
 dsimp only
 rw [g4, Option.bind_some]
 dsimp only
 rw [g5, Option.bind_some]
 dsimp only
 rw [g6, Option.bind_some]
 dsimp only
 rw [g7, Option.bind_some]
 dsimp only
 rw [if_pos u7, g8, Option.bind_some]
 dsimp only
 rw [g9, Option.bind_some]
 dsimp only
 rw [if_pos u9, gA, Option.bind_some]
 dsimp only
 rw [List.nil_append, List.nil_append]
 unfold octet_Reader_End.f
 by_cases z : eA = 0
 ·
  rw [if_pos z]
  by_cases y : (mA : Int) < (s.size : Int)
  ·
   rw [if_pos y, Option.bind_some]
   dsimp only
   rw [if_neg (by decide)]
   exact .inl rfl
  ·
   rw [if_neg y, Option.bind_some]
   dsimp only
   have sm : SmallCmd a1 a2 a3 a6 ps l := ⟨by omega, by omega, by omega, by omega, by omega, fun y hy => by have := t8 y hy; omega, by omega, fun y hy => by have := tA y hy; omega⟩
   rw [if_pos rfl, check_eq _ _ _ _ _ _ _ _ _ sm k hk, Option.bind_some]
   by_cases hc : CK K a1 a2 a3 a4 a5 a6 ps l
   ·
    rw [if_pos hc, if_pos rfl]
    refine .inr ⟨K, a1, a2, a3, a4, a5, a6, ps, l, rfl, hc, sm, ?_⟩
    obtain ⟨x9, yA⟩ := cA z
    obtain ⟨x8, y9⟩ := c9 x9
    obtain ⟨x7, y8⟩ := c8 x8
    obtain ⟨x6, y7⟩ := c7 x7
    obtain ⟨x5, y6⟩ := c6 x6
    obtain ⟨x4, y5⟩ := c5 x5
    obtain ⟨x3, y4⟩ := c4 x4
    obtain ⟨x2, y3⟩ := c3 x3
    obtain ⟨x1, y2⟩ := c2 x2
    obtain ⟨x0, y1⟩ := c1 x1
    rw [hE] at x0
    obtain ⟨-, m', v1, v2, v3⟩ := xn_e s 0 0 10 x0
    obtain rfl : m' = m0 := by rw [w1] at v1; omega
    rw [← hK, List.drop_zero] at v3
    apply list_ext
    have hm : mA = s.size := by omega
    rw [hm, List.drop_of_length_le (Nat.le_of_eq (len_eq s)), List.append_nil] at yA
    have p7 : ((ps.length : Nat) : Int) = n7 := by omega
    have p9 : ((l.length : Nat) : Int) = n9 := by omega
    unfold toldB
    rw [p7, p9]
    simp only [al, List.append_assoc]
    rw [v3, y1, y2, y3, y4, y5, y6, y7, y8, y9, yA]
   ·
    rw [if_neg hc, if_neg (by decide)]
    exact .inl rfl
 ·
  rw [if_neg z, Option.bind_some]
  dsimp only
  rw [if_neg z]
  exact .inl rfl
abbrev RPiece := S95
abbrev RPick := S61
theorem Piece_go (ps : List Piece) (hl : ps.length ≤ 1048576) : ∀ (n i k : Nat) (acc : List RPiece), i + n = ps.length → acc.length = i → n < k → ∃ q, stowagelaw13_Piece.l0 k ps acc (i : Int) = some q ∧ q.length = ps.length := by
 intro n
 induction n with
 | zero =>
  intro i k acc hn ha hk
  obtain ⟨k, rfl⟩ : ∃ j, k = j + 1 := ⟨k - 1, by omega⟩
  rw [stowagelaw13_Piece.l0, if_neg (by omega)]
  exact ⟨acc, rfl, by omega⟩
 | succ n ih =>
  intro i k acc hn ha hk
  obtain ⟨k, rfl⟩ : ∃ j, k = j + 1 := ⟨k - 1, by omega⟩
  rw [stowagelaw13_Piece.l0, if_pos (by omega), if_pos (by omega), if_pos (by omega), w1 i (by omega)]
  exact ih (i + 1) k _ (by omega) (by rw [List.length_append, ha]; rfl) (by omega)
theorem Ref_go (a0 : Int) (a1 a2 a3 : ByteArray) (a4 a5 : Int) (a6 : ByteArray) (ps : List Piece) (l : List Pick) (hp : ps.length ≤ 1048576) (hl : l.length ≤ 1048576) : ∀ (n i k : Nat) (acc : List RPick), i + n = l.length → acc.length = i → n + 1048578 < k → ∃ q1 q2, stowagelaw16_Ref.l0 k acc (i : Int) a0 a1 a2 a3 a4 a5 a6 ps l = some (a0, a1, a2, a3, a4, a5, a6, q1, q2) ∧ q1.length = ps.length ∧ q2.length = l.length := by
 intro n
 induction n with
 | zero =>
  intro i k acc hn ha hk
  obtain ⟨k, rfl⟩ : ∃ j, k = j + 1 := ⟨k - 1, by omega⟩
  obtain ⟨q, h1, h2⟩ := Piece_go ps hp ps.length 0 k [] (by omega) rfl (by omega)
  have h1' : stowagelaw13_Piece.f k ps = some q := h1
  rw [stowagelaw16_Ref.l0, if_neg (by omega), h1', Option.bind_some]
  exact ⟨q, acc, rfl, h2, by omega⟩
 | succ n ih =>
  intro i k acc hn ha hk
  obtain ⟨k, rfl⟩ : ∃ j, k = j + 1 := ⟨k - 1, by omega⟩
  rw [stowagelaw16_Ref.l0, if_pos (by omega), if_pos (by omega), if_pos (by omega), w1 i (by omega)]
  exact ih (i + 1) k _ (by omega) (by rw [List.length_append, ha]; rfl) (by omega)
theorem Ref_eq (a0 : Int) (a1 a2 a3 : ByteArray) (a4 a5 : Int) (a6 : ByteArray) (ps : List Piece) (l : List Pick) (hp : ps.length ≤ 1048576) (hl : l.length ≤ 1048576) (k : Nat) (hk : 2097160 ≤ k) : ∃ q1 q2, stowagelaw16_Ref.f k a0 a1 a2 a3 a4 a5 a6 ps l = some (a0, a1, a2, a3, a4, a5, a6, q1, q2) ∧ q1.length = ps.length ∧ q2.length = l.length :=
 Ref_go a0 a1 a2 a3 a4 a5 a6 ps l hp hl l.length 0 k [] (by omega) rfl (by omega)
theorem Same_l1 (a0 : Int) (a1 a2 a3 : ByteArray) (a4 a5 : Int) (a6 : ByteArray) (ps : List RPiece) (l : List RPick) (hl : l.length ≤ 1048576) : ∀ (n i k : Nat), i + n = l.length → n < k → stowageref16_Same.l1 k (i : Int) a0 a1 a2 a3 a4 a5 a6 ps l a0 a1 a2 a3 a4 a5 a6 ps l = some true := by
 intro n
 induction n with
 | zero =>
  intro i k hn hk
  obtain ⟨k, rfl⟩ : ∃ j, k = j + 1 := ⟨k - 1, by omega⟩
  rw [stowageref16_Same.l1, if_neg (by omega)]
 | succ n ih =>
  intro i k hn hk
  obtain ⟨k, rfl⟩ : ∃ j, k = j + 1 := ⟨k - 1, by omega⟩
  rw [stowageref16_Same.l1, if_pos (by omega), if_pos (by omega), if_pos (by omega), if_neg (by simp), w1 i (by omega)]
  exact ih (i + 1) k (by omega) (by omega)
theorem Same_l0 (a0 : Int) (a1 a2 a3 : ByteArray) (a4 a5 : Int) (a6 : ByteArray) (ps : List RPiece) (l : List RPick) (hp : ps.length ≤ 1048576) (hl : l.length ≤ 1048576) : ∀ (n i k : Nat), i + n = ps.length → n + 1048578 < k → stowageref16_Same.l0 k (i : Int) a0 a1 a2 a3 a4 a5 a6 ps l a0 a1 a2 a3 a4 a5 a6 ps l = some true := by
 intro n
 induction n with
 | zero =>
  intro i k hn hk
  obtain ⟨k, rfl⟩ : ∃ j, k = j + 1 := ⟨k - 1, by omega⟩
  rw [stowageref16_Same.l0, if_neg (by omega)]
  exact Same_l1 a0 a1 a2 a3 a4 a5 a6 ps l hl l.length 0 k (by omega) (by omega)
 | succ n ih =>
  intro i k hn hk
  obtain ⟨k, rfl⟩ : ∃ j, k = j + 1 := ⟨k - 1, by omega⟩
  rw [stowageref16_Same.l0, if_pos (by omega), if_pos (by omega), if_pos (by omega), if_neg (by simp), w1 i (by omega)]
  exact ih (i + 1) k (by omega) (by omega)
theorem Same_self (a0 : Int) (a1 a2 a3 : ByteArray) (a4 a5 : Int) (a6 : ByteArray) (ps : List RPiece) (l : List RPick) (hp : ps.length ≤ 1048576) (hl : l.length ≤ 1048576) (k : Nat) (hk : 2097160 ≤ k) : stowageref16_Same.f k a0 a1 a2 a3 a4 a5 a6 ps l a0 a1 a2 a3 a4 a5 a6 ps l = some true := by
 unfold stowageref16_Same.f
 rw [if_pos rfl, if_pos rfl, if_pos rfl, if_pos rfl, if_pos rfl, if_pos rfl, if_pos rfl, if_pos rfl]
 obtain ⟨k, rfl⟩ : ∃ j, k = j + 1 := ⟨k - 1, by omega⟩
 rw [stowageref16_Same.j0, if_neg (by simp)]
 exact Same_l0 a0 a1 a2 a3 a4 a5 a6 ps l hp hl ps.length 0 k (by omega) (by omega)
theorem Encode_eq (a0 : Int) (a1 a2 a3 : ByteArray) (a4 a5 : Int) (a6 : ByteArray) (ps : List Piece) (l : List Pick) (h : SmallCmd a1 a2 a3 a6 ps l) (k : Nat) (hk : 1073741828 ≤ k) :
  cmd_Encode.f k a0 a1 a2 a3 a4 a5 a6 ps l = some (if CK a0 a1 a2 a3 a4 a5 a6 ps l then (toldB a0 a1 a2 a3 a4 a5 a6 ps l, 0) else ((⟨#[]⟩ : ByteArray), 1)) := by
 unfold cmd_Encode.f
 rw [check_eq _ _ _ _ _ _ _ _ _ h k hk]
 by_cases hc : CK a0 a1 a2 a3 a4 a5 a6 ps l
 ·
  rw [if_pos hc, if_pos hc, Option.bind_some, if_pos rfl, (told_eq (CK_bd hc) k (by omega)).1, Option.bind_some]
 ·
  rw [if_neg hc, if_neg hc, Option.bind_some, if_neg (by decide)]
end Go.Proofs.YtdidopoalmkhlaaDoor.Pure
end
section
namespace Go.Proofs.YtdidopoalmkhlaaDoor.KO
open Go Go.RowKit Go.Proofs.YtdidopoalmkhlaaDoorW.PrintWords Go.Proofs.YtdidopoalmkhlaaDoor.Od 
theorem opensPiece : Opens Tryd.prog 82 k82 (fun y => y.f0.size ≤ reachBytes ∧ (Lit.int .i64 y.f1).wf = true) (fun y => ((y.f0.size + 1) + 1) + 1) :=
 opens_struct (fun x : S82 => (x.f0, x.f1)) (fun p => ⟨p.1, p.2⟩) (fun _ => rfl) Tryd.underlying82
  (opens_cons (off' := 1) rfl (opens_string Tryd.underlying9) (by kernel_rfl) (opens_last rfl (opens_int Tryd.underlying3) (by kernel_rfl)))
theorem opensPieces : Opens Tryd.prog 22 (Kd.slice 82 k82) (fun ys => ys.length * 24 ≤ reachBytes ∧ ∀ y ∈ ys, y.f0.size ≤ reachBytes ∧ (Lit.int .i64 y.f1).wf = true) (fun ys => (ys.map fun y => ((y.f0.size + 1) + 1) + 1).sum + 1) :=
 opens_slice Tryd.underlying22 opensPiece (by kernel_rfl) (by kernel_rfl)
theorem opensPick : Opens Tryd.prog 62 k62 (fun y => (Lit.int .i64 y.f0).wf = true ∧ y.f1.size ≤ reachBytes) (fun y => (1 + (y.f1.size + 1)) + 1) :=
 opens_struct (fun x : S62 => (x.f0, x.f1)) (fun p => ⟨p.1, p.2⟩) (fun _ => rfl) Tryd.underlying62
  (opens_cons (off' := 1) rfl (opens_int Tryd.underlying3) (by kernel_rfl) (opens_last rfl (opens_string Tryd.underlying9) (by kernel_rfl)))
theorem opensPicks : Opens Tryd.prog 23 (Kd.slice 62 k62) (fun ys => ys.length * 24 ≤ reachBytes ∧ ∀ y ∈ ys, (Lit.int .i64 y.f0).wf = true ∧ y.f1.size ≤ reachBytes) (fun ys => (ys.map fun y => (1 + (y.f1.size + 1)) + 1).sum + 1) :=
 opens_slice Tryd.underlying23 opensPick (by kernel_rfl) (by kernel_rfl)
structure Cmd where
 f0 : Int
 f1 : ByteArray
 f2 : ByteArray
 f3 : ByteArray
 f4 : Int
 f5 : Int
 f6 : ByteArray
 f7 : List S82
 f8 : List S62
def kCmd : Kd Cmd := Kd.iso (Kd.pair (Kd.int .i64) (Kd.pair Kd.string (Kd.pair Kd.string (Kd.pair Kd.string (Kd.pair (Kd.int .i64) (Kd.pair (Kd.int .i64) (Kd.pair Kd.string (Kd.pair (Kd.slice 82 k82) (Kd.slice 62 k62))))))))) (fun x : Cmd => (x.f0, x.f1, x.f2, x.f3, x.f4, x.f5, x.f6, x.f7, x.f8))
theorem kCmd_open {w : World} {x : Cmd} {cs : List Value} (h : kCmd.K w x cs) : ∃ (A7 : Option Addr) (c7 : Nat) (A8 : Option Addr) (c8 : Nat), cs = [.int .i64 x.f0, .string x.f1, .string x.f2, .string x.f3, .int .i64 x.f4, .int .i64 x.f5, .string x.f6, .slice A7 x.f7.length c7, .slice A8 x.f8.length c8] ∧ x.f7.length ≤ c7 ∧ Kd.C k82 w A7 x.f7.length x.f7 ∧ x.f8.length ≤ c8 ∧ Kd.C k62 w A8 x.f8.length x.f8 := by
 obtain ⟨_, _, rfl, rfl, _, _, rfl, rfl, _, _, rfl, rfl, _, _, rfl, rfl, _, _, rfl, rfl, _, _, rfl, rfl, _, _, rfl, rfl, _, _, rfl, h7, h8⟩ := h
 obtain ⟨A7, c7, rfl, hl7, g7⟩ := h7
 obtain ⟨A8, c8, rfl, hl8, g8⟩ := h8
 exact ⟨A7, c7, A8, c8, rfl, hl7, g7, hl8, g8⟩
theorem opensCmd : Opens Tryd.prog 25 kCmd (fun y => (Lit.int .i64 y.f0).wf = true ∧ y.f1.size ≤ reachBytes ∧ y.f2.size ≤ reachBytes ∧ y.f3.size ≤ reachBytes ∧ (Lit.int .i64 y.f4).wf = true ∧ (Lit.int .i64 y.f5).wf = true ∧ y.f6.size ≤ reachBytes ∧ (y.f7.length * 24 ≤ reachBytes ∧ ∀ z ∈ y.f7, z.f0.size ≤ reachBytes ∧ (Lit.int .i64 z.f1).wf = true) ∧ (y.f8.length * 24 ≤ reachBytes ∧ ∀ z ∈ y.f8, (Lit.int .i64 z.f0).wf = true ∧ z.f1.size ≤ reachBytes))
  (fun y => (1 + ((y.f1.size + 1) + ((y.f2.size + 1) + ((y.f3.size + 1) + (1 + (1 + ((y.f6.size + 1) + (((y.f7.map fun z => ((z.f0.size + 1) + 1) + 1).sum + 1) + ((y.f8.map fun z => (1 + (z.f1.size + 1)) + 1).sum + 1))))))))) + 1) :=
 opens_struct (fun x : Cmd => (x.f0, x.f1, x.f2, x.f3, x.f4, x.f5, x.f6, x.f7, x.f8)) (fun p => ⟨p.1, p.2.1, p.2.2.1, p.2.2.2.1, p.2.2.2.2.1, p.2.2.2.2.2.1, p.2.2.2.2.2.2.1, p.2.2.2.2.2.2.2.1, p.2.2.2.2.2.2.2.2⟩) (fun _ => rfl) Tryd.underlying25
  (opens_cons (off' := 1) rfl (opens_int Tryd.underlying3) (by kernel_rfl) (opens_cons (off' := 2) rfl (opens_string Tryd.underlying9) (by kernel_rfl) (opens_cons (off' := 3) rfl (opens_string Tryd.underlying9) (by kernel_rfl) (opens_cons (off' := 4) rfl (opens_string Tryd.underlying9) (by kernel_rfl) (opens_cons (off' := 5) rfl (opens_int Tryd.underlying3) (by kernel_rfl) (opens_cons (off' := 6) rfl (opens_int Tryd.underlying3) (by kernel_rfl) (opens_cons (off' := 7) rfl (opens_string Tryd.underlying9) (by kernel_rfl) (opens_cons (off' := 8) rfl opensPieces (by kernel_rfl) (opens_last rfl opensPicks (by kernel_rfl)))))))))) 
theorem sum_ge {α : Type} (f : α → Nat) (hf : ∀ y, 1 ≤ f y) : ∀ l : List α, l.length ≤ (l.map f).sum ∧ ∀ y ∈ l, f y ≤ (l.map f).sum
 | [] => ⟨Nat.le_refl _, fun y hy => by cases hy⟩
 | z :: l => by
  obtain ⟨h1, h2⟩ := sum_ge f hf l
  have := hf z
  rw [List.map_cons, List.sum_cons]
  refine ⟨by rw [List.length_cons]; omega, fun y hy => ?_⟩
  rcases List.mem_cons.1 hy with rfl | hy
  ·
   omega
  ·
   have := h2 y hy; omega
theorem small_cmd (y : Cmd) {B : Nat} (h : (1 + ((y.f1.size + 1) + ((y.f2.size + 1) + ((y.f3.size + 1) + (1 + (1 + ((y.f6.size + 1) + (((y.f7.map fun z => ((z.f0.size + 1) + 1) + 1).sum + 1) + ((y.f8.map fun z => (1 + (z.f1.size + 1)) + 1).sum + 1))))))))) + 1 ≤ B) (hB : B ≤ 1048576) : Pure.SmallCmd y.f1 y.f2 y.f3 y.f6 y.f7 y.f8 := by
 obtain ⟨h1, h2⟩ := sum_ge (fun z : Pure.Piece => ((z.f0.size + 1) + 1) + 1) (fun z => by omega) y.f7
 obtain ⟨h3, h4⟩ := sum_ge (fun z : Pure.Pick => (1 + (z.f1.size + 1)) + 1) (fun z => by omega) y.f8
 generalize (y.f7.map fun z : Pure.Piece => ((z.f0.size + 1) + 1) + 1).sum = X at h h1 h2
 generalize (y.f8.map fun z : Pure.Pick => (1 + (z.f1.size + 1)) + 1).sum = Y at h h3 h4
 exact ⟨by omega, by omega, by omega, by omega, by omega, fun z hz => by have := h2 z hz; omega, by omega, fun z hz => by have := h4 z hz; omega⟩
end Go.Proofs.YtdidopoalmkhlaaDoor.KO
end
section
namespace Go.Proofs.YtdidopoalmkhlaaDoor.Pure
open Go.RowKit Go.Proofs.YtdidopoalmkhlaaDoor.Od Go.Proofs.YtdidopoalmkhlaaDoorW.PrintWords Go.Proofs.YtdidopoalmkhlaaDoorW.PrintLast Go.Proofs.YtdidopoalmkhlaaDoorW.PrintMore
set_option linter.unusedVariables false
set_option linter.unusedSimpArgs false
def refC (c : Piece) : RPiece := ⟨c.f0, c.f1⟩
def refK (p : Pick) : RPick := ⟨p.f0, p.f1⟩
theorem un_j4_bad (k : Nat) (a : ByteArray) (x4 : List Int) (x5 x6 x7 : Int) (h : x7 < 0) : stowageref03_Unhex.j4 (k + 1) a x4 x5 x6 x7 = some ((⟨#[]⟩ : ByteArray), 3) := by rw [stowageref03_Unhex.j4, if_pos h]
theorem un_go (a : ByteArray) (hs : a.size ≤ 1048576) : ∀ n i k (acc : List Int) (h : Int), i + n = a.size → 5 * n + 5 < k → acc.length ≤ i → ∃ b, stowageref03_Unhex.l0 k a acc h (i : Int) = some (b, if (a.data.toList.drop i).all Sha.hb = true then 0 else 3) := by
 intro n
 induction n with
 | zero =>
  intro i k acc h hi hk ha
  obtain ⟨k, rfl⟩ : ∃ j, k = j + 1 := ⟨k - 1, by omega⟩
  refine ⟨strOfNums acc, ?_⟩
  rw [stowageref03_Unhex.l0, if_neg (by omega), List.drop_of_length_le (by rw [len_eq]; omega)]
  rfl
 | succ n ih =>
  intro i k acc h hi hk ha
  obtain ⟨k, rfl⟩ : ∃ j, k = j + 1 + 1 + 1 + 1 + 1 := ⟨k - 5, by omega⟩
  obtain ⟨c, hd, hb⟩ := bt_get a i (by omega)
  have hcn : c.toNat < 256 := c.toNat_lt
  have good : ∀ d : Int, 0 ≤ d → Sha.hb c = true → ∃ b, stowageref03_Unhex.j4 (k + 1) a acc h (i : Int) d = some (b, if (c :: a.data.toList.drop (i + 1)).all Sha.hb = true then 0 else 3) := by
   intro d h0 hc
   rw [stowageref03_Unhex.j4, if_neg (by omega), w1 i (by omega)]
   have e : ((c :: a.data.toList.drop (i + 1)).all Sha.hb) = (a.data.toList.drop (i + 1)).all Sha.hb := by rw [List.all_cons, hc, Bool.true_and]
   rw [e]
   split
   ·
    rw [if_pos (by omega)]
    exact ih (i + 1) k _ _ (by omega) (by omega) (by rw [List.length_append, List.length_singleton]; omega)
   ·
    exact ih (i + 1) k _ _ (by omega) (by omega) (by omega)
  have bad : Sha.hb c = false → ((c :: a.data.toList.drop (i + 1)).all Sha.hb) = false := fun hc => by rw [List.all_cons, hc, Bool.false_and]
  rw [hd]
  have j2 : ∀ d : Int, (¬ (97 ≤ c.toNat ∧ c.toNat ≤ 102)) → stowageref03_Unhex.j2 (k + 1 + 1 + 1) a acc h (i : Int) d = stowageref03_Unhex.j4 (k + 1) a acc h (i : Int) d := by
   intro d hn
   rw [stowageref03_Unhex.j2, if_pos (by omega), if_pos (by omega), hb]
   have e : ∀ q : Bool, q = false → stowageref03_Unhex.j3 (k + 1 + 1) a acc h (i : Int) d q = stowageref03_Unhex.j4 (k + 1) a acc h (i : Int) d := fun q hq => by rw [hq, stowageref03_Unhex.j3, if_neg (by decide)]
   by_cases h1 : (c.toNat : Int) ≥ 97
   ·
    rw [if_pos h1]; exact e _ (decide_eq_false (by omega))
   ·
    rw [if_neg h1]; exact e _ rfl
  rw [stowageref03_Unhex.l0, if_pos (by omega), if_pos (by omega), hb]
  by_cases h1 : 48 ≤ c.toNat ∧ c.toNat ≤ 57
  ·
   rw [if_pos (by omega), decide_eq_true (by omega : (c.toNat : Int) ≤ 57), stowageref03_Unhex.j1, if_pos rfl, if_pos (by omega), if_pos (by omega), hb, IntWalk.wrap64_in (c.toNat : Int) (by omega), IntWalk.wrap64_in _ (by omega), j2 _ (by omega)]
   exact good _ (by omega) (by simp [Sha.hb]; omega)
  ·
   have e1 : ∀ q : Bool, q = false → stowageref03_Unhex.j1 (k + 1 + 1 + 1 + 1) a acc h (i : Int) (-1) q = stowageref03_Unhex.j2 (k + 1 + 1 + 1) a acc h (i : Int) (-1) := fun q hq => by rw [hq, stowageref03_Unhex.j1, if_neg (by decide)]
   have e2 : (if (c.toNat : Int) ≥ 48 then stowageref03_Unhex.j1 (k + 1 + 1 + 1 + 1) a acc h (i : Int) (-1) (decide ((c.toNat : Int) ≤ 57)) else stowageref03_Unhex.j1 (k + 1 + 1 + 1 + 1) a acc h (i : Int) (-1) false) = stowageref03_Unhex.j2 (k + 1 + 1 + 1) a acc h (i : Int) (-1) := by
    by_cases h2 : (c.toNat : Int) ≥ 48
    ·
     rw [if_pos h2]; exact e1 _ (decide_eq_false (by omega))
    ·
     rw [if_neg h2]; exact e1 _ rfl
   rw [e2]
   by_cases h3 : 97 ≤ c.toNat ∧ c.toNat ≤ 102
   ·
    rw [stowageref03_Unhex.j2, if_pos (by omega), if_pos (by omega), hb, if_pos (by omega), decide_eq_true (by omega : (c.toNat : Int) ≤ 102), stowageref03_Unhex.j3, if_pos rfl, if_pos (by omega), if_pos (by omega), hb, IntWalk.wrap64_in (c.toNat : Int) (by omega), IntWalk.wrap64_in _ (by omega)]
    exact good _ (by omega) (by simp [Sha.hb]; omega)
   ·
    rw [j2 _ h3, un_j4_bad k a acc h _ _ (by omega), bad (by simp [Sha.hb]; omega)]
    exact ⟨_, rfl⟩
theorem may06_eq (a : ByteArray) (hs : a.size ≤ 1048576) (k : Nat) (hk : 5300000 ≤ k) : stowageref06_May.f k a = some (D a) := by
 unfold stowageref06_May.f stowageref03_Unhex.f
 by_cases h2 : ((a.size : Int) % 2) = 0
 ·
  rw [if_pos h2]
  obtain ⟨b, hb⟩ := un_go a hs a.size 0 k [] 0 (by omega) (by omega) (Nat.le_refl _)
  rw [show ((0 : Nat) : Int) = 0 from rfl, List.drop_zero] at hb
  rw [hb, Option.bind_some]
  unfold D
  cases hc : a.data.toList.all Sha.hb
  ·
   rfl
  ·
   show (if (0 : Int) = 0 then some ((a.size : Int) == 64) else some false) = _
   rw [if_pos rfl, Bool.true_and]
   congr 1
   by_cases h : a.size = 64
   ·
    simp [h]
   ·
    rw [decide_eq_false h]
    simpa using (show ¬ (a.size : Int) = 64 by omega)
 ·
  rw [if_neg h2, Option.bind_some]
  have h : ¬ a.size = 64 := by omega
  unfold D
  rw [decide_eq_false h, Bool.and_false]
  rfl
theorem rd13 (l : List Piece) (i : Nat) (h : i < l.length) : rd_T95 (l.map refC) (i : Int) = refC (rdC l i) := by
 show (l.map refC).getD (i : Int).toNat _ = refC (l.getD (i : Int).toNat _)
 rw [Int.toNat_natCast, List.getD_eq_getElem?_getD, List.getD_eq_getElem?_getD, List.getElem?_map, List.getElem?_eq_getElem h]
 rfl
theorem pieces13_go (l : List Piece) (hl : l.length ≤ 1048576) (hs : ∀ y ∈ l, y.f0.size ≤ 1048576) : ∀ n i k (s : Int), i + n = l.length → n + 5300000 < k → 0 ≤ s → s ≤ 4096 * i → stowageref13_Pieces.l0 k (l.map refC) s (i : Int) = some (if 512 < l.length then (0, 1) else pcs (l.drop i) s) := by
 have hm : (l.map refC).length = l.length := List.length_map _
 intro n
 induction n with
 | zero =>
  intro i k s hi hk h0 h1
  obtain ⟨k, rfl⟩ : ∃ j, k = j + 1 := ⟨k - 1, by omega⟩
  rw [stowageref13_Pieces.l0, hm, if_neg (by omega), List.drop_of_length_le (by omega)]
  by_cases h : 512 < l.length
  ·
   rw [if_pos (by omega), if_pos h]
  ·
   rw [if_neg (by omega), if_neg h]
   rfl
 | succ n ih =>
  intro i k s hi hk h0 h1
  obtain ⟨k, rfl⟩ : ∃ j, k = j + 1 := ⟨k - 1, by omega⟩
  have e : (if 512 < l.length then ((0 : Int), (1 : Int)) else (0, 1)) = (0, 1) := by split <;> rfl
  rw [stowageref13_Pieces.l0, hm, if_pos (by omega), if_pos (by omega), rd13 l i (by omega)]
  show (stowageref06_May.f k (rdC l i).f0).bind (fun t => if t = true then (if (rdC l i).f1 < 1 then some (0, 1) else (if (rdC l i).f1 > 4096 then some (0, 1) else stowageref13_Pieces.l0 k (l.map refC) (wrap64 (s + (rdC l i).f1)) (wrap64 ((i : Int) + 1)))) else some (0, 1)) = _
  rw [may06_eq _ (hs _ (memC l i (by omega))) k (by omega), Option.bind_some, dropC l i (by omega), pcs, w1 i (by omega)]
  by_cases hd : D (rdC l i).f0 = true
  ·
   rw [if_pos hd]
   by_cases h2 : (rdC l i).f1 < 1
   ·
    rw [if_pos h2, if_neg (show ¬ (D (rdC l i).f0 = true ∧ 1 ≤ (rdC l i).f1 ∧ (rdC l i).f1 ≤ 4096) from fun h => by omega), e]
   ·
    rw [if_neg h2]
    by_cases h3 : (rdC l i).f1 > 4096
    ·
     rw [if_pos h3, if_neg (show ¬ (D (rdC l i).f0 = true ∧ 1 ≤ (rdC l i).f1 ∧ (rdC l i).f1 ≤ 4096) from fun h => by omega), e]
    ·
     rw [if_neg h3, if_pos (show D (rdC l i).f0 = true ∧ 1 ≤ (rdC l i).f1 ∧ (rdC l i).f1 ≤ 4096 from ⟨hd, by omega, by omega⟩), IntWalk.wrap64_in _ (by omega), ih (i + 1) k _ (by omega) (by omega) (by omega) (by omega)]
  ·
   rw [if_neg hd, if_neg (show ¬ (D (rdC l i).f0 = true ∧ 1 ≤ (rdC l i).f1 ∧ (rdC l i).f1 ≤ 4096) from fun h => hd h.1), e]
theorem pieces13_eq (l : List Piece) (hl : l.length ≤ 1048576) (hs : ∀ y ∈ l, y.f0.size ≤ 1048576) (k : Nat) (hk : 6400000 ≤ k) : stowageref13_Pieces.f k (l.map refC) = some (Pc l) := by
 unfold stowageref13_Pieces.f Pc
 exact pieces13_go l hl hs l.length 0 k 0 (by omega) (by omega) (by omega) (by omega)
theorem rdK' (l : List Pick) (i : Nat) (h : i < l.length) : rd_T61 (l.map refK) (i : Int) = refK (rdK l i) := by
 show (l.map refK).getD (i : Int).toNat _ = refK (l.getD (i : Int).toNat _)
 rw [Int.toNat_natCast, List.getD_eq_getElem?_getD, List.getD_eq_getElem?_getD, List.getElem?_map, List.getElem?_eq_getElem h]
 rfl
theorem Piece_go2 (ps : List Piece) (hl : ps.length ≤ 1048576) : ∀ (n i k : Nat) (acc : List RPiece), i + n = ps.length → acc.length = i → n < k → stowagelaw13_Piece.l0 k ps acc (i : Int) = some (acc ++ (ps.drop i).map refC) := by
 intro n
 induction n with
 | zero =>
  intro i k acc hn ha hk
  obtain ⟨k, rfl⟩ : ∃ j, k = j + 1 := ⟨k - 1, by omega⟩
  rw [stowagelaw13_Piece.l0, if_neg (by omega), List.drop_of_length_le (by omega), List.map_nil, List.append_nil]
 | succ n ih =>
  intro i k acc hn ha hk
  obtain ⟨k, rfl⟩ : ∃ j, k = j + 1 := ⟨k - 1, by omega⟩
  rw [stowagelaw13_Piece.l0, if_pos (by omega), if_pos (by omega), if_pos (by omega), w1 i (by omega), ih (i + 1) k _ (by omega) (by rw [List.length_append, ha]; rfl) (by omega), dropC ps i (by omega), List.map_cons, List.append_assoc]
  rfl
theorem Ref_go2 (a0 : Int) (a1 a2 a3 : ByteArray) (a4 a5 : Int) (a6 : ByteArray) (ps : List Piece) (l : List Pick) (hp : ps.length ≤ 1048576) (hl : l.length ≤ 1048576) : ∀ (n i k : Nat) (acc : List RPick), i + n = l.length → acc.length = i → n + 1048578 < k → stowagelaw16_Ref.l0 k acc (i : Int) a0 a1 a2 a3 a4 a5 a6 ps l = some (a0, a1, a2, a3, a4, a5, a6, ps.map refC, acc ++ (l.drop i).map refK) := by
 intro n
 induction n with
 | zero =>
  intro i k acc hn ha hk
  obtain ⟨k, rfl⟩ : ∃ j, k = j + 1 := ⟨k - 1, by omega⟩
  have h1 := Piece_go2 ps hp ps.length 0 k [] (by omega) rfl (by omega)
  rw [List.drop_zero, List.nil_append] at h1
  have h1' : stowagelaw13_Piece.f k ps = some (ps.map refC) := h1
  rw [stowagelaw16_Ref.l0, if_neg (by omega), h1', Option.bind_some, List.drop_of_length_le (by omega), List.map_nil, List.append_nil]
 | succ n ih =>
  intro i k acc hn ha hk
  obtain ⟨k, rfl⟩ : ∃ j, k = j + 1 := ⟨k - 1, by omega⟩
  rw [stowagelaw16_Ref.l0, if_pos (by omega), if_pos (by omega), if_pos (by omega), w1 i (by omega), ih (i + 1) k _ (by omega) (by rw [List.length_append, ha]; rfl) (by omega), dropK l i (by omega), List.map_cons, List.append_assoc]
  rfl
theorem Ref_eq2 (a0 : Int) (a1 a2 a3 : ByteArray) (a4 a5 : Int) (a6 : ByteArray) (ps : List Piece) (l : List Pick) (hp : ps.length ≤ 1048576) (hl : l.length ≤ 1048576) (k : Nat) (hk : 2097160 ≤ k) : stowagelaw16_Ref.f k a0 a1 a2 a3 a4 a5 a6 ps l = some (a0, a1, a2, a3, a4, a5, a6, ps.map refC, l.map refK) :=
 Ref_go2 a0 a1 a2 a3 a4 a5 a6 ps l hp hl l.length 0 k [] (by omega) rfl (by omega)
structure Small6 (a6 : ByteArray) (l : List Pick) : Prop where
 s : a6.size ≤ 1048576
 t : ∀ y ∈ l, y.f1.size ≤ 1048576
section
variable (a0 : Int) (a1 a2 a3 : ByteArray) (a4 a5 : Int) (a6 : ByteArray) (ps : List Piece) (l : List Pick)
abbrev t7 : Prop := l.all pk = true
abbrev t6 : Prop := l.length ≤ 100 ∧ (a0 ≠ 8 → l.length = 0)
abbrev t5 : Prop := ((a0 = 3 ∨ a0 = 7) → D a6 = true ∧ (Pc ps).2 = 0 ∧ (Pc ps).1 ≤ 1048576) ∧ (¬ (a0 = 3 ∨ a0 = 7) → a6.size = 0 ∧ ps.length = 0)
abbrev t4 : Prop := (a0 = 7 → 1 ≤ a5 ∧ a5 ≤ 100) ∧ (a0 ≠ 7 → a5 = 0)
abbrev iD : Prop := a0 = 5 ∨ (7 ≤ a0 ∧ a0 ≤ 10)
abbrev t3 : Prop := 0 ≤ a4 ∧ a4 ≤ 1099511627776 ∧ (¬ iD a0 → a4 = 0) ∧ (iD a0 → a0 < 10 → a4 ≠ 0)
abbrev t2 : Prop := ((3 ≤ a0 ∧ a0 ≤ 9) → keyOk a3 = true) ∧ (¬ (3 ≤ a0 ∧ a0 ≤ 9) → a3.size = 0)
abbrev t1 : Prop := (a0 = 10 → a2.size = 0) ∧ (a0 < 10 → bucketOk a2 = true)
abbrev t0 : Prop := a1.size ≠ 0 → a0 ≠ 10 ∧ tokOk a1 = true
end
theorem hasKey_eq (n : Int) : stowageref16_HasKey.f n = some (decide (3 ≤ n ∧ n ≤ 9)) := by
 unfold stowageref16_HasKey.f
 by_cases h1 : n ≥ 3
 ·
  rw [if_pos h1]; congr 1; exact decide_eq_decide.2 ⟨fun h => ⟨h1, h⟩, fun h => h.2⟩
 ·
  rw [if_neg h1]; congr 1; exact (decide_eq_false (fun h => h1 h.1)).symm
end Go.Proofs.YtdidopoalmkhlaaDoor.Pure
end
section
namespace Go.Proofs.YtdidopoalmkhlaaDoor.Pure
open Go.RowKit Go.Proofs.YtdidopoalmkhlaaDoor.Od Go.Proofs.YtdidopoalmkhlaaDoorW.PrintWords Go.Proofs.YtdidopoalmkhlaaDoorW.PrintLast Go.Proofs.YtdidopoalmkhlaaDoorW.PrintMore
set_option linter.unusedVariables false
set_option linter.unusedSimpArgs false
theorem ic {p q : Prop} [Decidable p] [Decidable q] (h : p ↔ q) : (if p then (0 : Int) else 1) = (if q then 0 else 1) := by
 by_cases hp : p
 ·
  rw [if_pos hp, if_pos (h.1 hp)]
 ·
  rw [if_neg hp, if_neg (fun g => hp (h.2 g))]
theorem hasID_eq (n : Int) : stowageref16_hasID.f n = some (decide (iD n)) := by
 unfold stowageref16_hasID.f
 by_cases h0 : n = 5
 ·
  rw [if_pos h0, decide_eq_true (.inl h0)]
 ·
  rw [if_neg h0]
  by_cases h1 : n ≥ 7
  ·
   rw [if_pos h1]; congr 1; exact decide_eq_decide.2 ⟨fun h => .inr ⟨h1, h⟩, fun h => by rcases h with h | h; exact absurd h h0; exact h.2⟩
  ·
   rw [if_neg h1]; congr 1; exact (decide_eq_false (fun h => by rcases h with h | h; exact h0 h; exact h1 h.1)).symm
theorem hasSum_eq (n : Int) : stowageref16_hasSum.f n = some (decide (n = 3 ∨ n = 7)) := by
 unfold stowageref16_hasSum.f
 by_cases h0 : n = 3
 ·
  rw [if_pos h0, decide_eq_true (.inl h0)]
 ·
  rw [if_neg h0]; congr 1
  by_cases h1 : n = 7
  ·
   rw [beq_iff_eq.mpr h1, decide_eq_true (.inr h1)]
  ·
   rw [beq_eq_false_iff_ne.mpr h1, decide_eq_false (fun h => by rcases h with h | h; exact h0 h; exact h1 h)]
section
variable (a0 : Int) (a1 a2 a3 : ByteArray) (a4 a5 : Int) (a6 : ByteArray) (ps : List Piece) (l : List Pick)
theorem rc_l0 (hl : l.length ≤ 1048576) (hs : ∀ y ∈ l, y.f1.size ≤ 1048576) : ∀ n i k, i + n = l.length → n + 5300001 < k → stowageref16_Check.l0 k (i : Int) a0 a1 a2 a3 a4 a5 a6 (ps.map refC) (l.map refK) = some (if (l.drop i).all pk = true then 0 else 1) := by
 have hm : (l.map refK).length = l.length := List.length_map _
 intro n
 induction n with
 | zero =>
  intro i k hn hk
  obtain ⟨k, rfl⟩ : ∃ j, k = j + 1 := ⟨k - 1, by omega⟩
  rw [stowageref16_Check.l0, hm, if_neg (by omega), List.drop_of_length_le (by omega)]
  rfl
 | succ n ih =>
  intro i k hn hk
  obtain ⟨k, rfl⟩ : ∃ j, k = j + 1 := ⟨k - 1, by omega⟩
  have hd : (rdK l i).f1.size ≤ 1048576 := hs _ (memK l i (by omega))
  rw [stowageref16_Check.l0, hm, if_pos (by omega), if_pos (by omega), rdK' l i (by omega), dropK l i (by omega), List.all_cons]
  show (if (rdK l i).f0 < 0 then _ else if (rdK l i).f0 > 100 then _ else (stowageref06_May.f k (rdK l i).f1).bind _) = _
  have no : pk (rdK l i) = false → (some 1 : Option Int) = some (if (pk (rdK l i) && (l.drop (i + 1)).all pk) = true then 0 else 1) := fun h => by rw [h, Bool.false_and, if_neg (by decide)]
  by_cases h1 : (rdK l i).f0 < 0
  ·
   rw [if_pos h1]; exact no (by unfold pk; rw [decide_eq_false (by omega), Bool.false_and])
  ·
   rw [if_neg h1]
   by_cases h2 : (rdK l i).f0 > 100
   ·
    rw [if_pos h2]; exact no (by unfold pk; rw [decide_eq_false (by omega), Bool.false_and])
   ·
    rw [if_neg h2, may06_eq _ hd k (by omega), Option.bind_some]
    cases h3 : D (rdK l i).f1
    ·
     rw [if_neg (by decide)]; exact no (by unfold pk; rw [h3, Bool.and_false])
    ·
     have e : pk (rdK l i) = true := by unfold pk; rw [h3, decide_eq_true ⟨by omega, by omega⟩]; rfl
     rw [if_pos rfl, w1 i (by omega), ih (i + 1) k (by omega) (by omega), e, Bool.true_and]
variable (hsm : SmallCmd a1 a2 a3 a6 ps l) (h6 : Small6 a6 l)
include hsm h6
theorem rc_j7 (b : Bool) (k : Nat) (hk : 7000000 ≤ k) : stowageref16_Check.j7 k b a0 a1 a2 a3 a4 a5 a6 (ps.map refC) (l.map refK) = some (if b = false ∧ t7 l then 0 else 1) := by
 obtain ⟨k, rfl⟩ : ∃ j, k = j + 1 := ⟨k - 1, by omega⟩
 rw [stowageref16_Check.j7]
 cases b with
 | true => rw [if_pos rfl, if_neg (by simp)]
 | false =>
  have := rc_l0 a0 a1 a2 a3 a4 a5 a6 ps l hsm.hl h6.t l.length 0 k (by omega) (by have := hsm.hl; omega)
  rw [if_neg (by decide)]
  show stowageref16_Check.l0 k ((0 : Nat) : Int) a0 a1 a2 a3 a4 a5 a6 (ps.map refC) (l.map refK) = _
  rw [this, List.drop_zero]
  simp only [true_and]
theorem rc_j6 (b : Bool) (k : Nat) (hk : 7000001 ≤ k) : stowageref16_Check.j6 k b a0 a1 a2 a3 a4 a5 a6 (ps.map refC) (l.map refK) = some (if b = false ∧ t6 a0 l ∧ t7 l then 0 else 1) := by
 obtain ⟨k, rfl⟩ : ∃ j, k = j + 1 := ⟨k - 1, by omega⟩
 have J := fun c => rc_j7 a0 a1 a2 a3 a4 a5 a6 ps l hsm h6 c k (by omega)
 have hm : (l.map refK).length = l.length := List.length_map _
 rw [stowageref16_Check.j6, hm]
 cases b with
 | true => rw [if_pos rfl, if_neg (by simp)]
 | false =>
  rw [if_neg (by decide)]
  by_cases h1 : (l.length : Int) > 100
  ·
   rw [if_pos h1, J, if_neg (by simp), if_neg (fun h => by have := h.2.1.1; omega)]
  ·
   rw [if_neg h1]
   by_cases h2 : a0 = 8
   ·
    rw [if_pos h2, J]; congr 1; exact ic ⟨fun h => ⟨rfl, ⟨by omega, fun g => absurd h2 g⟩, h.2⟩, fun h => ⟨rfl, h.2.2⟩⟩
   ·
    rw [if_neg h2, J]; congr 1; exact ic ⟨fun h => ⟨rfl, ⟨by omega, fun _ => by have := of_decide_eq_false h.1; omega⟩, h.2⟩, fun h => ⟨decide_eq_false (by have := h.2.1.2 h2; omega), h.2.2⟩⟩
theorem rc_j5 (b : Bool) (k : Nat) (hk : 7000002 ≤ k) : stowageref16_Check.j5 k b a0 a1 a2 a3 a4 a5 a6 (ps.map refC) (l.map refK) = some (if b = false ∧ t5 a0 a6 ps ∧ t6 a0 l ∧ t7 l then 0 else 1) := by
 obtain ⟨k, rfl⟩ : ∃ j, k = j + 1 := ⟨k - 1, by omega⟩
 have J := fun c => rc_j6 a0 a1 a2 a3 a4 a5 a6 ps l hsm h6 c k (by omega)
 have hm : (ps.map refC).length = ps.length := List.length_map _
 rw [stowageref16_Check.j5, hm]
 cases b with
 | true => rw [if_pos rfl, if_neg (by simp)]
 | false =>
  rw [if_neg (by decide), pieces13_eq ps hsm.hp hsm.sp k (by omega), Option.bind_some, hasSum_eq, Option.bind_some, may06_eq a6 h6.s k (by omega)]
  conv => lhs; simp only [Option.bind_some]
  by_cases h1 : a0 = 3 ∨ a0 = 7
  ·
   rw [decide_eq_true h1, if_pos rfl, if_pos rfl]
   by_cases h2 : D a6 = false
   ·
    rw [if_neg (by rw [h2]; decide), J, if_neg (by simp), if_neg (fun h => by have := (h.2.1.1 h1).1; rw [h2] at this; cases this)]
   ·
    have h2 : D a6 = true := by simpa using h2
    rw [if_pos h2]
    by_cases h3 : (Pc ps).2 = 0
    ·
     rw [if_pos h3]
     by_cases h4 : (Pc ps).1 > 1048576
     ·
      rw [if_pos h4, J, if_neg (by simp), if_neg (fun h => by have := (h.2.1.1 h1).2.2; omega)]
     ·
      rw [if_neg h4, J]; congr 1; exact ic ⟨fun h => ⟨rfl, ⟨fun _ => ⟨h2, h3, by omega⟩, fun g => absurd h1 g⟩, h.2⟩, fun h => ⟨rfl, h.2.2⟩⟩
    ·
     rw [if_neg h3, J, if_neg (by simp), if_neg (fun h => h3 (h.2.1.1 h1).2.1)]
  ·
   rw [decide_eq_false h1, if_neg (by decide), if_neg (by decide)]
   by_cases h2 : a6.toList = ([] : List UInt8)
   ·
    rw [if_pos h2, J]; congr 1; exact ic ⟨fun h => ⟨rfl, ⟨fun g => absurd g h1, fun _ => ⟨(toList_nil a6).1 h2, by have := of_decide_eq_false h.1; omega⟩⟩, h.2⟩, fun h => ⟨decide_eq_false (by have := (h.2.1.2 h1).2; omega), h.2.2⟩⟩
   ·
    rw [if_neg h2, J, if_neg (by simp), if_neg (fun h => h2 ((toList_nil a6).2 (h.2.1.2 h1).1))]
theorem rc_j4 (b : Bool) (k : Nat) (hk : 7000003 ≤ k) : stowageref16_Check.j4 k b a0 a1 a2 a3 a4 a5 a6 (ps.map refC) (l.map refK) = some (if b = false ∧ t4 a0 a5 ∧ t5 a0 a6 ps ∧ t6 a0 l ∧ t7 l then 0 else 1) := by
 obtain ⟨k, rfl⟩ : ∃ j, k = j + 1 := ⟨k - 1, by omega⟩
 have J := fun c => rc_j5 a0 a1 a2 a3 a4 a5 a6 ps l hsm h6 c k (by omega)
 rw [stowageref16_Check.j4]
 cases b with
 | true => rw [if_pos rfl, if_neg (by simp)]
 | false =>
  rw [if_neg (by decide)]
  by_cases h1 : a0 = 7
  ·
   rw [if_pos h1]
   by_cases h2 : a5 < 1
   ·
    rw [if_pos h2, J, if_neg (by simp), if_neg (fun h => by have := (h.2.1.1 h1).1; omega)]
   ·
    rw [if_neg h2]
    by_cases h3 : a5 > 100
    ·
     rw [if_pos h3, J, if_neg (by simp), if_neg (fun h => by have := (h.2.1.1 h1).2; omega)]
    ·
     rw [if_neg h3, J]; congr 1; exact ic ⟨fun h => ⟨rfl, ⟨fun _ => ⟨by omega, by omega⟩, fun g => absurd h1 g⟩, h.2⟩, fun h => ⟨rfl, h.2.2⟩⟩
  ·
   rw [if_neg h1, J]; congr 1; exact ic ⟨fun h => ⟨rfl, ⟨fun g => absurd g h1, fun _ => bne_eq_false_iff_eq.mp h.1⟩, h.2⟩, fun h => ⟨bne_eq_false_iff_eq.mpr (h.2.1.2 h1), h.2.2⟩⟩
theorem rc_j3 (b : Bool) (k : Nat) (hk : 7000004 ≤ k) : stowageref16_Check.j3 k b a0 a1 a2 a3 a4 a5 a6 (ps.map refC) (l.map refK) = some (if b = false ∧ t3 a0 a4 ∧ t4 a0 a5 ∧ t5 a0 a6 ps ∧ t6 a0 l ∧ t7 l then 0 else 1) := by
 obtain ⟨k, rfl⟩ : ∃ j, k = j + 1 := ⟨k - 1, by omega⟩
 have J := fun c => rc_j4 a0 a1 a2 a3 a4 a5 a6 ps l hsm h6 c k (by omega)
 rw [stowageref16_Check.j3]
 cases b with
 | true => rw [if_pos rfl, if_neg (by simp)]
 | false =>
  rw [if_neg (by decide), hasID_eq]
  conv => lhs; simp only [Option.bind_some]
  by_cases h1 : a4 < 0
  ·
   rw [if_pos h1, J, if_neg (by simp), if_neg (fun h => by have := h.2.1.1; omega)]
  ·
   rw [if_neg h1]
   by_cases h2 : a4 > 1099511627776
   ·
    rw [if_pos h2, J, if_neg (by simp), if_neg (fun h => by have := h.2.1.2.1; omega)]
   ·
    rw [if_neg h2]
    by_cases h3 : iD a0
    ·
     rw [decide_eq_true h3, if_pos rfl, if_pos rfl]
     by_cases h4 : a0 < 10
     ·
      rw [if_pos h4, J]; congr 1; exact ic ⟨fun h => ⟨rfl, ⟨by omega, by omega, fun g => absurd h3 g, fun _ _ => beq_eq_false_iff_ne.mp h.1⟩, h.2⟩, fun h => ⟨beq_eq_false_iff_ne.mpr (h.2.1.2.2.2 h3 h4), h.2.2⟩⟩
     ·
      rw [if_neg h4, J]; congr 1; exact ic ⟨fun h => ⟨rfl, ⟨by omega, by omega, fun g => absurd h3 g, fun _ g => absurd g h4⟩, h.2⟩, fun h => ⟨rfl, h.2.2⟩⟩
    ·
     rw [decide_eq_false h3, if_neg (by decide)]
     by_cases h4 : a4 = 0
     ·
      rw [if_pos h4, if_neg (by decide), J]; congr 1; exact ic ⟨fun h => ⟨rfl, ⟨by omega, by omega, fun _ => h4, fun g => absurd g h3⟩, h.2⟩, fun h => ⟨rfl, h.2.2⟩⟩
     ·
      rw [if_neg h4, J, if_neg (by simp), if_neg (fun h => h4 (h.2.1.2.2.1 h3))]
theorem rc_j2 (b : Bool) (k : Nat) (hk : 9223372036854775810 ≤ k) : stowageref16_Check.j2 k b a0 a1 a2 a3 a4 a5 a6 (ps.map refC) (l.map refK) = some (if b = false ∧ t2 a0 a3 ∧ t3 a0 a4 ∧ t4 a0 a5 ∧ t5 a0 a6 ps ∧ t6 a0 l ∧ t7 l then 0 else 1) := by
 obtain ⟨k, rfl⟩ : ∃ j, k = j + 1 := ⟨k - 1, by omega⟩
 have J := fun c => rc_j3 a0 a1 a2 a3 a4 a5 a6 ps l hsm h6 c k (by omega)
 rw [stowageref16_Check.j2]
 cases b with
 | true => rw [if_pos rfl, if_neg (by simp)]
 | false =>
  rw [if_neg (by decide), hasKey_eq, ref_Key_eq a3 (by have := hsm.s3; omega) k (by omega)]
  conv => lhs; simp only [Option.bind_some]
  by_cases h1 : 3 ≤ a0 ∧ a0 ≤ 9
  ·
   rw [decide_eq_true h1, if_pos rfl, if_pos rfl]
   by_cases h2 : keyOk a3 = false
   ·
    rw [if_neg (by rw [h2]; decide), J, if_neg (by simp), if_neg (fun h => by have := h.2.1.1 h1; rw [h2] at this; cases this)]
   ·
    have h2 : keyOk a3 = true := by simpa using h2
    rw [if_pos h2, J]; congr 1; exact ic ⟨fun h => ⟨rfl, ⟨fun _ => h2, fun g => absurd h1 g⟩, h.2⟩, fun h => ⟨rfl, h.2.2⟩⟩
  ·
   rw [decide_eq_false h1, if_neg (by decide), if_neg (by decide), J]; congr 1
   exact ic ⟨fun h => ⟨rfl, ⟨fun g => absurd g h1, fun _ => (toList_nil a3).1 (bne_eq_false_iff_eq.mp h.1)⟩, h.2⟩, fun h => ⟨bne_eq_false_iff_eq.mpr ((toList_nil a3).2 (h.2.1.2 h1)), h.2.2⟩⟩
theorem rc_j1 (b : Bool) (k : Nat) (hk : 9223372036854775811 ≤ k) : stowageref16_Check.j1 k b a0 a1 a2 a3 a4 a5 a6 (ps.map refC) (l.map refK) = some (if b = false ∧ t1 a0 a2 ∧ t2 a0 a3 ∧ t3 a0 a4 ∧ t4 a0 a5 ∧ t5 a0 a6 ps ∧ t6 a0 l ∧ t7 l then 0 else 1) := by
 obtain ⟨k, rfl⟩ : ∃ j, k = j + 1 := ⟨k - 1, by omega⟩
 have J := fun c => rc_j2 a0 a1 a2 a3 a4 a5 a6 ps l hsm h6 c k (by omega)
 rw [stowageref16_Check.j1]
 cases b with
 | true => rw [if_pos rfl, if_neg (by simp)]
 | false =>
  rw [if_neg (by decide), ref_Bucket_eq a2 (by have := hsm.s2; omega) k (by omega)]
  conv => lhs; simp only [Option.bind_some]
  by_cases h1 : a0 = 10
  ·
   rw [if_pos h1]
   by_cases h2 : a2.toList = ([] : List UInt8)
   ·
    rw [if_pos h2, if_neg (by omega), J]; congr 1; exact ic ⟨fun h => ⟨rfl, ⟨fun _ => (toList_nil a2).1 h2, fun g => by omega⟩, h.2⟩, fun h => ⟨rfl, h.2.2⟩⟩
   ·
    rw [if_neg h2, J, if_neg (by simp), if_neg (fun h => h2 ((toList_nil a2).2 (h.2.1.1 h1)))]
  ·
   rw [if_neg h1]
   by_cases h2 : a0 < 10
   ·
    rw [if_pos h2, J]; congr 1; exact ic ⟨fun h => ⟨rfl, ⟨fun g => absurd g h1, fun _ => by simpa using h.1⟩, h.2⟩, fun h => ⟨by rw [h.2.1.2 h2]; rfl, h.2.2⟩⟩
   ·
    rw [if_neg h2, J]; congr 1; exact ic ⟨fun h => ⟨rfl, ⟨fun g => absurd g h1, fun g => absurd g h2⟩, h.2⟩, fun h => ⟨rfl, h.2.2⟩⟩
theorem rc_j0 (b : Bool) (k : Nat) (hk : 9223372036854775812 ≤ k) : stowageref16_Check.j0 k b a0 a1 a2 a3 a4 a5 a6 (ps.map refC) (l.map refK) = some (if b = false ∧ t0 a0 a1 ∧ t1 a0 a2 ∧ t2 a0 a3 ∧ t3 a0 a4 ∧ t4 a0 a5 ∧ t5 a0 a6 ps ∧ t6 a0 l ∧ t7 l then 0 else 1) := by
 obtain ⟨k, rfl⟩ : ∃ j, k = j + 1 := ⟨k - 1, by omega⟩
 have J := fun c => rc_j1 a0 a1 a2 a3 a4 a5 a6 ps l hsm h6 c k (by omega)
 rw [stowageref16_Check.j0]
 cases b with
 | true => rw [if_pos rfl, if_neg (by simp)]
 | false =>
  rw [if_neg (by decide), ref_Token_eq a1 (by have := hsm.s1; omega) k (by omega)]
  conv => lhs; simp only [Option.bind_some]
  by_cases h1 : a1.toList = ([] : List UInt8)
  ·
   rw [if_pos h1, J]; congr 1; exact ic ⟨fun h => ⟨rfl, fun g => absurd ((toList_nil a1).1 h1) g, h.2⟩, fun h => ⟨rfl, h.2.2⟩⟩
  ·
   have h1' : a1.size ≠ 0 := fun g => h1 ((toList_nil a1).2 g)
   rw [if_neg h1]
   by_cases h2 : a0 = 10
   ·
    rw [if_pos h2, J, if_neg (by simp), if_neg (fun h => (h.2.1 h1').1 h2)]
   ·
    rw [if_neg h2, J]; congr 1; exact ic ⟨fun h => ⟨rfl, fun _ => ⟨h2, by simpa using h.1⟩, h.2⟩, fun h => ⟨by rw [(h.2.1 h1').2]; rfl, h.2.2⟩⟩
end
theorem bits (n : Int) (h : 1 ≤ n ∧ n ≤ 10) : (ba (fb n) 1 = 0 ↔ n = 10) ∧ (ba (fb n) 2 = 0 ↔ n = 10) ∧ (ba (fb n) 4 = 0 ↔ ¬ (3 ≤ n ∧ n ≤ 9)) ∧ (ba (fb n) 8 = 0 ↔ ¬ iD n) ∧ (ba (fb n) 16 = 0 ↔ n ≠ 7) ∧ (ba (fb n) 32 = 0 ↔ ¬ (n = 3 ∨ n = 7)) ∧ (ba (fb n) 64 = 0 ↔ ¬ (n = 3 ∨ n = 7)) ∧ (ba (fb n) 128 = 0 ↔ n ≠ 8) ∧ fb n ≠ 0 := by
 obtain ⟨m, rfl⟩ : ∃ m : Nat, n = m := ⟨n.toNat, by omega⟩
 have : m = 1 ∨ m = 2 ∨ m = 3 ∨ m = 4 ∨ m = 5 ∨ m = 6 ∨ m = 7 ∨ m = 8 ∨ m = 9 ∨ m = 10 := by omega
 rcases this with rfl | rfl | rfl | rfl | rfl | rfl | rfl | rfl | rfl | rfl <;> decide +kernel
theorem CK_iff (a0 : Int) (a1 a2 a3 : ByteArray) (a4 a5 : Int) (a6 : ByteArray) (ps : List Piece) (l : List Pick) :
  CK a0 a1 a2 a3 a4 a5 a6 ps l ↔ (1 ≤ a0 ∧ a0 ≤ 10) ∧ t0 a0 a1 ∧ t1 a0 a2 ∧ t2 a0 a3 ∧ t3 a0 a4 ∧ t4 a0 a5 ∧ t5 a0 a6 ps ∧ t6 a0 l ∧ t7 l := by
 constructor
 ·
  intro h
  have hb := CK_bd h
  obtain ⟨f1, f2, f3, f4, f5, f6, f7, f8, f9⟩ := bits a0 hb.k0
  obtain ⟨h0, ⟨z1, z2, z3, z4, z5, z6, z7, z8⟩, ht, ⟨r1, r2, r3, r4, r5⟩, ⟨q1, q2, q3, q4, q5, q6, q7⟩, hk⟩ := h
  refine ⟨hb.k0, ?_, ⟨fun h => z2 (f2.2 h), fun h => r1 (fun g => by have := f2.1 g; omega)⟩, ⟨fun h => r2 (fun g => f3.1 g h), fun h => z3 (f3.2 h)⟩, ⟨q1, q2, fun h => z4 (f4.2 h), fun h1 h2 h3 => by have := q3 (fun g => f4.1 g h1) h3; omega⟩, ⟨fun h => ?_, fun h => z5 (f5.2 h)⟩, ⟨fun h => ⟨r3 (fun g => f6.1 g h), r4, r5⟩, fun h => ⟨z6 (f6.2 h), z7 (f7.2 h)⟩⟩, ⟨q7, fun h => z8 (f8.2 h)⟩, hk⟩
  ·
   intro h1
   exact ⟨fun h2 => h1 (z1 (f1.2 h2)), ht h1⟩
  ·
   have := q6 (fun g => f5.1 g h)
   omega
 ·
  rintro ⟨hk, h0, h1, h2, h3, h4, h5, h6, h7⟩
  obtain ⟨f1, f2, f3, f4, f5, f6, f7, f8, f9⟩ := bits a0 hk
  have hp0 : ps.length = 0 → (Pc ps).2 = 0 ∧ (Pc ps).1 ≤ 1048576 := fun h => by
   obtain rfl := List.length_eq_zero_iff.1 h
   exact ⟨rfl, by decide⟩
  refine ⟨f9, ⟨fun g => ?_, fun g => h1.1 (f2.1 g), fun g => h2.2 (f3.1 g), fun g => h3.2.2.1 (f4.1 g), fun g => h4.2 (f5.1 g), fun g => (h5.2 (f6.1 g)).1, fun g => (h5.2 (f7.1 g)).2, fun g => h6.2 (f8.1 g)⟩, fun g => (h0 g).2, ⟨fun g => ?_, fun g => ?_, fun g => ?_, ?_, ?_⟩, ⟨h3.1, h3.2.1, fun g e => ?_, ?_, ?_, fun g => ?_, h6.1⟩, h7⟩
  ·
   rcases Nat.eq_zero_or_pos a1.size with e | e
   ·
    exact e
   ·
    exact absurd (f1.1 g) (h0 (by omega)).1
  ·
   by_cases e : a0 = 10
   ·
    exact absurd (f2.2 e) g
   ·
    exact h1.2 (by omega)
  ·
   by_cases e : 3 ≤ a0 ∧ a0 ≤ 9
   ·
    exact h2.1 e
   ·
    exact absurd (f3.2 e) g
  ·
   by_cases e : a0 = 3 ∨ a0 = 7
   ·
    exact (h5.1 e).1
   ·
    exact absurd (f6.2 e) g
  ·
   by_cases e : a0 = 3 ∨ a0 = 7
   ·
    exact (h5.1 e).2.1
   ·
    exact (hp0 (h5.2 e).2).1
  ·
   by_cases e : a0 = 3 ∨ a0 = 7
   ·
    exact (h5.1 e).2.2
   ·
    exact (hp0 (h5.2 e).2).2
  ·
   by_cases e1 : a0 < 10
   ·
    by_cases e2 : iD a0
    ·
     exact absurd e (h3.2.2.2 e2 e1)
    ·
     exact absurd (f4.2 e2) g
   ·
    omega
  ·
   by_cases e : a0 = 7
   ·
    have := (h4.1 e).1; omega
   ·
    have := h4.2 e; omega
  ·
   by_cases e : a0 = 7
   ·
    exact (h4.1 e).2
   ·
    have := h4.2 e; omega
  ·
   by_cases e : a0 = 7
   ·
    have := (h4.1 e).1; omega
   ·
    exact absurd (f5.2 e) g
theorem rcheck_eq (a0 : Int) (a1 a2 a3 : ByteArray) (a4 a5 : Int) (a6 : ByteArray) (ps : List Piece) (l : List Pick) (hsm : SmallCmd a1 a2 a3 a6 ps l) (h6 : Small6 a6 l) (k : Nat) (hk : 9223372036854775812 ≤ k) :
  stowageref16_Check.f k a0 a1 a2 a3 a4 a5 a6 (ps.map refC) (l.map refK) = some (if CK a0 a1 a2 a3 a4 a5 a6 ps l then 0 else 1) := by
 have J := fun c => rc_j0 a0 a1 a2 a3 a4 a5 a6 ps l hsm h6 c k hk
 unfold stowageref16_Check.f
 have hiff := CK_iff a0 a1 a2 a3 a4 a5 a6 ps l
 by_cases h1 : a0 < 1
 ·
  rw [if_pos h1, J, if_neg (by simp), if_neg (fun h => by have := (hiff.1 h).1; omega)]
 ·
  rw [if_neg h1, J]; congr 1
  exact ic ⟨fun h => hiff.2 ⟨⟨by omega, by have := of_decide_eq_false h.1; omega⟩, h.2⟩, fun h => ⟨decide_eq_false (by have := (hiff.1 h).1; omega), (hiff.1 h).2⟩⟩
end Go.Proofs.YtdidopoalmkhlaaDoor.Pure
end
section
namespace Go.Proofs.YtdidopoalmkhlaaDoor.Pure
open Go.RowKit Go.Proofs.YtdidopoalmkhlaaDoor.Od Go.Proofs.YtdidopoalmkhlaaDoorW.PrintWords Go.Proofs.YtdidopoalmkhlaaDoorW.PrintLast Go.Proofs.YtdidopoalmkhlaaDoorW.PrintMore
set_option linter.unusedVariables false
set_option linter.unusedSimpArgs false
theorem Bd.bare {a0 : Int} {a1 a2 a3 : ByteArray} {a4 a5 : Int} {a6 : ByteArray} {ps : List Piece} {l : List Pick} (h : Bd a0 a1 a2 a3 a4 a5 a6 ps l) : Bd a0 ⟨#[]⟩ a2 a3 a4 a5 a6 ps l :=
 ⟨h.k0, Nat.zero_le _, h.b2, h.b3, h.b4, h.b5, h.b6, h.hp, h.bp, h.hl, h.bl⟩
theorem Digest_eq (a0 : Int) (a1 a2 a3 : ByteArray) (a4 a5 : Int) (a6 : ByteArray) (ps : List Piece) (l : List Pick) (h : SmallCmd a1 a2 a3 a6 ps l) (k : Nat) (hk : 1073741828 ≤ k) :
  cmd_Digest.f k a0 a1 a2 a3 a4 a5 a6 ps l = some (if CK a0 a1 a2 a3 a4 a5 a6 ps l then (dig (toldB a0 ⟨#[]⟩ a2 a3 a4 a5 a6 ps l), 0) else ((⟨#[]⟩ : ByteArray), 1)) := by
 unfold cmd_Digest.f
 rw [check_eq _ _ _ _ _ _ _ _ _ h k hk]
 by_cases hc : CK a0 a1 a2 a3 a4 a5 a6 ps l
 ·
  obtain ⟨h1, h2⟩ := told_eq (CK_bd hc).bare k (by omega)
  rw [if_pos hc, if_pos hc, Option.bind_some, if_pos rfl, h1, Option.bind_some, dig_tag _ (by omega), Option.bind_some, dig_hex, Option.bind_some]
 ·
  rw [if_neg hc, if_neg hc, Option.bind_some, if_neg (by decide)]
theorem rp_ext {x y : RPick} (h0 : x.f0 = y.f0) (h1 : x.f1 = y.f1) : x = y := by cases x; cases y; cases h0; cases h1; rfl
theorem rc_ext {x y : RPiece} (h0 : x.f0 = y.f0) (h1 : x.f1 = y.f1) : x = y := by cases x; cases y; cases h0; cases h1; rfl
theorem dropRC (l : List RPiece) (i : Nat) (h : i < l.length) : l.drop i = rd_T95 l (i : Int) :: l.drop (i + 1) := by
 rw [List.drop_eq_getElem_cons h]; congr 1
 show l[i] = l.getD (i : Int).toNat _
 rw [Int.toNat_natCast, List.getD_eq_getElem?_getD, List.getElem?_eq_getElem h]; rfl
theorem dropRK (l : List RPick) (i : Nat) (h : i < l.length) : l.drop i = rd_T61 l (i : Int) :: l.drop (i + 1) := by
 rw [List.drop_eq_getElem_cons h]; congr 1
 show l[i] = l.getD (i : Int).toNat _
 rw [Int.toNat_natCast, List.getD_eq_getElem?_getD, List.getElem?_eq_getElem h]; rfl
section
variable (a0 : Int) (a1 a2 a3 : ByteArray) (a4 a5 : Int) (a6 : ByteArray) (ps : List RPiece) (l : List RPick) (b0 : Int) (b1 b2 b3 : ByteArray) (b4 b5 : Int) (b6 : ByteArray) (qs : List RPiece) (m : List RPick)
theorem Same_ne1 (hl : l.length ≤ 1048576) (hm : l.length = m.length) : ∀ (n i k : Nat), i + n = l.length → n < k → l.drop i ≠ m.drop i → stowageref16_Same.l1 k (i : Int) a0 a1 a2 a3 a4 a5 a6 ps l b0 b1 b2 b3 b4 b5 b6 qs m = some false := by
 intro n
 induction n with
 | zero =>
  intro i k hn hk hne
  exact absurd (by rw [List.drop_of_length_le (by omega), List.drop_of_length_le (by omega)]) hne
 | succ n ih =>
  intro i k hn hk hne
  obtain ⟨k, rfl⟩ : ∃ j, k = j + 1 := ⟨k - 1, by omega⟩
  rw [stowageref16_Same.l1, if_pos (by omega), if_pos (by omega), if_pos (by omega), w1 i (by omega)]
  rw [dropRK l i (by omega), dropRK m i (by omega)] at hne
  by_cases h0 : (rd_T61 l (i : Int)).f0 = (rd_T61 m (i : Int)).f0
  ·
   by_cases h1 : (rd_T61 l (i : Int)).f1 = (rd_T61 m (i : Int)).f1
   ·
    rw [rp_ext h0 h1] at hne ⊢
    rw [if_neg (by simp)]
    exact ih (i + 1) k (by omega) (by omega) (fun g => hne (by rw [g]))
   ·
    rw [if_pos (by simp [h0]; exact fun g => h1 ((ba_ext _ _).1 g))]
  ·
   rw [if_pos (by simp [h0])]
theorem Same_ne0 (hp : ps.length ≤ 1048576) (hq : ps.length = qs.length) (hl : l.length ≤ 1048576) (hm : l.length = m.length) (hz : ∀ k, 1048578 ≤ k → ps = qs → stowageref16_Same.l1 k ((0 : Nat) : Int) a0 a1 a2 a3 a4 a5 a6 ps l b0 b1 b2 b3 b4 b5 b6 qs m = some false) : ∀ (n i k : Nat), i + n = ps.length → n + 1048580 < k → ps.take i = qs.take i → stowageref16_Same.l0 k (i : Int) a0 a1 a2 a3 a4 a5 a6 ps l b0 b1 b2 b3 b4 b5 b6 qs m = some false := by
 intro n
 induction n with
 | zero =>
  intro i k hn hk ht
  obtain ⟨k, rfl⟩ : ∃ j, k = j + 1 := ⟨k - 1, by omega⟩
  rw [stowageref16_Same.l0, if_neg (by omega)]
  rw [List.take_of_length_le (by omega), List.take_of_length_le (by omega)] at ht
  exact hz k (by omega) ht
 | succ n ih =>
  intro i k hn hk ht
  obtain ⟨k, rfl⟩ : ∃ j, k = j + 1 := ⟨k - 1, by omega⟩
  rw [stowageref16_Same.l0, if_pos (by omega), if_pos (by omega), if_pos (by omega), w1 i (by omega)]
  by_cases h0 : (rd_T95 ps (i : Int)).f0 = (rd_T95 qs (i : Int)).f0
  ·
   by_cases h1 : (rd_T95 ps (i : Int)).f1 = (rd_T95 qs (i : Int)).f1
   ·
    have e := rc_ext h0 h1
    rw [if_neg (by rw [e]; simp)]
    refine ih (i + 1) k (by omega) (by omega) ?_
    have g1 := dropRC ps i (by omega)
    have g2 := dropRC qs i (by omega)
    rw [List.drop_eq_getElem_cons (by omega)] at g1 g2
    rw [List.take_succ_eq_append_getElem (by omega), List.take_succ_eq_append_getElem (by omega), ht, (List.cons.inj g1).1, (List.cons.inj g2).1, e]
   ·
    rw [if_pos (by simp [h1])]
  ·
   rw [if_pos (by simp; exact .inl (fun g => h0 ((ba_ext _ _).1 g)))]
theorem Same_ne (hp : ps.length ≤ 1048576) (hl : l.length ≤ 1048576) (hne : ¬ (a0 = b0 ∧ a1 = b1 ∧ a2 = b2 ∧ a3 = b3 ∧ a4 = b4 ∧ a5 = b5 ∧ a6 = b6 ∧ ps = qs ∧ l = m)) (k : Nat) (hk : 3000000 ≤ k) : stowageref16_Same.f k a0 a1 a2 a3 a4 a5 a6 ps l b0 b1 b2 b3 b4 b5 b6 qs m = some false := by
 obtain ⟨k, rfl⟩ : ∃ j, k = j + 1 := ⟨k - 1, by omega⟩
 have J : stowageref16_Same.j0 (k + 1) true a0 a1 a2 a3 a4 a5 a6 ps l b0 b1 b2 b3 b4 b5 b6 qs m = some false := by rw [stowageref16_Same.j0, if_pos rfl]
 unfold stowageref16_Same.f
 rw [J]
 by_cases h0 : a0 = b0
 ·
  rw [if_pos h0]
  by_cases h1 : a1.toList = b1.toList
  ·
   rw [if_pos h1]
   by_cases h2 : a2.toList = b2.toList
   ·
    rw [if_pos h2]
    by_cases h3 : a3.toList = b3.toList
    ·
     rw [if_pos h3]
     by_cases h4 : a4 = b4
     ·
      rw [if_pos h4]
      by_cases h5 : a5 = b5
      ·
       rw [if_pos h5]
       by_cases h6 : a6.toList = b6.toList
       ·
        rw [if_pos h6]
        by_cases h7 : (ps.length : Int) = (qs.length : Int)
        ·
         rw [if_pos h7]
         by_cases h8 : (l.length : Int) = (m.length : Int)
         ·
          rw [bne_eq_false_iff_eq.mpr h8, stowageref16_Same.j0, if_neg (by decide)]
          refine Same_ne0 a0 a1 a2 a3 a4 a5 a6 ps l b0 b1 b2 b3 b4 b5 b6 qs m hp (by omega) hl (by omega) (fun k hk hpq => ?_) ps.length 0 k (by omega) (by omega) rfl
          refine Same_ne1 a0 a1 a2 a3 a4 a5 a6 ps l b0 b1 b2 b3 b4 b5 b6 qs m hl (by omega) l.length 0 k (by omega) (by omega) ?_
          intro g
          exact hne ⟨h0, (ba_ext _ _).1 h1, (ba_ext _ _).1 h2, (ba_ext _ _).1 h3, h4, h5, (ba_ext _ _).1 h6, hpq, g⟩
         ·
          rw [bne_iff_ne.mpr h8, J]
        ·
         rw [if_neg h7]
       ·
        rw [if_neg h6]
      ·
       rw [if_neg h5]
     ·
      rw [if_neg h4]
    ·
     rw [if_neg h3]
   ·
    rw [if_neg h2]
  ·
   rw [if_neg h1]
 ·
  rw [if_neg h0]
end
theorem map_inj {α β : Type} {f : α → β} (hf : ∀ x y, f x = f y → x = y) : ∀ {l m : List α}, l.map f = m.map f → l = m
 | [], [], _ => rfl
 | [], _ :: _, h => by cases h
 | _ :: _, [], h => by cases h
 | x :: l, y :: m, h => by
  rw [List.map_cons, List.map_cons] at h
  rw [hf x y (List.cons.inj h).1, map_inj hf (List.cons.inj h).2]
theorem refC_inj (x y : Piece) (h : refC x = refC y) : x = y := by cases x; cases y; cases h; rfl
theorem refK_inj (x y : Pick) (h : refK x = refK y) : x = y := by cases x; cases y; cases h; rfl
theorem steps {a0 : Int} {a1 a2 a3 : ByteArray} {a4 a5 : Int} {a6 : ByteArray} {ps : List Piece} {l : List Pick} (hc : CK a0 a1 a2 a3 a4 a5 a6 ps l) (T : ByteArray) (hs' : T.size ≤ 1073741824) (rest : List UInt8) (h : T.data.toList = (toldB a0 a1 a2 a3 a4 a5 a6 ps l).data.toList ++ rest) (k : Nat) (hk : 40 ≤ k) :
  ∃ p0 p1 p2 p3 p4 p5 p6 p7 p8 p9 p10 : Nat, xn T 0 0 10 = (a0, (p0 : Int), 0) ∧ cmd_Decode_txt k (!nb (fb a0) 1) T (p0 : Int) 0 64 = some (a1, T, (p1 : Int), 0) ∧ cmd_Decode_txt k (!nb (fb a0) 2) T (p1 : Int) 0 63 = some (a2, T, (p2 : Int), 0) ∧ cmd_Decode_txt k (!nb (fb a0) 4) T (p2 : Int) 0 1024 = some (a3, T, (p3 : Int), 0) ∧
   cmd_Decode_num k (!nb (fb a0) 8) T (p3 : Int) 0 1099511627776 = some (a4, T, (p4 : Int), 0) ∧ cmd_Decode_num k (!nb (fb a0) 16) T (p4 : Int) 0 100 = some (a5, T, (p5 : Int), 0) ∧ cmd_Decode_txt k (!nb (fb a0) 32) T (p5 : Int) 0 64 = some (a6, T, (p6 : Int), 0) ∧ cmd_Decode_num k (!nb (fb a0) 64) T (p6 : Int) 0 512 = some ((ps.length : Int), T, (p7 : Int), 0) ∧
   cmd_Decode_l0 k ps.length T (p7 : Int) 0 [] = some (T, (p8 : Int), 0, ps) ∧ cmd_Decode_num k (!nb (fb a0) 128) T (p8 : Int) 0 100 = some ((l.length : Int), T, (p9 : Int), 0) ∧ cmd_Decode_l1 k l.length T (p9 : Int) 0 [] = some (T, (p10 : Int), 0, l) := by
 have hb := CK_bd hc
 have hL : T.data.toList.drop 0 = (num a0).data.toList ++ ((ot (nb (fb a0) 1) a1).data.toList ++ ((ot (nb (fb a0) 2) a2).data.toList ++ ((ot (nb (fb a0) 4) a3).data.toList ++ ((on (nb (fb a0) 8) a4).data.toList ++ ((on (nb (fb a0) 16) a5).data.toList ++ ((ot (nb (fb a0) 32) a6).data.toList ++ ((on (nb (fb a0) 64) (ps.length : Int)).data.toList ++ ((tpB ps).data.toList ++ ((on (nb (fb a0) 128) (l.length : Int)).data.toList ++ ((tkB l).data.toList ++ rest)))))))))) := by
  rw [List.drop_zero, h]
  unfold toldB
  simp only [al, List.append_assoc]
 obtain ⟨h0, ⟨z1, z2, z3, z4, z5, z6, z7, z8⟩, -⟩ := id hc
 obtain ⟨k0, b1, b2, b3, b4, b5, b6, hp, bp, hl, bl⟩ := hb
 have q0 := xn_back T 0 a0 10 _ (by omega) (by omega) (by omega) hL
 have d0 := drop_add _ _ _ _ hL
 rw [len_eq] at d0
 have s0 := size_le T 0 _ _ (num_pos a0) hL
 rw [len_eq] at s0
 obtain ⟨e1, d1, s1⟩ := dec_txt k (by omega) (nb (fb a0) 1) T a1 _ 64 _ hs' s0 (by omega) (by omega) (fun h => z1 (nb_zero h)) d0
 obtain ⟨e2, d2, s2⟩ := dec_txt k (by omega) (nb (fb a0) 2) T a2 _ 63 _ hs' s1 (by omega) (by omega) (fun h => z2 (nb_zero h)) d1
 obtain ⟨e3, d3, s3⟩ := dec_txt k (by omega) (nb (fb a0) 4) T a3 _ 1024 _ hs' s2 (by omega) (by omega) (fun h => z3 (nb_zero h)) d2
 obtain ⟨e4, d4, s4⟩ := dec_num k (by omega) (nb (fb a0) 8) T a4 _ 1099511627776 _ hs' s3 b4.1 b4.2 (by omega) (fun h => z4 (nb_zero h)) d3
 obtain ⟨e5, d5, s5⟩ := dec_num k (by omega) (nb (fb a0) 16) T a5 _ 100 _ hs' s4 b5.1 b5.2 (by omega) (fun h => z5 (nb_zero h)) d4
 obtain ⟨e6, d6, s6⟩ := dec_txt k (by omega) (nb (fb a0) 32) T a6 _ 64 _ hs' s5 (by omega) (by omega) (fun h => z6 (nb_zero h)) d5
 obtain ⟨e7, d7, s7⟩ := dec_num k (by omega) (nb (fb a0) 64) T (ps.length : Int) _ 512 _ hs' s6 (by omega) (by omega) (by omega) (fun h => by have := z7 (nb_zero h); omega) d6
 obtain ⟨e8, d8, s8⟩ := dec_l0 k (by omega) T hs' ps _ [] _ s7 (by rw [List.length_nil]; omega) bp d7
 obtain ⟨e9, d9, s9⟩ := dec_num k (by omega) (nb (fb a0) 128) T (l.length : Int) _ 100 _ hs' s8 (by omega) (by omega) (by omega) (fun h => by have := z8 (nb_zero h); omega) d8
 obtain ⟨e10, d10, s10⟩ := dec_l1 k (by omega) T hs' l _ [] _ s9 (by rw [List.length_nil]; omega) bl d9
 exact ⟨_, _, _, _, _, _, _, _, _, _, _, q0, e1, e2, e3, e4, e5, e6, e7, e8, e9, e10⟩
theorem uniq {a0 : Int} {a1 a2 a3 : ByteArray} {a4 a5 : Int} {a6 : ByteArray} {ps : List Piece} {l : List Pick} {b0 : Int} {b1 b2 b3 : ByteArray} {b4 b5 : Int} {b6 : ByteArray} {qs : List Piece} {m : List Pick} (hc : CK a0 a1 a2 a3 a4 a5 a6 ps l) (hd : CK b0 b1 b2 b3 b4 b5 b6 qs m) (r : List UInt8)
  (h : (toldB b0 b1 b2 b3 b4 b5 b6 qs m).data.toList = (toldB a0 a1 a2 a3 a4 a5 a6 ps l).data.toList ++ r) : a0 = b0 ∧ a1 = b1 ∧ a2 = b2 ∧ a3 = b3 ∧ a4 = b4 ∧ a5 = b5 ∧ a6 = b6 ∧ ps = qs ∧ l = m := by
 have hz := (told_eq (CK_bd hd) 40 (by omega)).2
 obtain ⟨p0, p1, p2, p3, p4, p5, p6, p7, p8, p9, p10, x0, x1, x2, x3, x4, x5, x6, x7, x8, x9, x10⟩ := steps hc _ (by omega) r h 40 (Nat.le_refl _)
 obtain ⟨q0, q1, q2, q3, q4, q5, q6, q7, q8, q9, q10, y0, y1, y2, y3, y4, y5, y6, y7, y8, y9, y10⟩ := steps hd _ (by omega) [] (List.append_nil _).symm 40 (Nat.le_refl _)
 generalize toldB b0 b1 b2 b3 b4 b5 b6 qs m = T at *
 have e0 := x0.symm.trans y0
 simp only [Prod.mk.injEq, and_true] at e0
 obtain ⟨rfl, e⟩ := e0
 obtain rfl : p0 = q0 := by omega
 have e1 := x1.symm.trans y1
 simp only [Option.some.injEq, Prod.mk.injEq, and_true, true_and] at e1
 obtain ⟨rfl, e⟩ := e1
 obtain rfl : p1 = q1 := by omega
 have e2 := x2.symm.trans y2
 simp only [Option.some.injEq, Prod.mk.injEq, and_true, true_and] at e2
 obtain ⟨rfl, e⟩ := e2
 obtain rfl : p2 = q2 := by omega
 have e3 := x3.symm.trans y3
 simp only [Option.some.injEq, Prod.mk.injEq, and_true, true_and] at e3
 obtain ⟨rfl, e⟩ := e3
 obtain rfl : p3 = q3 := by omega
 have e4 := x4.symm.trans y4
 simp only [Option.some.injEq, Prod.mk.injEq, and_true, true_and] at e4
 obtain ⟨rfl, e⟩ := e4
 obtain rfl : p4 = q4 := by omega
 have e5 := x5.symm.trans y5
 simp only [Option.some.injEq, Prod.mk.injEq, and_true, true_and] at e5
 obtain ⟨rfl, e⟩ := e5
 obtain rfl : p5 = q5 := by omega
 have e6 := x6.symm.trans y6
 simp only [Option.some.injEq, Prod.mk.injEq, and_true, true_and] at e6
 obtain ⟨rfl, e⟩ := e6
 obtain rfl : p6 = q6 := by omega
 have e7 := x7.symm.trans y7
 simp only [Option.some.injEq, Prod.mk.injEq, and_true, true_and] at e7
 obtain ⟨hn, e⟩ := e7
 obtain rfl : p7 = q7 := by omega
 have hn' : ps.length = qs.length := by omega
 rw [hn'] at x8
 have e8 := x8.symm.trans y8
 simp only [Option.some.injEq, Prod.mk.injEq, and_true, true_and] at e8
 obtain ⟨e, rfl⟩ := e8
 obtain rfl : p8 = q8 := by omega
 have e9 := x9.symm.trans y9
 simp only [Option.some.injEq, Prod.mk.injEq, and_true, true_and] at e9
 obtain ⟨hn2, e⟩ := e9
 obtain rfl : p9 = q9 := by omega
 have hn2' : l.length = m.length := by omega
 rw [hn2'] at x10
 have e10 := x10.symm.trans y10
 simp only [Option.some.injEq, Prod.mk.injEq, and_true, true_and] at e10
 obtain ⟨e, rfl⟩ := e10
 exact ⟨rfl, rfl, rfl, rfl, rfl, rfl, rfl, rfl, rfl⟩
end Go.Proofs.YtdidopoalmkhlaaDoor.Pure
end
section
namespace Go.Proofs.YtdidopoalmkhlaaDoor.Pure
open Go.RowKit Go.Proofs.YtdidopoalmkhlaaDoor.Od Go.Proofs.YtdidopoalmkhlaaDoorW.PrintWords Go.Proofs.YtdidopoalmkhlaaDoorW.PrintLast Go.Proofs.YtdidopoalmkhlaaDoorW.PrintMore
set_option linter.unusedVariables false
set_option linter.unusedSimpArgs false
theorem Enc_cases (a0 : Int) (a1 a2 a3 : ByteArray) (a4 a5 : Int) (a6 : ByteArray) (ps : List Piece) (l : List Pick) (h : SmallCmd a1 a2 a3 a6 ps l) (k : Nat) (hk : 1073741828 ≤ k) :
  ∃ s e, cmd_Encode.f k a0 a1 a2 a3 a4 a5 a6 ps l = some (s, e) ∧ s.size ≤ 1073741824 ∧ (e = 0 → CK a0 a1 a2 a3 a4 a5 a6 ps l ∧ s = toldB a0 a1 a2 a3 a4 a5 a6 ps l) := by
 by_cases hc : CK a0 a1 a2 a3 a4 a5 a6 ps l
 ·
  refine ⟨_, _, by rw [Encode_eq _ _ _ _ _ _ _ _ _ h k hk, if_pos hc], ?_, fun _ => ⟨hc, rfl⟩⟩
  have := (told_eq (CK_bd hc) 40 (by omega)).2
  omega
 ·
  exact ⟨_, _, by rw [Encode_eq _ _ _ _ _ _ _ _ _ h k hk, if_neg hc], Nat.zero_le _, fun h => absurd h (by decide)⟩
theorem CmdApart_F1 (a0 : Int) (a1 a2 a3 : ByteArray) (a4 a5 : Int) (a6 : ByteArray) (ps : List Piece) (l : List Pick) (b0 : Int) (b1 b2 b3 : ByteArray) (b4 b5 : Int) (b6 : ByteArray) (qs : List Piece) (m : List Pick) (h : SmallCmd a1 a2 a3 a6 ps l) (g : SmallCmd b1 b2 b3 b6 qs m) (k : Nat) (hk : 1073741828 ≤ k) :
  stowagelaw16_CmdApart.F1 k a0 a1 a2 a3 a4 a5 a6 ps l b0 b1 b2 b3 b4 b5 b6 qs m := by
 unfold stowagelaw16_CmdApart.F1
 obtain ⟨a, e, ha, za, ca⟩ := Enc_cases a0 a1 a2 a3 a4 a5 a6 ps l h k hk
 obtain ⟨b, f, hb, zb, cb⟩ := Enc_cases b0 b1 b2 b3 b4 b5 b6 qs m g k hk
 refine ⟨a, e, b, f, ha, hb, za, zb, fun he hf => ?_⟩
 obtain ⟨hc, rfl⟩ := ca he
 obtain ⟨hd, rfl⟩ := cb hf
 refine ⟨_, _, _, _, _, _, _, _, _, _, _, _, _, _, _, _, _, _, Ref_eq2 a0 a1 a2 a3 a4 a5 a6 ps l h.hp h.hl k (by omega), Ref_eq2 b0 b1 b2 b3 b4 b5 b6 qs m g.hp g.hl k (by omega), ?_, ?_⟩
 ·
  by_cases he : a0 = b0 ∧ a1 = b1 ∧ a2 = b2 ∧ a3 = b3 ∧ a4 = b4 ∧ a5 = b5 ∧ a6 = b6 ∧ ps = qs ∧ l = m
  ·
   obtain ⟨rfl, rfl, rfl, rfl, rfl, rfl, rfl, rfl, rfl⟩ := he
   rw [Same_self a0 a1 a2 a3 a4 a5 a6 _ _ (by rw [List.length_map]; exact h.hp) (by rw [List.length_map]; exact h.hl) k (by omega)]
   exact congrArg some (beq_self_eq_true _).symm
  ·
   rw [Same_ne a0 a1 a2 a3 a4 a5 a6 _ _ b0 b1 b2 b3 b4 b5 b6 _ _ (by rw [List.length_map]; exact h.hp) (by rw [List.length_map]; exact h.hl) (fun e => he ⟨e.1, e.2.1, e.2.2.1, e.2.2.2.1, e.2.2.2.2.1, e.2.2.2.2.2.1, e.2.2.2.2.2.2.1, map_inj refC_inj e.2.2.2.2.2.2.2.1, map_inj refK_inj e.2.2.2.2.2.2.2.2⟩) k (by omega)]
   refine congrArg some (beq_eq_false_iff_ne.mpr fun e => he ?_).symm
   refine uniq hc hd [] ?_
   rw [List.append_nil, (ba_ext _ _).1 e]
 ·
  intro hne hle hex
  apply hne
  have e1 : ((toldB b0 b1 b2 b3 b4 b5 b6 qs m).extract 0 (toldB a0 a1 a2 a3 a4 a5 a6 ps l).size).data.toList = (toldB a0 a1 a2 a3 a4 a5 a6 ps l).data.toList := by rw [(ba_ext _ _).1 hex]
  rw [extract_list, List.drop_zero, Nat.sub_zero] at e1
  have e2 : (toldB b0 b1 b2 b3 b4 b5 b6 qs m).data.toList = (toldB a0 a1 a2 a3 a4 a5 a6 ps l).data.toList ++ (toldB b0 b1 b2 b3 b4 b5 b6 qs m).data.toList.drop (toldB a0 a1 a2 a3 a4 a5 a6 ps l).size := by
   rw [← e1, List.take_append_drop]
  obtain ⟨rfl, rfl, rfl, rfl, rfl, rfl, rfl, rfl, rfl⟩ := uniq hc hd _ e2
  rfl
theorem Dig_cases (a0 : Int) (a1 a2 a3 : ByteArray) (a4 a5 : Int) (a6 : ByteArray) (ps : List Piece) (l : List Pick) (h : SmallCmd a1 a2 a3 a6 ps l) (k : Nat) (hk : 1073741828 ≤ k) :
  ∃ x g, cmd_Digest.f k a0 a1 a2 a3 a4 a5 a6 ps l = some (x, g) ∧ (g = if CK a0 a1 a2 a3 a4 a5 a6 ps l then 0 else 1) ∧ (g = 0 → x = dig (toldB a0 ⟨#[]⟩ a2 a3 a4 a5 a6 ps l)) := by
 by_cases hc : CK a0 a1 a2 a3 a4 a5 a6 ps l
 ·
  exact ⟨_, _, by rw [Digest_eq _ _ _ _ _ _ _ _ _ h k hk, if_pos hc], by rw [if_pos hc], fun _ => rfl⟩
 ·
  exact ⟨_, _, by rw [Digest_eq _ _ _ _ _ _ _ _ _ h k hk, if_neg hc], by rw [if_neg hc], fun h => absurd h (by decide)⟩
theorem CmdApart_F2 (a0 : Int) (a1 a2 a3 : ByteArray) (a4 a5 : Int) (a6 : ByteArray) (ps : List Piece) (l : List Pick) (t : ByteArray) (h : SmallCmd a1 a2 a3 a6 ps l) (h6 : Small6 a6 l) (ht : t.size ≤ 1073741824) (k : Nat) (hk : 9223372036854775812 ≤ k) :
  stowagelaw16_CmdApart.F2 k a0 a1 a2 a3 a4 a5 a6 ps l t := by
 unfold stowagelaw16_CmdApart.F2
 obtain ⟨x, g, h1, h2, h3⟩ := Dig_cases a0 a1 a2 a3 a4 a5 a6 ps l h k (by omega)
 obtain ⟨y, e, g1, g2, g3⟩ := Dig_cases a0 t a2 a3 a4 a5 a6 ps l ⟨ht, h.s2, h.s3, h.s6, h.hp, h.sp, h.hl, h.sl⟩ k (by omega)
 refine ⟨awake_true k (by omega), x, g, h1, fun _ => ?_, fun hg _ => ⟨y, e, g1, fun he => by rw [h3 hg, g3 he]⟩⟩
 exact ⟨_, _, _, _, _, _, _, _, _, _, Ref_eq2 a0 a1 a2 a3 a4 a5 a6 ps l h.hp h.hl k (by omega), rcheck_eq a0 a1 a2 a3 a4 a5 a6 ps l h h6 k hk, by rw [h2]⟩
theorem CmdApart_true (a0 : Int) (a1 a2 a3 : ByteArray) (a4 a5 : Int) (a6 : ByteArray) (ps : List Piece) (l : List Pick) (b0 : Int) (b1 b2 b3 : ByteArray) (b4 b5 : Int) (b6 : ByteArray) (qs : List Piece) (m : List Pick) (t : ByteArray) (h : SmallCmd a1 a2 a3 a6 ps l) (h6 : Small6 a6 l) (g : SmallCmd b1 b2 b3 b6 qs m) (ht : t.size ≤ 1073741824) :
  ∃ k, stowagelaw16_CmdApart.f k a0 a1 a2 a3 a4 a5 a6 ps l b0 b1 b2 b3 b4 b5 b6 qs m t = some true := by
 refine ⟨9223372036854775812, ?_⟩
 unfold stowagelaw16_CmdApart.f
 rw [if_pos ⟨CmdApart_F1 a0 a1 a2 a3 a4 a5 a6 ps l b0 b1 b2 b3 b4 b5 b6 qs m h g _ (by omega), CmdApart_F2 a0 a1 a2 a3 a4 a5 a6 ps l t h h6 ht _ (Nat.le_refl _)⟩]
end Go.Proofs.YtdidopoalmkhlaaDoor.Pure
end
section
namespace Go.Proofs.YtdidopoalmkhlaaDoor.KO
open Go Go.RowKit Go.Proofs.YtdidopoalmkhlaaDoorW.PrintWords Go.Proofs.YtdidopoalmkhlaaDoor.Od 
theorem small6 (y : Cmd) {B : Nat} (h : (1 + ((y.f1.size + 1) + ((y.f2.size + 1) + ((y.f3.size + 1) + (1 + (1 + ((y.f6.size + 1) + (((y.f7.map fun z => ((z.f0.size + 1) + 1) + 1).sum + 1) + ((y.f8.map fun z => (1 + (z.f1.size + 1)) + 1).sum + 1))))))))) + 1 ≤ B) (hB : B ≤ 1048576) : Pure.Small6 y.f6 y.f8 := by
 obtain ⟨h3, h4⟩ := sum_ge (fun z : Pure.Pick => (1 + (z.f1.size + 1)) + 1) (fun z => by omega) y.f8
 generalize (y.f7.map fun z : Pure.Piece => ((z.f0.size + 1) + 1) + 1).sum = X at h
 generalize (y.f8.map fun z : Pure.Pick => (1 + (z.f1.size + 1)) + 1).sum = Y at h h3 h4
 exact ⟨by omega, fun z hz => by have := h4 z hz; omega⟩
end Go.Proofs.YtdidopoalmkhlaaDoor.KO
end
section
/- CmdApart, second form: two commands have the same text just if they are the same, and none is the beginning of another one; a digest does not hang on the token. Its conditions: those of the given card. -/
namespace Go.Proofs.YtdidopoalmkhlaaDoor.cmdApart
open Go.ChangeShapes Go.WideShapes Go.ChangeAt Go.RowKit Go.Proofs.YtdidopoalmkhlaaDoor.Od Go.Proofs.YtdidopoalmkhlaaDoorW.PrintWords
open Go.ChangeMaps (open_string shut_string)
set_option linter.unusedVariables false
set_option linter.unusedSimpArgs false
theorem own : ownKnob Tryd.prog.godebug = none := by kernel_rfl
theorem laidOut : laidOutB Tryd.prog = true := by kernel_rfl
set_option maxRecDepth 100000 in
/-- What the walk gives, for every argument and every world: the same for both forms. -/
theorem contract (H : Type) (enc : TypeId × Value → H) (W : World) (base : Nat) (args : Array Value) (ds gs : List (DataW H)) (before : List MemPlace)
  (hval : ∀ (j : Nat) t v, Tryd.f6.params[j]? = some t → args[j]? = some v → Value.okWide Tryd.prog W .any base t v)
  (hW : DataW.Whole enc Tryd.prog Tryd.f6.params.toList Rows.cmdApartSpec.vars false W args.toList ds gs before)
  (hsz : (DataW.weightsEach Tryd.prog (Tryd.f6.params.toList ++ (OpenSpec.ofChange Rows.cmdApartSpec).bare.plain.varTypes Tryd.prog) (ds ++ gs)).all (· ≤ reachBytes) = true) (hcond : ∀ k, (Rows.OpenSpec.upto Rows.cmdApartSpec).cond = some k → k H (ds ++ gs) = true) (hG : GG W) :
  Calls Tryd.prog 6 args W fun e W' => ∃ v, e = .returned v ∧ Rows.cmdApartSpec.post enc Tryd.prog Tryd.f6 false true false false W args v W' := by
 have hW' := hW
 obtain ⟨p, q, hA0, hV, rfl, hfz, hnd⟩ := hW
 have hA : DataW.TrodAll enc Tryd.prog W 0 (fun _ => true) true Tryd.f6.params.toList args.toList ds p := hA0
 rw [Tryd.params6] at hA hval hsz
 obtain ⟨v0, vs0, d0, ds0, p0, q0, hargs, rfl, rfl, h0, r0⟩ := trodAll_cons hA
 obtain ⟨v1, vs1, d1, ds1, p1, q1, rfl, rfl, rfl, h1, r1⟩ := trodAll_cons r0
 obtain ⟨v2, vs2, d2, ds2, p2, q2, rfl, rfl, rfl, h2, r2⟩ := trodAll_cons r1
 obtain ⟨rfl, rfl, rfl⟩ := trodAll_nil r2
 obtain rfl : args = #[v0, v1, v2] := by cases args; simp_all
 obtain ⟨rfl, rfl⟩ := trodVars_none hV
 have k0 := h0
 have lt0 : ∀ x ∈ p0, x.block < W.heap.size := by obtain ⟨m, hm⟩ := k0; exact DataW.trod_lt m _ _ _ hm
 obtain ⟨fuel0, hf0⟩ := h0
 obtain ⟨x0, hK0, wt0, bk0⟩ := (KO.opensCmd).out enc W _ _ _ fuel0 _ _ hf0
 have hc0 := KO.kCmd_open hK0
 obtain ⟨A0_7, c0_7, A0_8, c0_8, hc0, hcap0_7, hr0_7, hcap0_8, hr0_8⟩ := hc0
 obtain rfl : v0 = .agg #[.int .i64 x0.f0, .string x0.f1, .string x0.f2, .string x0.f3, .int .i64 x0.f4, .int .i64 x0.f5, .string x0.f6, .slice A0_7 x0.f7.length c0_7, .slice A0_8 x0.f8.length c0_8] := by cases v0 <;> simp [Value.cells] at hc0 ⊢ <;> first | exact Array.ext' hc0 | (rename_i xs; exact Array.ext' hc0) | (cases hc0)
 have k1 := h1
 have lt1 : ∀ x ∈ p1, x.block < W.heap.size := by obtain ⟨m, hm⟩ := k1; exact DataW.trod_lt m _ _ _ hm
 obtain ⟨fuel1, hf1⟩ := h1
 obtain ⟨x1, hK1, wt1, bk1⟩ := (KO.opensCmd).out enc W _ _ _ fuel1 _ _ hf1
 have hc1 := KO.kCmd_open hK1
 obtain ⟨A1_7, c1_7, A1_8, c1_8, hc1, hcap1_7, hr1_7, hcap1_8, hr1_8⟩ := hc1
 obtain rfl : v1 = .agg #[.int .i64 x1.f0, .string x1.f1, .string x1.f2, .string x1.f3, .int .i64 x1.f4, .int .i64 x1.f5, .string x1.f6, .slice A1_7 x1.f7.length c1_7, .slice A1_8 x1.f8.length c1_8] := by cases v1 <;> simp [Value.cells] at hc1 ⊢ <;> first | exact Array.ext' hc1 | (rename_i xs; exact Array.ext' hc1) | (cases hc1)
 obtain ⟨a2, rfl, rfl, rfl, y2⟩ := open_string Tryd.underlying9 (hval 2 9 v2 rfl rfl) h2
 have hup := hcond _ rfl
 simp only [Rows.uptoSmall, decide_eq_true_eq, List.cons_append, List.nil_append, Rows.uptoBulkAll, Rows.uptoBulk] at hup
 have e2 := Array.length_toList (xs := a2.data)
 have g2 : a2.data.size = a2.size := rfl
 have hb0 : (1 + ((x0.f1.size + 1) + ((x0.f2.size + 1) + ((x0.f3.size + 1) + (1 + (1 + ((x0.f6.size + 1) + (((x0.f7.map fun z => ((z.f0.size + 1) + 1) + 1).sum + 1) + ((x0.f8.map fun z => (1 + (z.f1.size + 1)) + 1).sum + 1))))))))) + 1 ≤ Rows.uptoBulk d0 := bk0
 have hb1 : (1 + ((x1.f1.size + 1) + ((x1.f2.size + 1) + ((x1.f3.size + 1) + (1 + (1 + ((x1.f6.size + 1) + (((x1.f7.map fun z => ((z.f0.size + 1) + 1) + 1).sum + 1) + ((x1.f8.map fun z => (1 + (z.f1.size + 1)) + 1).sum + 1))))))))) + 1 ≤ Rows.uptoBulk d1 := bk1
 have hs0 := KO.small_cmd x0 hb0 (by omega)
 have h60 := KO.small6 x0 hb0 (by omega)
 have hs1 := KO.small_cmd x1 hb1 (by omega)
 obtain ⟨k, hk⟩ := Pure.CmdApart_true x0.f0 x0.f1 x0.f2 x0.f3 x0.f4 x0.f5 x0.f6 x0.f7 x0.f8 x1.f0 x1.f1 x1.f2 x1.f3 x1.f4 x1.f5 x1.f6 x1.f7 x1.f8 a2 hs0 h60 hs1 (by omega)
 refine (stowagelaw16_CmdApart.calls k x0.f0 x0.f1 x0.f2 x0.f3 x0.f4 x0.f5 x0.f6 _ _ x0.f7 _ _ x0.f8 x1.f0 x1.f1 x1.f2 x1.f3 x1.f4 x1.f5 x1.f6 _ _ x1.f7 _ _ x1.f8 a2 true W hr0_7 hcap0_7 hr0_8 hcap0_8 hr1_7 hcap1_7 hr1_8 hcap1_8 hk hG).mono fun e W' ⟨he, bel⟩ => ?_
 subst he
 exact ⟨_, rfl, _, _, _, [], _, [], hW', trodAll_mk1 (shut_bool Tryd.underlying4 _), (trodAll_cons_mk (Below.trod laidOut (by kernel_rfl) (of_decide_eq_true (by kernel_rfl)) k0 bel lt0) (trodAll_cons_mk (Below.trod laidOut (by kernel_rfl) (of_decide_eq_true (by kernel_rfl)) k1 bel lt1) (trodAll_cons_mk (shut_string Tryd.underlying9 y2) trodAll_mk0))), rfl, bel.frame _, fun h => by cases h⟩
/-- The cells of a datum without pointers. -/
def flat : DataW Unit → List Value
 | .lit (.int k n) => [.int k n]
 | .agg xs => flats xs
 | _ => []
where flats : List (DataW Unit) → List Value
 | [] => []
 | x :: xs => flat x ++ flats xs
def put (cs : List Value) : Obj → Obj
 | .cells _ t z => .cells cs.toArray t z
 | ob => ob
/-- A world for the witness: the listed tables hold what their text lays. -/
noncomputable def laidWorld (os : Os) : World :=
 { World.holding Tryd.prog os ⟨#[], #[], []⟩ with heap := Rows.cmdApartUptoRow.laid.foldl (fun h x => match Tryd.prog.globalNamed x.1 with | some g => h.modify g (put (flat x.2)) | none => h) (World.holding Tryd.prog os ⟨#[], #[], []⟩).heap }
theorem laid_met (os : Os) : laidMet Tryd.prog Rows.cmdApartUptoRow.laid ((laidWorld os).forCall (fun _ _ => 0) ⟨#[], #[.agg #[.int .i64 0, .string ByteArray.empty, .string ByteArray.empty, .string ByteArray.empty, .int .i64 0, .int .i64 0, .string ByteArray.empty, .slice none 0 0, .slice none 0 0], .agg #[.int .i64 0, .string ByteArray.empty, .string ByteArray.empty, .string ByteArray.empty, .int .i64 0, .int .i64 0, .string ByteArray.empty, .slice none 0 0, .slice none 0 0], .string ByteArray.empty], []⟩).memory :=
 laidMet_of_run3 8 (by kernel_rfl) (by kernel_rfl) (by kernel_rfl)
theorem reads (os : Os) {H : Type} (enc : TypeId × Value → H) : ∃ places, DataW.whole enc Tryd.prog ((laidWorld os).forCall (fun _ _ => 0) ⟨#[], #[.agg #[.int .i64 0, .string ByteArray.empty, .string ByteArray.empty, .string ByteArray.empty, .int .i64 0, .int .i64 0, .string ByteArray.empty, .slice none 0 0, .slice none 0 0], .agg #[.int .i64 0, .string ByteArray.empty, .string ByteArray.empty, .string ByteArray.empty, .int .i64 0, .int .i64 0, .string ByteArray.empty, .slice none 0 0, .slice none 0 0], .string ByteArray.empty], []⟩).memory Tryd.f6.params.toList Rows.cmdApartSpec.vars false (#[.agg #[.int .i64 0, .string ByteArray.empty, .string ByteArray.empty, .string ByteArray.empty, .int .i64 0, .int .i64 0, .string ByteArray.empty, .slice none 0 0, .slice none 0 0], .agg #[.int .i64 0, .string ByteArray.empty, .string ByteArray.empty, .string ByteArray.empty, .int .i64 0, .int .i64 0, .string ByteArray.empty, .slice none 0 0, .slice none 0 0], .string ByteArray.empty] : Array Value).toList 8 = some ([.agg [.lit (.int .i64 0), .lit (.string []), .lit (.string []), .lit (.string []), .lit (.int .i64 0), .lit (.int .i64 0), .lit (.string []), .nil, .nil], .agg [.lit (.int .i64 0), .lit (.string []), .lit (.string []), .lit (.string []), .lit (.int .i64 0), .lit (.int .i64 0), .lit (.string []), .nil, .nil], .lit (.string [])], [], places) :=
 ⟨[], by kernel_rfl⟩
set_option maxRecDepth 100000 in
theorem lifted (os : Os) (started : os.Started) (H : Type) (enc : TypeId × Value → H) (F : Stop.Interp) :
  ReturnsInHanded {} Tryd.checked os 6 .any ((Rows.OpenSpec.upto Rows.cmdApartSpec).preRow enc Tryd.prog Tryd.f6 Rows.cmdApartUptoRow.domain false Rows.cmdApartUptoRow.laid) (((Rows.OpenSpec.upto Rows.cmdApartSpec).at F).post enc Tryd.prog Tryd.f6 false true false false) := by
 obtain ⟨places, hx⟩ := reads os enc
 refine returnsInHanded_of_row (C := Tryd.checked) (s := (Rows.OpenSpec.upto Rows.cmdApartSpec)) own started (by kernel_rfl) Tryd.func6
  (witness_row_at (enc := enc) (C := Tryd.checked) false (laidWorld os) #[.agg #[.int .i64 0, .string ByteArray.empty, .string ByteArray.empty, .string ByteArray.empty, .int .i64 0, .int .i64 0, .string ByteArray.empty, .slice none 0 0, .slice none 0 0], .agg #[.int .i64 0, .string ByteArray.empty, .string ByteArray.empty, .string ByteArray.empty, .int .i64 0, .int .i64 0, .string ByteArray.empty, .slice none 0 0, .slice none 0 0], .string ByteArray.empty] rfl (by kernel_rfl) (by kernel_rfl) (by kernel_rfl)
   (OpenSpec.preRow_of_cond 8 hx (by kernel_rfl) (fun k hk => by cases hk; kernel_rfl) (by kernel_rfl) (laid_met os))) ?_
 intro W base args ds gs before hval hW _ hcond hsz hlaid hsh _
 exact contract H enc W base args ds gs before hval hW hsz hcond ⟨KO.table_of_laid hlaid, (Go.Proofs.cell_of_shapedOpen_int (zero := #[.int .i64 0]) (t := 3) hsh (of_decide_eq_true (by kernel_rfl)) (by kernel_rfl) rfl (by kernel_rfl) (by kernel_rfl) Tryd.underlying3)⟩
theorem said : Rows.CmdApartUptoSaid :=
 OpenClaim.holds_of_cond 6 Tryd.f6 rfl rfl rfl rfl rfl rfl rfl ⟨rfl, rfl, rfl, rfl, rfl⟩ rfl rfl rfl rfl rfl (by kernel_rfl) Tryd.func6 (by kernel_rfl)
  (of_decide_eq_true (by kernel_rfl)) (by unfold Func.isWrapper; first | (rw [if_pos (by decide +kernel)]; kernel_rfl) | (rw [if_neg (by decide +kernel)]; exact ⟨rfl, rfl⟩))
  (fun os started H enc _ F => by rw [OpenClaim.pre_eq_preRow]; exact lifted os started H enc F)
/-- No parameter wants a stand-in; the program's own looks are off: what the card asks. -/
theorem plain (f : FuncId) (fn : Func) (hf : Tryd.pinned.checked.prog.funcNamed "stowage/stowagelaw16.CmdApart" = some f) (hfn : Tryd.pinned.checked.prog.funcs[f]? = some fn) :
  false = Tryd.pinned.checked.prog.looks [] ∧ ∀ (j : Nat) t, fn.params[j]? = some t → Tryd.pinned.checked.prog.wantsStandIn t = false := by
 obtain rfl : f = 6 := Option.some.inj ((show Tryd.prog.funcNamed "stowage/stowagelaw16.CmdApart" = some 6 by kernel_rfl).symm.trans hf) |>.symm
 obtain rfl : fn = Tryd.f6 := (Option.some.inj (Tryd.func6.symm.trans hfn)).symm
 refine ⟨by kernel_rfl, fun j t ht => ?_⟩
 rw [Tryd.params6] at ht
 have hm := Array.mem_of_getElem? ht
 simp only [List.mem_toArray, List.mem_cons, List.not_mem_nil, or_false] at hm
 rcases hm with rfl | rfl | rfl
 ·
  exact (show Tryd.prog.wantsStandIn 25 = false by kernel_rfl)
 ·
  exact (show Tryd.prog.wantsStandIn 25 = false by kernel_rfl)
 ·
  exact (show Tryd.prog.wantsStandIn 9 = false by kernel_rfl)
/-- The card. -/
theorem card : Rows.CmdApartUptoCardSaid :=
 Claim7.holds_tied_plain_at .later [] _ _ _ _ said (fun _ h => by cases h) (by kernel_rfl) (fun _ h => by cases h) cmdApartUpto_row_tie rfl ⟨rfl, rfl⟩ (by kernel_rfl) rfl plain (by kernel_rfl)
end Go.Proofs.YtdidopoalmkhlaaDoor.cmdApart
namespace Go.Proofs.YtdidopoalmkhlaaDoor
theorem cmdApart_cardUpto : Rows.CmdApartUptoCardSaid := cmdApart.card
end Go.Proofs.YtdidopoalmkhlaaDoor
end
