/- Merged of several texts of this session's by merge.py. -/
import Derived.Test.YtdidopoalmkhlaaDoorMo7
import Derived.Test.YtdidopoalmkhlaaDoorCards
import Derived.Test.YtdidopoalmkhlaaDoorTie
import Derived.WalkKit
import Derived.ProofKit
import Derived.OpenShut
import Derived.Below
import Derived.Carry
import Derived.Deep.DeepHandedRow
import Derived.Deep.DeepLaidRun
import Derived.Test.YtdidopoalmkhlaaDoorMo3
import Derived.Test.YtdidopoalmkhlaaDoorMo2
import Derived.HandedShaped
section
namespace Go.Proofs.YtdidopoalmkhlaaDoor.Pure
open Go.RowKit Go.Proofs.YtdidopoalmkhlaaDoor.Oo Go.Proofs.YtdidopoalmkhlaaDoorW.PrintWords Go.Proofs.YtdidopoalmkhlaaDoorW.PrintLast Go.Proofs.YtdidopoalmkhlaaDoorW.PrintMore
set_option linter.unusedVariables false
set_option linter.unusedSimpArgs false
def okO (c i : Int) (s : ByteArray) : Prop := 0 ≤ c ∧ c ≤ 999 ∧ 0 ≤ i ∧ i ≤ 1099511627776 ∧ s.size ≤ 64
def outT (c i : Int) (s : ByteArray) : ByteArray := num c ++ num i ++ txt s
theorem enc_ok (c i : Int) (s : ByteArray) (h : okO c i s) (k : Nat) (hk : 20 ≤ k) : cmd_EncodeOut.f k c i s = some (outT c i s, 0) := by
 obtain ⟨h1, h2, h3, h4, h5⟩ := h
 obtain ⟨k, rfl⟩ : ∃ j, k = j + 1 := ⟨k - 1, by omega⟩
 unfold cmd_EncodeOut.f
 have e1 := num_size c
 have e2 := num_size i
 have e3 := txt_size s
 rw [if_neg (by omega), if_neg (by omega), if_neg (by omega), if_neg (by omega), decide_eq_false (by omega), cmd_EncodeOut.j0, if_neg (by simp), IntWalk.u64_in c (by omega), IntWalk.u64_in i (by omega), oct_Number c h1 (by omega) k (by omega), Option.bind_some, oct_Number i h3 (by omega) k (by omega), Option.bind_some, if_pos (by omega), oct_Text s (by omega) k (by omega), Option.bind_some, if_pos (by rw [ByteArray.size_append]; omega)]
 rfl
theorem enc_no (c i : Int) (s : ByteArray) (h : ¬ okO c i s) (k : Nat) (hk : 20 ≤ k) : cmd_EncodeOut.f k c i s = some ((⟨#[]⟩ : ByteArray), 1) := by
 obtain ⟨k, rfl⟩ : ∃ j, k = j + 1 := ⟨k - 1, by omega⟩
 have hj : cmd_EncodeOut.j0 (k + 1) true c i s = some ((⟨#[]⟩ : ByteArray), 1) := by rw [cmd_EncodeOut.j0, if_pos rfl]
 unfold cmd_EncodeOut.f
 unfold okO at h
 by_cases h1 : c < 0
 ·
  rw [if_pos h1, hj]
 by_cases h2 : c > 999
 ·
  rw [if_neg h1, if_pos h2, hj]
 by_cases h3 : i < 0
 ·
  rw [if_neg h1, if_neg h2, if_pos h3, hj]
 by_cases h4 : i > 1099511627776
 ·
  rw [if_neg h1, if_neg h2, if_neg h3, if_pos h4, hj]
 rw [if_neg h1, if_neg h2, if_neg h3, if_neg h4, decide_eq_true (by omega), hj]
theorem renc_ok (c i : Int) (s : ByteArray) (h : okO c i s) (k : Nat) (hk : 20 ≤ k) : stowageref16_EncodeOut.f k c i s = some (outT c i s, 0) := by
 obtain ⟨h1, h2, h3, h4, h5⟩ := h
 obtain ⟨k, rfl⟩ : ∃ j, k = j + 1 := ⟨k - 1, by omega⟩
 unfold stowageref16_EncodeOut.f
 have e1 := num_size c
 have e2 := num_size i
 have e3 := txt_size s
 rw [if_neg (by omega), if_neg (by omega), if_neg (by omega), if_neg (by omega), decide_eq_false (by omega), stowageref16_EncodeOut.j0, if_neg (by simp)]
 unfold stowageref16_number.f
 rw [IntWalk.u64_in c (by omega), IntWalk.u64_in i (by omega), ref_Number c h1 (by omega) k (by omega), Option.bind_some, Option.bind_some, ref_Number i h3 (by omega) k (by omega), Option.bind_some, Option.bind_some, if_pos (by omega), ref_Text s (by omega) k (by omega), Option.bind_some, if_pos (by rw [ByteArray.size_append]; omega)]
 rfl
theorem renc_no (c i : Int) (s : ByteArray) (h : ¬ okO c i s) (k : Nat) (hk : 20 ≤ k) : stowageref16_EncodeOut.f k c i s = some ((⟨#[]⟩ : ByteArray), 1) := by
 obtain ⟨k, rfl⟩ : ∃ j, k = j + 1 := ⟨k - 1, by omega⟩
 have hj : stowageref16_EncodeOut.j0 (k + 1) true c i s = some ((⟨#[]⟩ : ByteArray), 1) := by rw [stowageref16_EncodeOut.j0, if_pos rfl]
 unfold stowageref16_EncodeOut.f
 unfold okO at h
 by_cases h1 : c < 0
 ·
  rw [if_pos h1, hj]
 by_cases h2 : c > 999
 ·
  rw [if_neg h1, if_pos h2, hj]
 by_cases h3 : i < 0
 ·
  rw [if_neg h1, if_neg h2, if_pos h3, hj]
 by_cases h4 : i > 1099511627776
 ·
  rw [if_neg h1, if_neg h2, if_neg h3, if_pos h4, hj]
 rw [if_neg h1, if_neg h2, if_neg h3, if_neg h4, decide_eq_true (by omega), hj]
def o1 (s : ByteArray) : Int × Int × Int := xn s 0 0 999
def o2 (s : ByteArray) : Int × Int × Int := xn s (o1 s).2.1.toNat (o1 s).2.2 1099511627776
def o3 (s : ByteArray) : ByteArray × Int × Int := xt s (o2 s).2.1.toNat (o2 s).2.2 64
def decO (s : ByteArray) : Int × Int × ByteArray × Int := if (o3 s).2.2 = 0 ∧ ¬ (o3 s).2.1 < (s.size : Int) then ((o1 s).1, (o2 s).1, (o3 s).1, 0) else (0, 0, (⟨#[]⟩ : ByteArray), 3)
theorem o1_at (s : ByteArray) : 0 ≤ (o1 s).1 ∧ (o1 s).1 ≤ 999 ∧ ((o1 s).2.1.toNat : Int) = (o1 s).2.1 ∧ (o1 s).2.1.toNat ≤ s.size := by
 obtain ⟨h1, h2, m, h3, h4, h5⟩ := xn_at s 0 (Nat.zero_le _) 0 999 (by decide)
 unfold o1
 rw [h3]
 exact ⟨h1, h2, rfl, by simpa using h5⟩
theorem o2_at (s : ByteArray) : 0 ≤ (o2 s).1 ∧ (o2 s).1 ≤ 1099511627776 ∧ ((o2 s).2.1.toNat : Int) = (o2 s).2.1 ∧ (o2 s).2.1.toNat ≤ s.size := by
 obtain ⟨h1, h2, m, h3, h4, h5⟩ := xn_at s (o1 s).2.1.toNat (o1_at s).2.2.2 (o1 s).2.2 1099511627776 (by decide)
 unfold o2
 rw [h3]
 exact ⟨h1, h2, rfl, by simpa using h5⟩
theorem o3_at (s : ByteArray) : (((o3 s).1.size : Nat) : Int) ≤ 64 ∧ ((o3 s).2.1.toNat : Int) = (o3 s).2.1 ∧ (o3 s).2.1.toNat ≤ s.size := by
 obtain ⟨h1, m, h3, h4, h5⟩ := xt_at s (o2 s).2.1.toNat (o2_at s).2.2.2 (o2 s).2.2 64 (by decide)
 unfold o3
 rw [h3]
 exact ⟨h1, rfl, by simpa using h5⟩
theorem dec_eq (s : ByteArray) (hs : s.size ≤ 1073741824) (k : Nat) (hk : 40 ≤ k) : cmd_DecodeOut.f k s = some (decO s) := by
 obtain ⟨g1, g2, g3, g4⟩ := o1_at s
 obtain ⟨g5, g6, g7, g8⟩ := o2_at s
 unfold cmd_DecodeOut.f octet_NewReader.f
 rw [Option.bind_some]
 show (octet_Reader_Int.f k s ((0 : Nat) : Int) 0 999).bind _ = _
 rw [oct_RInt s 0 hs (Nat.zero_le _) 0 999 (by decide) (by decide) k (by omega), Option.bind_some]
 show (octet_Reader_Int.f k s (o1 s).2.1 (o1 s).2.2 1099511627776).bind _ = _
 rw [← g3, oct_RInt s _ hs g4 _ 1099511627776 (by decide) (by decide) k (by omega), Option.bind_some]
 show (octet_Reader_Text.f k s (o2 s).2.1 (o2 s).2.2 64).bind _ = _
 rw [← g7, oct_RText s _ hs g8 _ 64 k (by omega), Option.bind_some]
 show (octet_Reader_End.f s (o3 s).2.1 (o3 s).2.2).bind _ = _
 unfold octet_Reader_End.f decO
 by_cases h1 : (o3 s).2.2 = 0
 ·
  rw [if_pos h1]
  by_cases h2 : (o3 s).2.1 < (s.size : Int)
  ·
   rw [if_pos h2, Option.bind_some, if_neg (by simp), if_neg (fun h => h.2 h2)]
  ·
   rw [if_neg h2, Option.bind_some, if_pos rfl, if_pos ⟨h1, h2⟩]
   rfl
 ·
  rw [if_neg h1, Option.bind_some, if_neg h1, if_neg (fun h => h1 h.1)]
theorem rdec_eq (s : ByteArray) (hs : s.size ≤ 1073741824) (k : Nat) (hk : 40 ≤ k) : stowageref16_DecodeOut.f k s = some (decO s) := by
 obtain ⟨g1, g2, g3, g4⟩ := o1_at s
 obtain ⟨g5, g6, g7, g8⟩ := o2_at s
 unfold stowageref16_DecodeOut.f
 show (stowageref01_Reader_Int.f k s ((0 : Nat) : Int) 0 999).bind _ = _
 rw [ref_RInt s 0 hs (Nat.zero_le _) 0 999 (by decide) (by decide) k (by omega), Option.bind_some]
 show (stowageref01_Reader_Int.f k s (o1 s).2.1 (o1 s).2.2 1099511627776).bind _ = _
 rw [← g3, ref_RInt s _ hs g4 _ 1099511627776 (by decide) (by decide) k (by omega), Option.bind_some]
 show (stowageref01_Reader_Text.f k s (o2 s).2.1 (o2 s).2.2 64).bind _ = _
 rw [← g7, ref_RText s _ hs g8 _ 64 k (by omega), Option.bind_some]
 show (stowageref01_Reader_End.f s (o3 s).2.1 (o3 s).2.2).bind _ = _
 unfold stowageref01_Reader_End.f decO
 by_cases h1 : (o3 s).2.2 = 0
 ·
  rw [if_pos h1]
  by_cases h2 : (o3 s).2.1 < (s.size : Int)
  ·
   rw [if_pos h2, Option.bind_some, if_neg (by simp), if_neg (fun h => h.2 h2)]
  ·
   rw [if_neg h2, Option.bind_some, if_pos h1, if_pos ⟨h1, h2⟩]
   rfl
 ·
  rw [if_neg h1, Option.bind_some, if_neg h1, if_neg (fun h => h1 h.1)]
theorem app_list (a b : ByteArray) : (a ++ b).data.toList = a.data.toList ++ b.data.toList := by
 rw [ByteArray.data_append, Array.toList_append]
theorem dec_enc (c i : Int) (t : ByteArray) (h : okO c i t) : decO (outT c i t) = (c, i, t, 0) := by
 obtain ⟨h1, h2, h3, h4, h5⟩ := h
 have hl : (outT c i t).data.toList.drop 0 = (num c).data.toList ++ ((num i).data.toList ++ ((txt t).data.toList ++ [])) := by
  unfold outT
  rw [app_list, app_list, List.append_assoc, List.append_nil]
  rfl
 have q1 : o1 (outT c i t) = (c, ((0 + (num c).size : Nat) : Int), 0) := xn_back _ 0 c 999 _ h1 (by omega) h2 hl
 have d1 := drop_add _ 0 _ _ hl
 rw [len_eq] at d1
 have q2 : o2 (outT c i t) = (i, ((0 + (num c).size + (num i).size : Nat) : Int), 0) := by
  unfold o2
  rw [q1]
  exact xn_back _ (0 + (num c).size) i _ _ h3 (by omega) h4 d1
 have d2 := drop_add _ _ _ _ d1
 rw [len_eq] at d2
 have q3 : o3 (outT c i t) = (t, ((0 + (num c).size + (num i).size + (txt t).size : Nat) : Int), 0) := by
  unfold o3
  rw [q2]
  exact xt_back _ t (0 + (num c).size + (num i).size) 64 [] (by omega) (by omega) d2
 have hz : (outT c i t).size = (num c).size + (num i).size + (txt t).size := by
  unfold outT
  rw [ByteArray.size_append, ByteArray.size_append]
 unfold decO
 rw [q1, q2, q3, if_pos ⟨rfl, by rw [hz]; show ¬ ((0 + (num c).size + (num i).size + (txt t).size : Nat) : Int) < _; omega⟩]
theorem dec_only (s : ByteArray) (h : (decO s).2.2.2 = 0) : okO (decO s).1 (decO s).2.1 (decO s).2.2.1 ∧ outT (decO s).1 (decO s).2.1 (decO s).2.2.1 = s := by
 obtain ⟨g1, g2, g3, g4⟩ := o1_at s
 obtain ⟨g5, g6, g7, g8⟩ := o2_at s
 obtain ⟨g9, g10, g11⟩ := o3_at s
 unfold decO at h ⊢
 by_cases hc : (o3 s).2.2 = 0 ∧ ¬ (o3 s).2.1 < (s.size : Int)
 ·
  rw [if_pos hc]
  obtain ⟨r1, m3, r2, r3, r4⟩ := xt_e s _ _ _ hc.1
  obtain ⟨r5, m2, r6, r7, r8⟩ := xn_e s _ _ _ r1
  obtain ⟨r9, m1, r10, r11, r12⟩ := xn_e s _ _ _ r5
  have z1 : (o1 s).2.1.toNat = m1 := by
   have : (o1 s).2.1 = (m1 : Int) := r10
   rw [this]; rfl
  have z2 : (o2 s).2.1.toNat = m2 := by
   have : (o2 s).2.1 = (m2 : Int) := r6
   rw [this]; rfl
  have z3 : (o3 s).2.1 = (m3 : Int) := r2
  have hm : m3 = s.size := by have := hc.2; omega
  refine ⟨⟨g1, g2, g5, g6, by show (o3 s).1.size ≤ 64; omega⟩, ?_⟩
  apply ByteArray.ext
  apply Array.ext'
  show (outT (o1 s).1 (o2 s).1 (o3 s).1).data.toList = _
  unfold outT
  rw [app_list, app_list]
  have k1 : s.data.toList = (num (o1 s).1).data.toList ++ s.data.toList.drop m1 := r12
  have k2 : s.data.toList.drop (o1 s).2.1.toNat = (num (o2 s).1).data.toList ++ s.data.toList.drop m2 := r8
  have k3 : s.data.toList.drop (o2 s).2.1.toNat = (txt (o3 s).1).data.toList ++ s.data.toList.drop m3 := r4
  rw [z1] at k2
  rw [z2, hm, List.drop_of_length_le (Nat.le_of_eq (len_eq s)), List.append_nil] at k3
  rw [k1, k2, k3, List.append_assoc]
 ·
  rw [if_neg hc] at h
  exact absurd h (by decide)
theorem CmdOuts_true (c i : Int) (t s : ByteArray) (hs : s.size ≤ 1073741824) : ∃ k, stowagelaw16_CmdOuts.f k c i t s = some true := by
 refine ⟨1000, ?_⟩
 have hA := awake_true 997 (by decide)
 have hA2 := awake_true 998 (by decide)
 have hj1 : ∀ k, 990 ≤ k → stowagelaw16_CmdOuts.j1 (k + 1) s (decO s).2.2.2 (decO s).1 (decO s).2.1 (decO s).2.2.1 = some true := by
  intro k hk
  have hA := awake_true k (by omega)
  rw [stowagelaw16_CmdOuts.j1]
  by_cases h : (decO s).2.2.2 = 0
  ·
   obtain ⟨h1, h2⟩ := dec_only s h
   rw [if_pos h, enc_ok _ _ _ h1 k (by omega), Option.bind_some, if_pos rfl, h2, if_pos rfl, hA]
   rfl
  ·
   rw [if_neg h, hA]
   rfl
 unfold stowagelaw16_CmdOuts.f
 rw [dec_eq s hs 1000 (by decide), rdec_eq s hs 1000 (by decide)]
 by_cases h : okO c i t
 ·
  rw [enc_ok c i t h 1000 (by decide), renc_ok c i t h 1000 (by decide)]
  simp only [Option.bind_some, if_true, beq_self_eq_true, Bool.not_true, Bool.or_false, Bool.false_eq_true, if_false]
  have hz : (outT c i t).size ≤ 1073741824 := by
   obtain ⟨h1, h2, h3, h4, h5⟩ := h
   unfold outT
   have e1 := num_size c
   have e2 := num_size i
   have e3 := txt_size t
   rw [ByteArray.size_append, ByteArray.size_append]
   omega
  rw [show (1000 : Nat) = 999 + 1 from rfl, stowagelaw16_CmdOuts.j0, if_neg (by simp), if_pos rfl, dec_eq _ hz 999 (by decide), dec_enc c i t h]
  simp only [Option.bind_some, if_true, beq_self_eq_true, Bool.not_true, Bool.or_false, Bool.false_eq_true, if_false]
  exact hj1 998 (by decide)
 ·
  rw [enc_no c i t h 1000 (by decide), renc_no c i t h 1000 (by decide)]
  simp only [Option.bind_some, if_true, beq_self_eq_true, Bool.not_true, Bool.or_false, Bool.false_eq_true, if_false]
  rw [show (1000 : Nat) = 999 + 1 from rfl, stowagelaw16_CmdOuts.j0, if_neg (by simp), if_neg (by decide)]
  exact hj1 998 (by decide)
end Go.Proofs.YtdidopoalmkhlaaDoor.Pure
end
section
/- CmdOuts, second form: which outcomes may be, their texts, and which outcome any text says; there and back. Its conditions: those of the given card. -/
namespace Go.Proofs.YtdidopoalmkhlaaDoor.cmdOuts
open Go.ChangeShapes Go.WideShapes Go.ChangeAt Go.RowKit Go.Proofs.YtdidopoalmkhlaaDoor.Oo Go.Proofs.YtdidopoalmkhlaaDoorW.PrintWords
open Go.ChangeMaps (open_string shut_string)
set_option linter.unusedVariables false
set_option linter.unusedSimpArgs false
theorem own : ownKnob Tryd.prog.godebug = none := by kernel_rfl
theorem laidOut : laidOutB Tryd.prog = true := by kernel_rfl
set_option maxRecDepth 100000 in
/-- What the walk gives, for every argument and every world: the same for both forms. -/
theorem contract (H : Type) (enc : TypeId × Value → H) (W : World) (base : Nat) (args : Array Value) (ds gs : List (DataW H)) (before : List MemPlace)
  (hval : ∀ (j : Nat) t v, Tryd.f7.params[j]? = some t → args[j]? = some v → Value.okWide Tryd.prog W .any base t v)
  (hW : DataW.Whole enc Tryd.prog Tryd.f7.params.toList Rows.cmdOutsSpec.vars false W args.toList ds gs before)
  (hsz : (DataW.weightsEach Tryd.prog (Tryd.f7.params.toList ++ (OpenSpec.ofChange Rows.cmdOutsSpec).bare.plain.varTypes Tryd.prog) (ds ++ gs)).all (· ≤ reachBytes) = true) (hcond : ∀ k, (Rows.OpenSpec.upto Rows.cmdOutsSpec).cond = some k → k H (ds ++ gs) = true) (hG : GG W) :
  Calls Tryd.prog 7 args W fun e W' => ∃ v, e = .returned v ∧ Rows.cmdOutsSpec.post enc Tryd.prog Tryd.f7 false true false false W args v W' := by
 have hW' := hW
 obtain ⟨p, q, hA0, hV, rfl, hfz, hnd⟩ := hW
 have hA : DataW.TrodAll enc Tryd.prog W 0 (fun _ => true) true Tryd.f7.params.toList args.toList ds p := hA0
 rw [Tryd.params7] at hA hval hsz
 obtain ⟨v0, vs0, d0, ds0, p0, q0, hargs, rfl, rfl, h0, r0⟩ := trodAll_cons hA
 obtain ⟨v1, vs1, d1, ds1, p1, q1, rfl, rfl, rfl, h1, r1⟩ := trodAll_cons r0
 obtain ⟨rfl, rfl, rfl⟩ := trodAll_nil r1
 obtain rfl : args = #[v0, v1] := by cases args; simp_all
 obtain ⟨rfl, rfl⟩ := trodVars_none hV
 have k0 := h0
 have lt0 : ∀ x ∈ p0, x.block < W.heap.size := by obtain ⟨m, hm⟩ := k0; exact DataW.trod_lt m _ _ _ hm
 obtain ⟨fuel0, hf0⟩ := h0
 obtain ⟨x0, hK0, wt0, bk0⟩ := (KO.opensOut).out enc W _ _ _ fuel0 _ _ hf0
 have hc0 := KO.kOut_open hK0
 obtain rfl : v0 = .agg #[.int .i64 x0.f0, .int .i64 x0.f1, .string x0.f2] := by cases v0 <;> simp [Value.cells] at hc0 ⊢ <;> first | exact Array.ext' hc0 | (rename_i xs; exact Array.ext' hc0) | (cases hc0)
 obtain ⟨a1, rfl, rfl, rfl, y1⟩ := open_string Tryd.underlying9 (hval 1 9 v1 rfl rfl) h1
 have hup := hcond _ rfl
 simp only [Rows.uptoSmall, decide_eq_true_eq, List.cons_append, List.nil_append, Rows.uptoBulkAll, Rows.uptoBulk] at hup
 have e1 := Array.length_toList (xs := a1.data)
 have g1 : a1.data.size = a1.size := rfl
 obtain ⟨k, hk⟩ := Pure.CmdOuts_true x0.f0 x0.f1 x0.f2 a1 (by omega)
 refine (stowagelaw16_CmdOuts.calls k x0.f0 x0.f1 x0.f2 a1 true W  hk hG).mono fun e W' ⟨he, bel⟩ => ?_
 subst he
 exact ⟨_, rfl, _, _, _, [], _, [], hW', trodAll_mk1 (shut_bool Tryd.underlying4 _), (trodAll_cons_mk (Below.trod laidOut (by kernel_rfl) (of_decide_eq_true (by kernel_rfl)) k0 bel lt0) (trodAll_cons_mk (shut_string Tryd.underlying9 y1) trodAll_mk0)), rfl, bel.frame _, fun h => by cases h⟩
/-- The cells of a datum without pointers. -/
def flat : DataW Unit → List Value
 | .lit (.int k n) => [.int k n]
 | .agg xs => flats xs
 | _ => []
where flats : List (DataW Unit) → List Value
 | [] => []
 | x :: xs => flat x ++ flats xs
def put (cs : List Value) : Obj → Obj
 | .cells _ t z => .cells cs.toArray t z
 | ob => ob
/-- A world for the witness: the listed tables hold what their text lays. -/
noncomputable def laidWorld (os : Os) : World :=
 { World.holding Tryd.prog os ⟨#[], #[], []⟩ with heap := Rows.cmdOutsUptoRow.laid.foldl (fun h x => match Tryd.prog.globalNamed x.1 with | some g => h.modify g (put (flat x.2)) | none => h) (World.holding Tryd.prog os ⟨#[], #[], []⟩).heap }
theorem laid_met (os : Os) : laidMet Tryd.prog Rows.cmdOutsUptoRow.laid ((laidWorld os).forCall (fun _ _ => 0) ⟨#[], #[.agg #[.int .i64 0, .int .i64 0, .string ByteArray.empty], .string ByteArray.empty], []⟩).memory :=
 laidMet_of_run3 8 (by kernel_rfl) (by kernel_rfl) (by kernel_rfl)
theorem reads (os : Os) {H : Type} (enc : TypeId × Value → H) : ∃ places, DataW.whole enc Tryd.prog ((laidWorld os).forCall (fun _ _ => 0) ⟨#[], #[.agg #[.int .i64 0, .int .i64 0, .string ByteArray.empty], .string ByteArray.empty], []⟩).memory Tryd.f7.params.toList Rows.cmdOutsSpec.vars false (#[.agg #[.int .i64 0, .int .i64 0, .string ByteArray.empty], .string ByteArray.empty] : Array Value).toList 8 = some ([.agg [.lit (.int .i64 0), .lit (.int .i64 0), .lit (.string [])], .lit (.string [])], [], places) :=
 ⟨[], by kernel_rfl⟩
set_option maxRecDepth 100000 in
theorem lifted (os : Os) (started : os.Started) (H : Type) (enc : TypeId × Value → H) (F : Stop.Interp) :
  ReturnsInHanded {} Tryd.checked os 7 .any ((Rows.OpenSpec.upto Rows.cmdOutsSpec).preRow enc Tryd.prog Tryd.f7 Rows.cmdOutsUptoRow.domain false Rows.cmdOutsUptoRow.laid) (((Rows.OpenSpec.upto Rows.cmdOutsSpec).at F).post enc Tryd.prog Tryd.f7 false true false false) := by
 obtain ⟨places, hx⟩ := reads os enc
 refine returnsInHanded_of_row (C := Tryd.checked) (s := (Rows.OpenSpec.upto Rows.cmdOutsSpec)) own started (by kernel_rfl) Tryd.func7
  (witness_row_at (enc := enc) (C := Tryd.checked) false (laidWorld os) #[.agg #[.int .i64 0, .int .i64 0, .string ByteArray.empty], .string ByteArray.empty] rfl (by kernel_rfl) (by kernel_rfl) (by kernel_rfl)
   (OpenSpec.preRow_of_cond 8 hx (by kernel_rfl) (fun k hk => by cases hk; kernel_rfl) (by kernel_rfl) (laid_met os))) ?_
 intro W base args ds gs before hval hW _ hcond hsz hlaid hsh _
 exact contract H enc W base args ds gs before hval hW hsz hcond ⟨KO.table_of_laid hlaid, (Go.Proofs.cell_of_shapedOpen_int (zero := #[.int .i64 0]) (t := 3) hsh (of_decide_eq_true (by kernel_rfl)) (by kernel_rfl) rfl (by kernel_rfl) (by kernel_rfl) Tryd.underlying3)⟩
theorem said : Rows.CmdOutsUptoSaid :=
 OpenClaim.holds_of_cond 7 Tryd.f7 rfl rfl rfl rfl rfl rfl rfl ⟨rfl, rfl, rfl, rfl, rfl⟩ rfl rfl rfl rfl rfl (by kernel_rfl) Tryd.func7 (by kernel_rfl)
  (of_decide_eq_true (by kernel_rfl)) (by unfold Func.isWrapper; first | (rw [if_pos (by decide +kernel)]; kernel_rfl) | (rw [if_neg (by decide +kernel)]; exact ⟨rfl, rfl⟩))
  (fun os started H enc _ F => by rw [OpenClaim.pre_eq_preRow]; exact lifted os started H enc F)
/-- No parameter wants a stand-in; the program's own looks are off: what the card asks. -/
theorem plain (f : FuncId) (fn : Func) (hf : Tryd.pinned.checked.prog.funcNamed "stowage/stowagelaw16.CmdOuts" = some f) (hfn : Tryd.pinned.checked.prog.funcs[f]? = some fn) :
  false = Tryd.pinned.checked.prog.looks [] ∧ ∀ (j : Nat) t, fn.params[j]? = some t → Tryd.pinned.checked.prog.wantsStandIn t = false := by
 obtain rfl : f = 7 := Option.some.inj ((show Tryd.prog.funcNamed "stowage/stowagelaw16.CmdOuts" = some 7 by kernel_rfl).symm.trans hf) |>.symm
 obtain rfl : fn = Tryd.f7 := (Option.some.inj (Tryd.func7.symm.trans hfn)).symm
 refine ⟨by kernel_rfl, fun j t ht => ?_⟩
 rw [Tryd.params7] at ht
 have hm := Array.mem_of_getElem? ht
 simp only [List.mem_toArray, List.mem_cons, List.not_mem_nil, or_false] at hm
 rcases hm with rfl | rfl
 ·
  exact (show Tryd.prog.wantsStandIn 49 = false by kernel_rfl)
 ·
  exact (show Tryd.prog.wantsStandIn 9 = false by kernel_rfl)
/-- The card. -/
theorem card : Rows.CmdOutsUptoCardSaid :=
 Claim7.holds_tied_plain_at .later [] _ _ _ _ said (fun _ h => by cases h) (by kernel_rfl) (fun _ h => by cases h) cmdOutsUpto_row_tie rfl ⟨rfl, rfl⟩ (by kernel_rfl) rfl plain (by kernel_rfl)
end Go.Proofs.YtdidopoalmkhlaaDoor.cmdOuts
namespace Go.Proofs.YtdidopoalmkhlaaDoor
theorem cmdOuts_cardUpto : Rows.CmdOutsUptoCardSaid := cmdOuts.card
end Go.Proofs.YtdidopoalmkhlaaDoor
end
