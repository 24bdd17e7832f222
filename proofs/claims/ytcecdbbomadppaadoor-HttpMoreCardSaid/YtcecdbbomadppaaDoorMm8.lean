/- Merged of several texts of this session's by merge.py. -/
import Derived.IntWalk
import Derived.KernelRfl
import Derived.Test.YtcecdbbomadppaaDoorMm5
import Derived.Test.YtcecdbbomadppaaDoorMm7
import Derived.Test.YtcecdbbomadppaaDoorCards
import Derived.Test.YtcecdbbomadppaaDoorTie
import Derived.WalkKit
import Derived.ProofKit
import Derived.OpenShut
import Derived.Below
import Derived.Carry
import Derived.Deep.DeepHandedRow
import Derived.Deep.DeepLaidRun
import Derived.HandedShaped
section
namespace Go.Proofs.YtcecdbbomadppaaDoor.Pure
open Go Go.RowKit Go.Proofs.YtcecdbbomadppaaDoor.Hx Go.Proofs.YtcecdbbomadppaaDoorW.PrintWords Go.Proofs.YtcecdbbomadppaaDoorW.PrintLast Go.Proofs.YtcecdbbomadppaaDoorW.PrintMore
set_option linter.unusedVariables false
set_option linter.unusedSimpArgs false
theorem up {α : Type} {f : Nat → Option α} (h : ∀ k, LeO (f k) (f (k + 1))) {r : α} {k : Nat} (h0 : f k = some r) : ∀ n, f (k + n) = some r
 | 0 => h0
 | n + 1 => h (k + n) r (up h h0 n)
theorem up_to {α : Type} {f : Nat → Option α} (h : ∀ k, LeO (f k) (f (k + 1))) {r : α} {k m : Nat} (h0 : f k = some r) (hm : k ≤ m) : f m = some r := by
 have := up h h0 (m - k)
 rwa [Nat.add_sub_cancel' hm] at this
theorem w1 (i : Nat) (h : i ≤ 4611686018427387904) : wrap64 ((i : Int) + 1) = ((i + 1 : Nat) : Int) := by
 rw [IntWalk.wrap64_in _ (by omega)]
 omega
theorem len_eq (a : ByteArray) : a.data.toList.length = a.size := Array.length_toList (xs := a.data)
theorem drop_data (b : ByteArray) (p : Nat) : (b.extract p b.size).data.toList = b.data.toList.drop p := by
 rw [Lib.extract_data, List.take_of_length_le]
 rw [List.length_drop, ← Lib.size_eq]
 omega
theorem pair_more {h h' : Ht.Hd} {p : Ht.B × Ht.B} (ho : Ht.onPair h p = .ok h') : h'.heads.length ≤ h.heads.length + 1 := by
 unfold Ht.onPair at ho
 split at ho
 ·
  split at ho
  ·
   cases ho
  ·
   cases hl : Ht.plong p.2 with
   | bad e => rw [hl] at ho; cases ho
   | ok k => rw [hl] at ho; cases ho; exact Nat.le_succ _
 ·
  split at ho
  ·
   split at ho
   ·
    cases ho
   ·
    split at ho
    ·
     cases ho; exact Nat.le_succ _
    ·
     cases ho
  ·
   split at ho
   ·
    cases ho; exact Nat.le_succ _
   ·
    cases ho; simp
theorem head_more : ∀ (j : Nat) (h : Ht.Hd) (l : Ht.B) (h' : Ht.Hd) (r : Ht.B), Ht.phead j h l = .ok (h', r) → h'.heads.length ≤ h.heads.length + j := by
 have hend : ∀ (h : Ht.Hd) (l : Ht.B) (h' : Ht.Hd) (r : Ht.B), Ht.pend h l = .ok (h', r) → h'.heads.length = h.heads.length := by
  intro h l h' r he
  unfold Ht.pend at he
  split at he
  ·
   cases he
  ·
   cases he; rfl
 intro j
 induction j with
 | zero =>
  intro h l h' r he
  cases hl : Ht.pline l with
  | bad e => rw [Ht.head_bad hl] at he; cases he
  | ok z =>
   obtain ⟨s, t⟩ := z
   by_cases hs : s = []
   ·
    subst hs; rw [Ht.head_end hl] at he; have := hend _ _ _ _ he; omega
   ·
    rw [Ht.head_full hl hs] at he; cases he
 | succ j ih =>
  intro h l h' r he
  cases hl : Ht.pline l with
  | bad e => rw [Ht.head_bad hl] at he; cases he
  | ok z =>
   obtain ⟨s, t⟩ := z
   by_cases hs : s = []
   ·
    subst hs; rw [Ht.head_end hl] at he; have := hend _ _ _ _ he; omega
   ·
    cases hp : Ht.ppair s with
    | bad e => rw [Ht.head_pbad hl hs hp] at he; cases he
    | ok p =>
     cases ho : Ht.onPair h p with
     | bad e => rw [Ht.head_obad hl hs hp ho] at he; cases he
     | ok h2 => rw [Ht.head_next hl hs hp ho] at he; have := ih _ _ _ _ he; have := pair_more ho; omega
theorem one_heads {l r : Ht.B} {q : Ht.Rq} (h : Ht.pone l = .ok (q, r)) : q.heads.length ≤ 32 := by
 unfold Ht.pone Ht.seq at h
 cases hl : Ht.pline l with
 | bad e => rw [hl] at h; cases h
 | ok z =>
  obtain ⟨s, t⟩ := z
  rw [hl] at h
  simp only [Ht.Out.bind, Ht.lift] at h
  cases hf : Ht.pfirst s with
  | bad e => rw [hf] at h; cases h
  | ok f =>
   rw [hf] at h
   simp only at h
   cases hh : Ht.phead 32 ⟨false, [], none, false⟩ t with
   | bad e => rw [hh] at h; cases h
   | ok y =>
    obtain ⟨hd, t2⟩ := y
    rw [hh] at h
    simp only at h
    cases hb : Ht.pbody hd t2 with
    | bad e => rw [hb] at h; cases h
    | ok x =>
     obtain ⟨b, t3⟩ := x
     rw [hb] at h
     simp only [Ht.ret, Ht.Out.ok.injEq, Prod.mk.injEq] at h
     obtain ⟨rfl, _⟩ := h
     have := head_more _ _ _ _ _ hh
     simpa using this
theorem run_heads {l : Ht.B} {qs : List Ht.Rq} {t : Ht.B} {e : Int} (h : Ht.Run l qs t e) : ∀ q ∈ qs, q.heads.length ≤ 32 := by
 induction h with
 | nil => simp
 | bad => simp
 | cons h1 _ ih =>
  intro q hq
  rcases List.mem_cons.1 hq with rfl | hq
  ·
   exact one_heads h1
  ·
   exact ih q hq
theorem run_len {l : Ht.B} {qs : List Ht.Rq} {t : Ht.B} {e : Int} (h : Ht.Run l qs t e) : qs.length + t.length ≤ l.length := by
 induction h with
 | nil => simp
 | bad => simp
 | cons h1 _ ih => have := Ht.one_less h1; simp only [List.length_cons]; omega
def rq (q : Ht.Rq) : S35 := ⟨http_one_s q.m, http_one_s q.p, http_one_s q.q, q.heads.map (fun x => ⟨http_one_s x.1, http_one_s x.2⟩), http_one_s q.body, q.close⟩
theorem all_loop (a : ByteArray) (ha : a.size < 2147483648) {l : Ht.B} {qs : List Ht.Rq} {t : Ht.B} {e : Int} (h : Ht.Run l qs t e) : ∀ (i : Nat) (acc : List (S35)), i ≤ a.size → l = a.data.toList.drop i → acc.length ≤ i →
  ∃ k, http_All.l0 k a acc (i : Int) = some (acc ++ qs.map rq, ((a.size - t.length : Nat) : Int), e) := by
 induction h with
 | nil =>
  intro i acc hi hl hacc
  have : i = a.size := by have := congrArg List.length hl; rw [List.length_nil, List.length_drop, len_eq] at this; omega
  subst this
  exact ⟨1, by rw [http_All.l0, if_neg (by omega)]; simp⟩
 | bad h1 h2 =>
  rename_i l e
  intro i acc hi hl hacc
  have hlen : l.length = a.size - i := by rw [hl, List.length_drop, len_eq]
  have hpos : 0 < l.length := List.length_pos_iff.2 h1
  refine ⟨2, ?_⟩
  rw [http_All.l0, if_pos (by omega), if_pos (by omega), if_pos (by omega)]
  have hsz : (a.extract ((i : Int)).toNat a.size).size < 2147483648 := by rw [ByteArray.size_extract]; omega
  unfold http_one.f
  rw [if_pos hsz, Int.toNat_natCast, drop_data, ← hl, h2]
  simp only [Option.bind_some, http_one_o, Bool.false_eq_true, if_false, List.map_nil, List.append_nil]
  rw [show a.size - l.length = i by omega]
 | cons h1 hr ih =>
  rename_i l r t q qs e
  intro i acc hi hl hacc
  obtain ⟨u, hu, _⟩ := Ht.good_one.loc _ _ _ h1
  have hless := Ht.one_less h1
  have hlen : l.length = a.size - i := by rw [hl, List.length_drop, len_eq]
  have hul : u.length + r.length = l.length := by rw [hu, List.length_append]
  have hr2 : r = a.data.toList.drop (i + u.length) := by rw [← List.drop_drop, ← hl, hu, List.drop_left]
  obtain ⟨k, hk⟩ := ih (i + u.length) (acc ++ [rq q]) (by omega) hr2 (by rw [List.length_append, List.length_cons, List.length_nil]; omega)
  refine ⟨k + 1, ?_⟩
  rw [http_All.l0, if_pos (by omega), if_pos (by omega), if_pos (by omega)]
  have hsz : (a.extract ((i : Int)).toNat a.size).size < 2147483648 := by rw [ByteArray.size_extract]; omega
  unfold http_one.f
  rw [if_pos hsz, Int.toNat_natCast, drop_data, ← hl, h1]
  simp only [Option.bind_some, http_one_o, if_true]
  rw [if_pos (by omega), IntWalk.wrap64_in _ (by rw [ByteArray.size_extract]; omega)]
  have e1 : (i : Int) + (((a.extract i a.size).size - r.length : Nat) : Int) = ((i + u.length : Nat) : Int) := by rw [ByteArray.size_extract]; omega
  rw [e1]
  rw [show acc ++ (q :: qs).map rq = (acc ++ [rq q]) ++ qs.map rq by simp]
  exact hk
theorem all_eq (a : ByteArray) (ha : a.size < 2147483648) {qs : List Ht.Rq} {t : Ht.B} {e : Int} (h : Ht.Run a.data.toList qs t e) : ∃ k, http_All.f k a = some (qs.map rq, ((a.size - t.length : Nat) : Int), e) := by
 obtain ⟨k, hk⟩ := all_loop a ha h 0 [] (Nat.zero_le _) (by rw [List.drop_zero]) (Nat.zero_le _)
 exact ⟨k, by unfold http_All.f; rw [List.nil_append] at hk; exact hk⟩
theorem awake_true : stowagelaw19_awake.f 8 = some true := by kernel_rfl
def cv (x : S64) : S63 := ⟨x.f0, x.f1⟩
def rf (x : S35) : S47 := ⟨x.f0, x.f1, x.f2, x.f3.map cv, x.f4, x.f5⟩
theorem ref_loop (a b c d : ByteArray) (e : Bool) (hs : List (S64)) (h : hs.length ≤ 1000) : ∀ (n i : Nat) (acc : List (S63)), i + n = hs.length → acc.length = i →
  stowagelaw19_Ref.l0 (n + 1) acc (i : Int) a b c hs d e = some (a, b, c, acc ++ (hs.drop i).map cv, d, e)
 | 0, i, acc, hi, hacc => by
  rw [stowagelaw19_Ref.l0, if_neg (by omega), List.drop_eq_nil_of_le (by omega)]
  simp
 | n + 1, i, acc, hi, hacc => by
  rw [stowagelaw19_Ref.l0, if_pos (by omega), if_pos (by omega), if_pos (by omega), w1 i (by omega)]
  have hlt : i < hs.length := by omega
  have hrd : rd_T64 hs (i : Int) = hs[i] := by
   unfold rd_T64
   rw [Int.toNat_natCast, List.getD_eq_getElem?_getD, List.getElem?_eq_getElem hlt]
   rfl
  rw [ref_loop a b c d e hs h n (i + 1) _ (by omega) (by rw [List.length_append, hacc]; rfl), List.drop_eq_getElem_cons hlt, List.map_cons, List.append_assoc, hrd]
  rfl
theorem ref_at (x : S35) (h : x.f3.length ≤ 1000) {k : Nat} (hk : x.f3.length + 1 ≤ k) : stowagelaw19_Ref.f k x.f0 x.f1 x.f2 x.f3 x.f4 x.f5 = some (x.f0, x.f1, x.f2, x.f3.map cv, x.f4, x.f5) := by
 have h0 : stowagelaw19_Ref.f (x.f3.length + 1) x.f0 x.f1 x.f2 x.f3 x.f4 x.f5 = some (x.f0, x.f1, x.f2, x.f3.map cv, x.f4, x.f5) := by
  have := ref_loop x.f0 x.f1 x.f2 x.f4 x.f5 x.f3 h x.f3.length 0 [] (by omega) rfl
  rw [List.drop_zero, List.nil_append] at this
  exact this
 exact up_to (stowagelaw19_Ref.mono _ _ _ _ _ _) h0 hk
theorem same_loop (a b c d : ByteArray) (e : Bool) (hs : List (S63)) (h : hs.length ≤ 1000) : ∀ (n i : Nat), i + n = hs.length →
  stowageref19_Same.l0 (n + 1) (i : Int) a b c hs d e a b c hs d e = some true
 | 0, i, hi => by rw [stowageref19_Same.l0, if_neg (by omega)]
 | n + 1, i, hi => by
  rw [stowageref19_Same.l0, if_pos (by omega), if_pos (by omega), if_pos (by omega), w1 i (by omega)]
  rw [if_neg (by simp)]
  exact same_loop a b c d e hs h n (i + 1) (by omega)
theorem same_at (x : S47) (h : x.f3.length ≤ 1000) {k : Nat} (hk : x.f3.length + 2 ≤ k) : stowageref19_Same.f k x.f0 x.f1 x.f2 x.f3 x.f4 x.f5 x.f0 x.f1 x.f2 x.f3 x.f4 x.f5 = some true := by
 have h0 : stowageref19_Same.f (x.f3.length + 2) x.f0 x.f1 x.f2 x.f3 x.f4 x.f5 x.f0 x.f1 x.f2 x.f3 x.f4 x.f5 = some true := by
  unfold stowageref19_Same.f
  rw [if_pos rfl, if_pos rfl, if_pos rfl, if_pos rfl, if_neg (by simp), stowageref19_Same.j0, if_neg (by simp)]
  exact same_loop x.f0 x.f1 x.f2 x.f4 x.f5 x.f3 h x.f3.length 0 (by omega)
 exact up_to (stowageref19_Same.mono _ _ _ _ _ _ _ _ _ _ _ _) h0 hk
theorem rdR (l : List (S35)) (i : Nat) (h : i < l.length) : rd_T35 l (i : Int) = l[i] := by
 unfold rd_T35
 rw [Int.toNat_natCast, List.getD_eq_getElem?_getD, List.getElem?_eq_getElem h]
 rfl
theorem rdD (l : List (S35)) (i : Nat) (h : i < l.length) : rd_T47 (l.map rf) (i : Int) = rf l[i] := by
 unfold rd_T47
 rw [Int.toNat_natCast, List.getD_eq_getElem?_getD, List.getElem?_map, List.getElem?_eq_getElem h]
 rfl
theorem lsame_loop (l : List (S35)) (hl : l.length ≤ 1000000) (hh : ∀ x ∈ l, x.f3.length ≤ 1000) : ∀ (n i : Nat), i + n = l.length → stowagelaw19_same.l0 (n + 1003) l (l.map rf) (i : Int) = some true
 | 0, i, hi => by rw [stowagelaw19_same.l0, if_neg (by omega)]
 | n + 1, i, hi => by
  have hlt : i < l.length := by omega
  have hx := hh l[i] (List.getElem_mem hlt)
  rw [stowagelaw19_same.l0, if_pos (by omega), if_pos (by omega), rdR l i hlt, ref_at l[i] hx (by omega), Option.bind_some, if_pos (by rw [List.length_map]; omega), rdD l i hlt, w1 i (by omega)]
  have hs := same_at (rf l[i]) (by show (l[i].f3.map cv).length ≤ 1000; rw [List.length_map]; exact hx) (k := n + 1003) (by show (l[i].f3.map cv).length + 2 ≤ _; rw [List.length_map]; omega)
  have hs' : stowageref19_Same.f (n + 1003) l[i].f0 l[i].f1 l[i].f2 (l[i].f3.map cv) l[i].f4 l[i].f5 (rf l[i]).f0 (rf l[i]).f1 (rf l[i]).f2 (rf l[i]).f3 (rf l[i]).f4 (rf l[i]).f5 = some true := hs
  show (stowageref19_Same.f (n + 1003) l[i].f0 l[i].f1 l[i].f2 (l[i].f3.map cv) l[i].f4 l[i].f5 (rf l[i]).f0 (rf l[i]).f1 (rf l[i]).f2 (rf l[i]).f3 (rf l[i]).f4 (rf l[i]).f5).bind _ = some true
  rw [hs', Option.bind_some, if_pos rfl]
  exact lsame_loop l hl hh n (i + 1) (by omega)
theorem lsame (l : List (S35)) (hl : l.length ≤ 1000000) (hh : ∀ x ∈ l, x.f3.length ≤ 1000) {k : Nat} (hk : l.length + 1003 ≤ k) : stowagelaw19_same.f k l (l.map rf) = some true := by
 refine up_to (stowagelaw19_same.mono _ _) (k := l.length + 1003) ?_ hk
 unfold stowagelaw19_same.f
 rw [if_pos (by rw [List.length_map])]
 exact lsame_loop l hl hh l.length 0 (by omega)
theorem alike_loop (l : List (S35)) (hl : l.length ≤ 1000000) (hh : ∀ x ∈ l, x.f3.length ≤ 1000) : ∀ (n i : Nat), i + n = l.length → stowagelaw19_alike.l0 (n + (l.length + 1004)) l l ((l.take i).map rf) (i : Int) = some true
 | 0, i, hi => by
  obtain rfl : i = l.length := by omega
  rw [Nat.zero_add, stowagelaw19_alike.l0, if_neg (by omega), List.take_length, lsame l hl hh (by omega)]
  rfl
 | n + 1, i, hi => by
  have hlt : i < l.length := by omega
  have hx := hh l[i] (List.getElem_mem hlt)
  rw [show n + 1 + (l.length + 1004) = (n + (l.length + 1004)) + 1 by omega, stowagelaw19_alike.l0, if_pos (by omega), if_pos (by omega), rdR l i hlt, ref_at l[i] hx (by omega), Option.bind_some, if_pos (by rw [List.length_map, List.length_take]; omega), w1 i (by omega)]
  have ht : (l.take i).map rf ++ [rf l[i]] = (l.take (i + 1)).map rf := by rw [List.take_succ_eq_append_getElem hlt, List.map_append]; rfl
  show stowagelaw19_alike.l0 (n + (l.length + 1004)) l l ((l.take i).map rf ++ [rf l[i]]) _ = _
  rw [ht]
  exact alike_loop l hl hh n (i + 1) (by omega)
theorem alike_self (l : List (S35)) (hl : l.length ≤ 1000000) (hh : ∀ x ∈ l, x.f3.length ≤ 1000) : stowagelaw19_alike.f (l.length + (l.length + 1004)) l l = some true := by
 unfold stowagelaw19_alike.f
 have := alike_loop l hl hh l.length 0 (by omega)
 rw [List.take_zero] at this
 exact this
theorem heads_rq {l : Ht.B} {qs : List Ht.Rq} {t : Ht.B} {e : Int} (h : Ht.Run l qs t e) : ∀ x ∈ qs.map rq, x.f3.length ≤ 1000 := by
 intro x hx
 obtain ⟨q, hq, rfl⟩ := List.mem_map.1 hx
 have := run_heads h q hq
 show (q.heads.map _).length ≤ 1000
 rw [List.length_map]
 omega
theorem append_list (a b : ByteArray) : (a ++ b).data.toList = a.data.toList ++ b.data.toList := by rw [ByteArray.data_append, Array.toList_append]
theorem HttpMore_true (a0 a1 : ByteArray) : ∃ k, stowagelaw19_HttpMore.f k a0 a1 = some true := by
 by_cases h0 : (a0.size : Int) > 6000
 ·
  exact ⟨9, by unfold stowagelaw19_HttpMore.f; rw [if_pos h0, stowagelaw19_HttpMore.j0, if_pos rfl, awake_true]; rfl⟩
 ·
  by_cases h1 : (a1.size : Int) > 6000
  ·
   exact ⟨9, by unfold stowagelaw19_HttpMore.f; rw [if_neg h0, decide_eq_true h1, stowagelaw19_HttpMore.j0, if_pos rfl, awake_true]; rfl⟩
  ·
   obtain ⟨qs, t, e, hr⟩ := Ht.run_ex a0.data.toList
   obtain ⟨qs2, t2, e2, hr2⟩ := Ht.run_ex (t ++ a1.data.toList)
   have hr3 := Ht.run_more hr a1.data.toList hr2
   rw [← append_list] at hr3
   obtain ⟨k1, hk1⟩ := all_eq a0 (by omega) hr
   obtain ⟨k2, hk2⟩ := all_eq (a0 ++ a1) (by rw [ByteArray.size_append]; omega) hr3
   have hl1 := run_len hr
   have hl3 := run_len hr3
   have hlen0 := len_eq a0
   have hlen1 := len_eq a1
   have hlen3 := len_eq (a0 ++ a1)
   have hap : (a0 ++ a1).size = a0.size + a1.size := ByteArray.size_append
   have hql : (qs.map rq).length ≤ 1000000 := by rw [List.length_map]; omega
   have ha := alike_self (qs.map rq) hql (heads_rq hr)
   have htl := run_len hr2
   rw [List.length_append] at htl
   refine ⟨k1 + k2 + ((qs.map rq).length + ((qs.map rq).length + 1004)) + 8 + 1, ?_⟩
   unfold stowagelaw19_HttpMore.f
   rw [if_neg h0, decide_eq_false h1, stowagelaw19_HttpMore.j0, if_neg (by simp), up_to (http_All.mono _) hk1 (by omega), Option.bind_some, if_pos (by omega), up_to (http_All.mono _) hk2 (by omega), Option.bind_some]
   have htk : ((qs ++ qs2).map rq).take (((qs.map rq).length : Int)).toNat = qs.map rq := by rw [Int.toNat_natCast, List.map_append, List.take_left]
   simp only
   rw [if_neg (by simp only [List.length_map, List.length_append]; omega), if_pos (by omega), if_pos (by simp only [List.length_map, List.length_append]; omega), htk, up_to (stowagelaw19_alike.mono _ _) ha (by omega), Option.bind_some, if_pos rfl,
    if_neg (by omega), up_to stowagelaw19_awake.mono awake_true (by omega), Option.bind_some, if_pos rfl]
   by_cases he : e = 0
   ·
    rw [if_pos he]
   ·
    have hr4 := Ht.run_err hr he a1.data.toList
    rw [← append_list] at hr4
    obtain ⟨q1, q2, q3⟩ := Ht.run_same hr4 hr3
    have q4 : qs2 = [] := by
     have := congrArg List.length q1
     rw [List.length_append] at this
     exact List.length_eq_zero_iff.1 (by omega)
    subst q4
    rw [if_neg he, if_pos q3, if_pos (by rw [q2, List.length_append]; omega), List.append_nil]
    simp
end Go.Proofs.YtcecdbbomadppaaDoor.Pure
end
section
/- HttpMore: what bytes tell begins what more bytes tell, and a refusal stays, whatever comes behind. Its conditions: those of the given card. -/
namespace Go.Proofs.YtcecdbbomadppaaDoor.httpMore
open Go.ChangeShapes Go.WideShapes Go.ChangeAt Go.RowKit Go.Proofs.YtcecdbbomadppaaDoor.Hx Go.Proofs.YtcecdbbomadppaaDoorW.PrintWords
open Go.ChangeMaps (open_string shut_string)
set_option linter.unusedVariables false
set_option linter.unusedSimpArgs false
theorem own : ownKnob Tryd.prog.godebug = none := by kernel_rfl
theorem laidOut : laidOutB Tryd.prog = true := by kernel_rfl
set_option maxRecDepth 100000 in
/-- What the walk gives, for every argument and every world: the same for both forms. -/
theorem contract (H : Type) (enc : TypeId × Value → H) (W : World) (base : Nat) (args : Array Value) (ds gs : List (DataW H)) (before : List MemPlace)
  (hval : ∀ (j : Nat) t v, Tryd.f3.params[j]? = some t → args[j]? = some v → Value.okWide Tryd.prog W .any base t v)
  (hW : DataW.Whole enc Tryd.prog Tryd.f3.params.toList Rows.httpMoreSpec.vars false W args.toList ds gs before)
  (hsz : (DataW.weightsEach Tryd.prog (Tryd.f3.params.toList ++ (OpenSpec.ofChange Rows.httpMoreSpec).bare.plain.varTypes Tryd.prog) (ds ++ gs)).all (· ≤ reachBytes) = true) (hG : GG W) :
  Calls Tryd.prog 3 args W fun e W' => ∃ v, e = .returned v ∧ Rows.httpMoreSpec.post enc Tryd.prog Tryd.f3 false true false false W args v W' := by
 have hW' := hW
 obtain ⟨p, q, hA0, hV, rfl, hfz, hnd⟩ := hW
 have hA : DataW.TrodAll enc Tryd.prog W 0 (fun _ => true) true Tryd.f3.params.toList args.toList ds p := hA0
 rw [Tryd.params3] at hA hval hsz
 obtain ⟨v0, vs0, d0, ds0, p0, q0, hargs, rfl, rfl, h0, r0⟩ := trodAll_cons hA
 obtain ⟨v1, vs1, d1, ds1, p1, q1, rfl, rfl, rfl, h1, r1⟩ := trodAll_cons r0
 obtain ⟨rfl, rfl, rfl⟩ := trodAll_nil r1
 obtain rfl : args = #[v0, v1] := by cases args; simp_all
 obtain ⟨rfl, rfl⟩ := trodVars_none hV
 obtain ⟨a0, rfl, rfl, rfl, y0⟩ := open_string Tryd.underlying9 (hval 0 9 v0 rfl rfl) h0
 obtain ⟨a1, rfl, rfl, rfl, y1⟩ := open_string Tryd.underlying9 (hval 1 9 v1 rfl rfl) h1
 obtain ⟨k, hk⟩ := Pure.HttpMore_true a0 a1
 refine (stowagelaw19_HttpMore.calls k a0 a1 true W  hk hG).mono fun e W' ⟨he, bel⟩ => ?_
 subst he
 exact ⟨_, rfl, _, _, _, [], _, [], hW', trodAll_mk1 (shut_bool Tryd.underlying4 _), (trodAll_cons_mk (shut_string Tryd.underlying9 y0) (trodAll_cons_mk (shut_string Tryd.underlying9 y1) trodAll_mk0)), rfl, bel.frame _, fun h => by cases h⟩
/-- The cells of a datum without pointers. -/
def flat : DataW Unit → List Value
 | .lit (.int k n) => [.int k n]
 | .lit (.string s) => [.string ⟨s.toArray⟩]
 | .agg xs => flats xs
 | _ => []
where flats : List (DataW Unit) → List Value
 | [] => []
 | x :: xs => flat x ++ flats xs
def put (cs : List Value) : Obj → Obj
 | .cells _ t z => .cells cs.toArray t z
 | ob => ob
/-- A listed variable's cells; what an error points to lies in a new block. -/
def laidPut (h : Array Obj) (g : Nat) : DataW Unit → Array Obj
 | .iface _ (.ptr d) => (h.push (.cells (flat d).toArray 128 (0, 0))).modify g (put [.iface 126 (.pointer (some ⟨h.size, 0, none⟩))])
 | d => h.modify g (put (flat d))
/-- A world for the witness: the listed tables hold what their text lays. -/
noncomputable def laidWorld (os : Os) : World :=
 { World.holding Tryd.prog os ⟨#[], #[], []⟩ with heap := Rows.httpMoreRow.laid.foldl (fun h x => match Tryd.prog.globalNamed x.1 with | some g => laidPut h g x.2 | none => h) (World.holding Tryd.prog os ⟨#[], #[], []⟩).heap }
theorem laid_met (os : Os) : laidMet Tryd.prog Rows.httpMoreRow.laid ((laidWorld os).forCall (fun _ _ => 0) ⟨#[], #[.string ByteArray.empty, .string ByteArray.empty], []⟩).memory :=
 laidMet_of_run3 8 (by kernel_rfl) (by kernel_rfl) (by kernel_rfl)
theorem reads (os : Os) {H : Type} (enc : TypeId × Value → H) : ∃ places, DataW.whole enc Tryd.prog ((laidWorld os).forCall (fun _ _ => 0) ⟨#[], #[.string ByteArray.empty, .string ByteArray.empty], []⟩).memory Tryd.f3.params.toList Rows.httpMoreSpec.vars false (#[.string ByteArray.empty, .string ByteArray.empty] : Array Value).toList 8 = some ([.lit (.string []), .lit (.string [])], [], places) :=
 ⟨[], by kernel_rfl⟩
set_option maxRecDepth 100000 in
theorem lifted (os : Os) (started : os.Started) (H : Type) (enc : TypeId × Value → H) (F : Stop.Interp) :
  ReturnsInHanded {} Tryd.checked os 3 .any ((OpenSpec.ofChange Rows.httpMoreSpec).preRow enc Tryd.prog Tryd.f3 Rows.httpMoreRow.domain false Rows.httpMoreRow.laid) (((OpenSpec.ofChange Rows.httpMoreSpec).at F).post enc Tryd.prog Tryd.f3 false true false false) := by
 obtain ⟨places, hx⟩ := reads os enc
 refine returnsInHanded_of_row (C := Tryd.checked) (s := (OpenSpec.ofChange Rows.httpMoreSpec)) own started (by kernel_rfl) Tryd.func3
  (witness_row_at (enc := enc) (C := Tryd.checked) false (laidWorld os) #[.string ByteArray.empty, .string ByteArray.empty] rfl (by kernel_rfl) (by kernel_rfl) (by kernel_rfl)
   (OpenSpec.preRow_of_cond 8 hx (by kernel_rfl) (fun k hk => by cases hk) (by kernel_rfl) (laid_met os))) ?_
 intro W base args ds gs before hval hW _ hcond hsz hlaid hsh _
 exact contract H enc W base args ds gs before hval hW hsz ⟨(Go.Proofs.cell_of_shapedOpen_int (zero := #[.int .i64 0]) (t := 3) hsh (of_decide_eq_true (by kernel_rfl)) (by kernel_rfl) rfl (by kernel_rfl) (by kernel_rfl) Tryd.underlying3), KO.methods_of (l := Rows.httpMoreRow.laid) (by simp [Rows.httpMoreRow]) (by rw [← MakeChecks.laidMetH_plain _ _ _ (by kernel_rfl)]; exact hlaid)⟩
theorem said : Rows.HttpMoreSaid :=
 OpenClaim.holds_of_cond 3 Tryd.f3 rfl rfl rfl rfl rfl rfl rfl ⟨rfl, rfl, rfl, rfl, rfl⟩ rfl rfl rfl rfl rfl (by kernel_rfl) Tryd.func3 (by kernel_rfl)
  (of_decide_eq_true (by kernel_rfl)) (by unfold Func.isWrapper; first | (rw [if_pos (by decide +kernel)]; kernel_rfl) | (rw [if_neg (by decide +kernel)]; exact ⟨rfl, rfl⟩))
  (fun os started H enc _ F => by rw [OpenClaim.pre_eq_preRow]; exact lifted os started H enc F)
/-- No parameter wants a stand-in; the program's own looks are off: what the card asks. -/
theorem plain (f : FuncId) (fn : Func) (hf : Tryd.pinned.checked.prog.funcNamed "stowage/stowagelaw19.HttpMore" = some f) (hfn : Tryd.pinned.checked.prog.funcs[f]? = some fn) :
  true = Tryd.pinned.checked.prog.looks [] ∧ ∀ (j : Nat) t, fn.params[j]? = some t → Tryd.pinned.checked.prog.wantsStandIn t = false := by
 obtain rfl : f = 3 := Option.some.inj ((show Tryd.prog.funcNamed "stowage/stowagelaw19.HttpMore" = some 3 by kernel_rfl).symm.trans hf) |>.symm
 obtain rfl : fn = Tryd.f3 := (Option.some.inj (Tryd.func3.symm.trans hfn)).symm
 refine ⟨by kernel_rfl, fun j t ht => ?_⟩
 rw [Tryd.params3] at ht
 have hm := Array.mem_of_getElem? ht
 simp only [List.mem_toArray, List.mem_cons, List.not_mem_nil, or_false] at hm
 rcases hm with rfl | rfl
 ·
  exact (show Tryd.prog.wantsStandIn 9 = false by kernel_rfl)
 ·
  exact (show Tryd.prog.wantsStandIn 9 = false by kernel_rfl)
/-- The card. -/
theorem card : Rows.HttpMoreCardSaid :=
 Claim7.holds_tied_plain_at .later [] _ _ _ _ said (fun _ h => by cases h) (by kernel_rfl) (fun _ h => by cases h) httpMore_row_tie rfl ⟨rfl, rfl⟩ (by kernel_rfl) rfl plain (by kernel_rfl)
end Go.Proofs.YtcecdbbomadppaaDoor.httpMore
namespace Go.Proofs.YtcecdbbomadppaaDoor
theorem httpMore_card : Rows.HttpMoreCardSaid := httpMore.card
end Go.Proofs.YtcecdbbomadppaaDoor
end
