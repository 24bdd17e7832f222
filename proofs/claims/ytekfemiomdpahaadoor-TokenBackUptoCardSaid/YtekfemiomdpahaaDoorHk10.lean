-- Written for this claim by hyb.py, a driver of this session's over the kit's printer.
import Derived.Test.YtekfemiomdpahaaDoorHk0
import Derived.Test.YtekfemiomdpahaaDoorHk4
import Derived.Test.YtekfemiomdpahaaDoorHk5
import Derived.Test.YtekfemiomdpahaaDoorHk6
import Derived.Test.YtekfemiomdpahaaDoorHk8
import Derived.Test.YtekfemiomdpahaaDoorHk9
import Derived.Test.YtekfemiomdpahaaDoorHk5
import Derived.Test.YtekfemiomdpahaaDoorHk6
import Derived.Test.YtekfemiomdpahaaDoorHk9
import Derived.Test.YtekfemiomdpahaaDoorHk8
import Derived.Lib.Hide
import Derived.IntWalk
import Derived.Deep.QuietTactic
import Derived.BigQuiet
import Derived.OwnWalk
import Derived.Lib.LazyBuf
import Derived.Lib.SliceRun
import Derived.Lib.Walk
import Derived.Test.YtekfemiomdpahaaDoorRowK
namespace Go.Proofs.YtekfemiomdpahaaDoor.Hk
open Go.RowKit Go.Proofs.YtekfemiomdpahaaDoorW.PrintWords Go.Proofs.YtekfemiomdpahaaDoorW.PrintLast Go.Proofs.YtekfemiomdpahaaDoorW.PrintMore
attribute [local go_sem] max2_int min2_int max_two min_two max_three min_three max_four min_four   -- for this text's walks alone
set_option linter.unusedVariables false
set_option linter.unusedSimpArgs false

/-! ### EXT token_Note: function 12 -/
theorem token_Note_uses : api_Held_26.f = api_Held_26.f := rfl
def token_Note_ins (l0 : List (S31)) (h : S31) (i : Int) (is : Bool) : Option (List (S31) × Int) :=
  if is = true then some ([], 71) else if l0.length = 64 then some ([], 131) else if 0 ≤ i ∧ i ≤ (l0.length : Int) ∧ l0.length ≤ 64 then some (l0.take i.toNat ++ h :: l0.drop i.toNat, 0) else none
def token_Note.f (k : Nat) (l0 : List (S31)) (a1_0 : ByteArray) (a1_1 : ByteArray) (a1_2 : ByteArray) (a1_3 : Int) : Option (List (S31) × Int) :=
  (token_right.f k l0).bind fun t => if t = true then ((token_may.f k a1_0 a1_1 a1_2 a1_3).bind fun m => if m = true then ((token_find.f l0 a1_0).bind fun b => token_Note_ins l0 ⟨a1_0, a1_1, a1_2, a1_3⟩ b.1 b.2) else some ([], 1)) else some ([], 1)
theorem token_Note.mono : ∀ a0 a1 a2 a3 a4 k, LeO (token_Note.f k a0 a1 a2 a3 a4) (token_Note.f (k + 1) a0 a1 a2 a3 a4) := by
  intro a0 a1 a2 a3 a4 k
  unfold token_Note.f
  repeat' first
      | (with_reducible exact token_right.mono _ _)
      | (with_reducible exact token_may.mono _ _ _ _ _)
      | (with_reducible exact LeO.refl _)
      | (with_reducible refine LeO.ite ?_ ?_)
      | (with_reducible refine LeO.bind ?_ (fun _ => ?_))
theorem token_Note_ins_cells (l0 : List (S31)) (h : S31) (i : Nat) : api_Held_27_cells (l0.take i ++ h :: l0.drop i) = (api_Held_27_cells l0).take (i * 4) ++ [.string h.f0, .string h.f1, .string h.f2, .int .i64 h.f3] ++ (api_Held_27_cells l0).drop (i * 4) := by
  induction l0 generalizing i with
  | nil => simp [api_Held_27_cells]
  | cons y l ih =>
    cases i with
    | zero => simp [api_Held_27_cells]
    | succ i =>
      have hc : ∀ ys, api_Held_27_cells (y :: ys) = .string y.f0 :: .string y.f1 :: .string y.f2 :: .int .i64 y.f3 :: api_Held_27_cells ys := fun _ => rfl
      rw [List.take_succ_cons, List.drop_succ_cons, List.cons_append, hc, hc, ih, show (i + 1) * 4 = i * 4 + 4 by omega]
      simp
theorem token_Note_kept {W W' : World} {b : Nat} {o : Obj} (hb : Below W.heap.size W W') (h : W.heap[b]? = some o) : W'.heap[b]? = some o := (hb.block b (Array.getElem?_eq_some_iff.1 h).1).trans h
theorem token_Note_cs {W : World} {b : Nat} {u0 u1 u2 u3 : Value} {t : TypeId} {fr : Nat × Nat} (h : W.heap[b]? = some (.cells #[u0, u1, u2, u3] t fr)) : W.cell? ⟨b, 0, none⟩ = some u0 ∧ W.cell? ⟨b, 1, none⟩ = some u1 ∧ W.cell? ⟨b, 2, none⟩ = some u2 ∧ W.cell? ⟨b, 3, none⟩ = some u3 :=
  ⟨(cell_of_row W b 0 _ _ _ h).trans rfl, (cell_of_row W b 1 _ _ _ h).trans rfl, (cell_of_row W b 2 _ _ _ h).trans rfl, (cell_of_row W b 3 _ _ _ h).trans rfl⟩
set_option maxRecDepth 100000 in
set_option maxHeartbeats 4000000 in
theorem token_Note_ok (k : Nat) (A0 : Option Addr) (c0 : Nat) (l0 : List (S31)) (a1_0 : ByteArray) (a1_1 : ByteArray) (a1_2 : ByteArray) (a1_3 : Int) (i : Nat) (w : World) (hr0 : Kd.C k31 w A0 l0.length l0) (hc0 : l0.length ≤ c0)
    (hri : token_right.f k l0 = some true) (hma : token_may.f k a1_0 a1_1 a1_2 a1_3 = some true) (hfi : token_find.f l0 a1_0 = some ((i : Int), false)) (hl : l0.length < 64) (hi : i ≤ l0.length) :
    Calls Tryd.prog 12 #[.slice A0 l0.length c0, .agg #[.string a1_0, .string a1_1, .string a1_2, .int .i64 a1_3]] w fun e w' => ∃ v0_ : Value, e = .returned (.tuple #[v0_, .int .i64 0]) ∧ w'.ownsRow w.heap.size 31 4 v0_ (l0.length + 1) (api_Held_27_cells (l0.take i ++ ⟨a1_0, a1_1, a1_2, a1_3⟩ :: l0.drop i)) ∧ Below w.heap.size w w' := by
  have HR0 := Aside0.mk hr0
  have HC0 := Aside0.mk hc0
  have HRI := Aside0.mk hri
  have HMA := Aside0.mk hma
  have HFI := Aside0.mk hfi
  clear hr0 hc0 hri hma hfi
  have HB := Aside0.mk (Below.refl w.heap.size w)
  have hn64 : ¬ ((l0.length : Int) = 64) := by omega
  go_enter Tryd.func12, Tryd.ntmps12
  go_wp2_with (first
    | (go_at_call 21; (with_reducible refine (token_right.calls k _ _ l0 true _ ?side1 HC0.out HRI.out).mono ?_); (case side1 => repeat (first | exact HR0.out | (with_reducible refine Kd.C_alloc ?_ _) | (with_reducible refine Kd.C_drewN ?_ _) | (with_reducible refine Kd.C_drew ?_))); rintro e w1 ⟨rfl, hb⟩; have n0_ := Aside0.mk (below_step (by repeat (first | (with_reducible first | exact HB.out | apply below_alloc | apply pw_below_drewN | apply below_drew1) | exact HB.out)) hb); have bk_ := Aside0.mk (token_Note_kept hb (heap_alloc_new w _)); have cs_ := token_Note_cs bk_.out; obtain ⟨x0, x1, x2, x3⟩ := cs_; (try clear BK); have BK := bk_; clear bk_ HB hb; have HB := n0_; clear n0_)
    | (go_at_call 25; (with_reducible refine (token_may.calls k a1_0 a1_1 a1_2 a1_3 true _ HMA.out).mono ?_); rintro e w2 ⟨rfl, hb⟩; have n0_ := Aside0.mk (below_step (by repeat (first | (with_reducible first | exact HB.out | apply below_alloc | apply pw_below_drewN | apply below_drew1) | exact HB.out)) hb); have bk_ := Aside0.mk (token_Note_kept hb BK.out); have cs_ := token_Note_cs bk_.out; obtain ⟨x0, x1, x2, x3⟩ := cs_; (try clear BK); have BK := bk_; clear bk_ HB hb; have HB := n0_; clear n0_)
    | (go_at_call 22; (with_reducible refine (token_find.calls _ _ l0 a1_0 (i : Int) false _ ?side2 HC0.out HFI.out).mono ?_); (case side2 => repeat (first | exact (Kd.C_below HR0.out HB.out) | (with_reducible refine Kd.C_alloc ?_ _) | (with_reducible refine Kd.C_drewN ?_ _) | (with_reducible refine Kd.C_drew ?_))); rintro e w3 ⟨rfl, hb⟩; have n0_ := Aside0.mk (below_step (by repeat (first | (with_reducible first | exact HB.out | apply below_alloc | apply pw_below_drewN | apply below_drew1) | exact HB.out)) hb); have bk_ := Aside0.mk (token_Note_kept hb BK.out); have cs_ := token_Note_cs bk_.out; obtain ⟨x0, x1, x2, x3⟩ := cs_; (try clear BK); have BK := bk_; clear bk_ HB hb; have HB := n0_; clear n0_))
  obtain ⟨W, hW⟩ : ∃ W, W = w.heap.size := ⟨_, rfl⟩
  have HB0 := Aside0.mk HB.out
  have n0_ := Aside0.mk (below_drew1 HB.out)
  have n1_ := Aside0.mk (show w3.drew.heap[w.heap.size]? = _ from BK.out)
  have HS : (fun w' : World => w'.heap[w.heap.size]? = some (.cells #[.string a1_0, .string a1_1, .string a1_2, .int .i64 a1_3] 31 (0, 0)) ∧ Below w.heap.size w w') w3.drew := ⟨n1_.out, n0_.out⟩
  have mixed : Tryd.prog.follows Departure.mixedOrders = true := by kernel_rfl
  clear HB HB0 BK n0_ n1_ x0 x1 x2 x3
  refine start_ (n := 8) (S := fun w' : World => w'.heap[w.heap.size]? = some (.cells #[.string a1_0, .string a1_1, .string a1_2, .int .i64 a1_3] 31 (0, 0)) ∧ Below w.heap.size w w') (ds := []) #[false, false, false, false, false, false, false, false] mixed rfl rfl HS ?_
  intro hHeld
  generalize w3.drew = w5 at HS hHeld ⊢
  refine pure_ (i := 0) (N := some 29) (v := ?_) (a' := ?_) #[true, false, false, false, false, false, false, false] rfl rfl (by kernel_rfl) (fun _ _ _ h => h) (Or.inl ⟨by rfl, ?_⟩) ?_ ?_
  rotate_left
  · intro w'
    go_simp
    with_reducible rfl
  rotate_left
  · simp only [Act.put, List.setIfInBounds_toArray, List.set_cons_zero, List.set_cons_succ, i64_w, i32_w]
    rfl
  refine pure_ (i := 2) (N := some 31) (v := ?_) (a' := ?_) #[true, false, true, false, false, false, false, false] rfl rfl (by kernel_rfl) (fun _ _ _ h => h) (Or.inl ⟨by rfl, ?_⟩) ?_ ?_
  rotate_left
  · intro w'
    go_simp
    with_reducible rfl
  rotate_left
  · simp only [Act.put, List.setIfInBounds_toArray, List.set_cons_zero, List.set_cons_succ, i64_w, i32_w]
    rfl
  refine take_ (i := 3) (N := some 32) (v := ?_) (a' := ?_) #[true, false, true, true, false, false, false, false] rfl rfl (by kernel_rfl) (fun _ _ _ h => h) (Or.inl ⟨by rfl, ?_⟩) hHeld ?_ ?_
  rotate_left
  · rintro w' ⟨s, _⟩
    obtain ⟨s0, s1, s2, s3⟩ := token_Note_cs s
    go_simp
    with_reducible rfl
  rotate_left
  · simp only [Act.put, List.setIfInBounds_toArray, List.set_cons_zero, List.set_cons_succ, i64_w, i32_w]
    rfl
  refine two_ (i := 1) (j := 4) (Ni := some 30) (Nj := some 33) #[true, true, true, true, false, false, false, false] #[true, false, true, true, true, false, false, false] rfl rfl rfl rfl (by kernel_rfl) (by decide) (by decide) (fun K hK => ?_) (fun K hK => ?_)
  · skip
    refine goes_ Tryd.func27 (by kernel_rfl) rfl #[.slice A0 l0.length c0] (by rfl) rfl rfl (by (try simp only [List.map_toArray, List.map_cons, List.map_nil]); first | done | rfl) ?_
    refine (api_Held_27_own _ _ l0 _ (Kd.C_below HR0.out HS.2) HC0.out (by omega)).mono ?_
    rintro e w6 ⟨vc, rfl, hown0, hb⟩
    have hown := Aside0.mk hown0
    refine ⟨_, rfl, ?_⟩
    have HS6 := And.intro (token_Note_kept hb HS.1) (below_step HS.2 hb)
    refine hK.out _ _ HS6 (fun hHeld => ?_)
    clear hK K
    refine norm_ (a' := ?_) ?_ ?_
    rotate_left
    · show Act.put _ (some 30) _ = _
      simp only [Act.put, List.setIfInBounds_toArray, List.set_cons_zero, List.set_cons_succ, i64_w, i32_w]
      rfl
    refine one_ (i := 4) (N := some 33) #[true, true, true, true, true, false, false, false] rfl rfl (by kernel_rfl) (by decide) (fun K hK => ?_)
    refine value_ (w1 := ?_) (v := ?_) (by rfl) rfl ?_ ?_
    rotate_left 2
    · go_simp
      constructor
      · rfl
      · rfl
    obtain ⟨vb, hvb⟩ : ∃ vb, w6.heap.size = vb := ⟨_, rfl⟩
    have HS' : (w6.alloc (.cells #[.string a1_0, .string a1_1, .string a1_2, .int .i64 a1_3] 31)).heap[w.heap.size]? = some (.cells #[.string a1_0, .string a1_1, .string a1_2, .int .i64 a1_3] 31 (0, 0)) ∧ Below w.heap.size w (w6.alloc (.cells #[.string a1_0, .string a1_1, .string a1_2, .int .i64 a1_3] 31)) := ⟨(Below.heap_alloc _ _ _ (Array.getElem?_eq_some_iff.1 HS6.1).1).trans HS6.1, HS6.2.alloc HS6.2.size _⟩
    refine hK.out _ _ HS' (fun hHeld => ?_)
    clear hK K
    refine norm_ (a' := ?_) ?_ ?_
    rotate_left
    · show Act.put _ (some 33) _ = _
      simp only [Act.put, List.setIfInBounds_toArray, List.set_cons_zero, List.set_cons_succ, i64_w, i32_w]
      rfl
    have HO := Aside0.mk (RowK.ownsRow_low (hown.out.alloc (.cells #[.string a1_0, .string a1_1, .string a1_2, .int .i64 a1_3] 31)) HS.2.size)
    have HB := Aside0.mk HS'.2
    have HV := Aside0.mk (show (w6.alloc (.cells #[.string a1_0, .string a1_1, .string a1_2, .int .i64 a1_3] 31)).heap[vb]? = _ from hvb ▸ heap_alloc_new w6 _)
    have HN : Aside0 (vc.ownBlock ≠ some vb) := Aside0.mk (fun e => by have := (hown.out.lt vb e).2; omega)
    have HL := Aside0.mk (Array.getElem?_eq_some_iff.1 HS'.1).1
    have HM : Aside0 (some w.heap.size ≠ vc.ownBlock) := Aside0.mk (fun e => by have h1 := (hown.out.lt w.heap.size e.symm).1; have h2 := (Array.getElem?_eq_some_iff.1 HS.1).1; omega)
    clear hown0 hown hb
    rw [hvb]
    refine one_ (i := 5) (N := some 34) #[true, true, true, true, true, true, false, false] rfl rfl (by kernel_rfl) (by decide) (fun K hK => ?_)
    refine goes_ Tryd.func26 (by kernel_rfl) rfl #[vc, .int .i64 i, .slice (some ⟨vb, 0, none⟩) 1 1] (by rfl) rfl rfl (by (try simp only [List.map_toArray, List.map_cons, List.map_nil]); first | done | rfl) ?_
    refine (api_Held_26_own w.heap.size vc l0.length i vb 31 _ [.string a1_0, .string a1_1, .string a1_2, .int .i64 a1_3] _ HO.out hi (by omega) HB.out.size (api_Held_27_one l0) (by intro u hu; simp only [List.mem_cons, List.not_mem_nil, or_false] at hu; rcases hu with rfl | rfl | rfl | rfl <;> rfl) rfl HV.out HN.out).mono ?_
    rintro e w9 ⟨v9, rfl, hfin, hgr⟩
    refine ⟨_, rfl, ?_⟩
    have HF : Aside0 (w9.ownsRow w.heap.size 31 4 v9 (l0.length + 1) (api_Held_27_cells (l0.take i ++ ⟨a1_0, a1_1, a1_2, a1_3⟩ :: l0.drop i))) := Aside0.mk (by rw [token_Note_ins_cells]; exact hfin)
    have HB9 := Aside0.mk (HB.out.grown hgr HB.out.size (fun k e => (HO.out.lt k e).1))
    refine hK.out _ _ ⟨(hgr.block _ HL.out HM.out).trans HS'.1, HB9.out⟩ (fun hHeld => ?_)
    clear hK K hfin hgr
    refine norm_ (a' := ?_) ?_ ?_
    rotate_left
    · show Act.put _ (some 34) _ = _
      simp only [Act.put, List.setIfInBounds_toArray, List.set_cons_zero, List.set_cons_succ, i64_w, i32_w]
      rfl
    refine pure_ (i := 6) (N := some 4) (v := ?_) (a' := ?_) #[true, true, true, true, true, true, true, false] rfl rfl (by kernel_rfl) (fun _ _ _ h => h) (Or.inl ⟨by rfl, ?_⟩) ?_ ?_
    rotate_left
    · intro w'
      go_simp
      with_reducible rfl
    rotate_left
    · simp only [Act.put, List.setIfInBounds_toArray, List.set_cons_zero, List.set_cons_succ, i64_w, i32_w]
      rfl
    refine pure_ (i := 7) (N := some 5) (v := ?_) (a' := ?_) #[true, true, true, true, true, true, true, true] rfl rfl (by kernel_rfl) (fun _ _ _ h => h) (Or.inl ⟨by rfl, ?_⟩) ?_ ?_
    rotate_left
    · intro w'
      go_simp
      with_reducible rfl
    rotate_left
    · simp only [Act.put, List.setIfInBounds_toArray, List.set_cons_zero, List.set_cons_succ, i64_w, i32_w]
      rfl
    refine done_ (by kernel_rfl) ?_
    try go_wp2
    go_ret2
    exact ⟨_, rfl, HF.out, HB9.out⟩
  · skip
    refine value_ (w1 := ?_) (v := ?_) (by rfl) rfl ?_ ?_
    rotate_left 2
    · go_simp
      constructor
      · rfl
      · rfl
    obtain ⟨vb, hvb⟩ : ∃ vb, w5.heap.size = vb := ⟨_, rfl⟩
    have HS5 : (w5.alloc (.cells #[.string a1_0, .string a1_1, .string a1_2, .int .i64 a1_3] 31)).heap[w.heap.size]? = some (.cells #[.string a1_0, .string a1_1, .string a1_2, .int .i64 a1_3] 31 (0, 0)) ∧ Below w.heap.size w (w5.alloc (.cells #[.string a1_0, .string a1_1, .string a1_2, .int .i64 a1_3] 31)) := ⟨(Below.heap_alloc _ _ _ (Array.getElem?_eq_some_iff.1 HS.1).1).trans HS.1, HS.2.alloc HS.2.size _⟩
    refine hK.out _ _ HS5 (fun hHeld => ?_)
    clear hK K
    refine norm_ (a' := ?_) ?_ ?_
    rotate_left
    · show Act.put _ (some 33) _ = _
      simp only [Act.put, List.setIfInBounds_toArray, List.set_cons_zero, List.set_cons_succ, i64_w, i32_w]
      rfl
    have HV5 := Aside0.mk (show (w5.alloc (.cells #[.string a1_0, .string a1_1, .string a1_2, .int .i64 a1_3] 31)).heap[vb]? = _ from hvb ▸ heap_alloc_new w5 _)
    rw [hvb]
    generalize w5.alloc (.cells #[.string a1_0, .string a1_1, .string a1_2, .int .i64 a1_3] 31) = w7 at HS5 HV5 hHeld ⊢
    clear HS
    have HS := HS5
    refine one_ (i := 1) (N := some 30) #[true, true, true, true, true, false, false, false] rfl rfl (by kernel_rfl) (by decide) (fun K hK => ?_)
    refine goes_ Tryd.func27 (by kernel_rfl) rfl #[.slice A0 l0.length c0] (by rfl) rfl rfl (by (try simp only [List.map_toArray, List.map_cons, List.map_nil]); first | done | rfl) ?_
    refine (api_Held_27_own _ _ l0 _ (Kd.C_below HR0.out HS.2) HC0.out (by omega)).mono ?_
    rintro e w6 ⟨vc, rfl, hown0, hb⟩
    have hown := Aside0.mk hown0
    refine ⟨_, rfl, ?_⟩
    have HS6 := And.intro (token_Note_kept hb HS.1) (below_step HS.2 hb)
    refine hK.out _ _ HS6 (fun hHeld => ?_)
    clear hK K
    refine norm_ (a' := ?_) ?_ ?_
    rotate_left
    · show Act.put _ (some 30) _ = _
      simp only [Act.put, List.setIfInBounds_toArray, List.set_cons_zero, List.set_cons_succ, i64_w, i32_w]
      rfl
    have HS' := HS6
    have HO := Aside0.mk (RowK.ownsRow_low hown.out HS.2.size)
    have HB := Aside0.mk HS'.2
    have HV := Aside0.mk (token_Note_kept hb HV5.out)
    have HN : Aside0 (vc.ownBlock ≠ some vb) := Aside0.mk (fun e => by have := (hown.out.lt vb e).1; have h2 := (Array.getElem?_eq_some_iff.1 HV5.out).1; omega)
    have HL := Aside0.mk (Array.getElem?_eq_some_iff.1 HS'.1).1
    have HM : Aside0 (some w.heap.size ≠ vc.ownBlock) := Aside0.mk (fun e => by have h1 := (hown.out.lt w.heap.size e.symm).1; have h2 := (Array.getElem?_eq_some_iff.1 HS.1).1; omega)
    clear hown0 hown hb
    refine one_ (i := 5) (N := some 34) #[true, true, true, true, true, true, false, false] rfl rfl (by kernel_rfl) (by decide) (fun K hK => ?_)
    refine goes_ Tryd.func26 (by kernel_rfl) rfl #[vc, .int .i64 i, .slice (some ⟨vb, 0, none⟩) 1 1] (by rfl) rfl rfl (by (try simp only [List.map_toArray, List.map_cons, List.map_nil]); first | done | rfl) ?_
    refine (api_Held_26_own w.heap.size vc l0.length i vb 31 _ [.string a1_0, .string a1_1, .string a1_2, .int .i64 a1_3] _ HO.out hi (by omega) HB.out.size (api_Held_27_one l0) (by intro u hu; simp only [List.mem_cons, List.not_mem_nil, or_false] at hu; rcases hu with rfl | rfl | rfl | rfl <;> rfl) rfl HV.out HN.out).mono ?_
    rintro e w9 ⟨v9, rfl, hfin, hgr⟩
    refine ⟨_, rfl, ?_⟩
    have HF : Aside0 (w9.ownsRow w.heap.size 31 4 v9 (l0.length + 1) (api_Held_27_cells (l0.take i ++ ⟨a1_0, a1_1, a1_2, a1_3⟩ :: l0.drop i))) := Aside0.mk (by rw [token_Note_ins_cells]; exact hfin)
    have HB9 := Aside0.mk (HB.out.grown hgr HB.out.size (fun k e => (HO.out.lt k e).1))
    refine hK.out _ _ ⟨(hgr.block _ HL.out HM.out).trans HS'.1, HB9.out⟩ (fun hHeld => ?_)
    clear hK K hfin hgr
    refine norm_ (a' := ?_) ?_ ?_
    rotate_left
    · show Act.put _ (some 34) _ = _
      simp only [Act.put, List.setIfInBounds_toArray, List.set_cons_zero, List.set_cons_succ, i64_w, i32_w]
      rfl
    refine pure_ (i := 6) (N := some 4) (v := ?_) (a' := ?_) #[true, true, true, true, true, true, true, false] rfl rfl (by kernel_rfl) (fun _ _ _ h => h) (Or.inl ⟨by rfl, ?_⟩) ?_ ?_
    rotate_left
    · intro w'
      go_simp
      with_reducible rfl
    rotate_left
    · simp only [Act.put, List.setIfInBounds_toArray, List.set_cons_zero, List.set_cons_succ, i64_w, i32_w]
      rfl
    refine pure_ (i := 7) (N := some 5) (v := ?_) (a' := ?_) #[true, true, true, true, true, true, true, true] rfl rfl (by kernel_rfl) (fun _ _ _ h => h) (Or.inl ⟨by rfl, ?_⟩) ?_ ?_
    rotate_left
    · intro w'
      go_simp
      with_reducible rfl
    rotate_left
    · simp only [Act.put, List.setIfInBounds_toArray, List.set_cons_zero, List.set_cons_succ, i64_w, i32_w]
      rfl
    refine done_ (by kernel_rfl) ?_
    try go_wp2
    go_ret2
    exact ⟨_, rfl, HF.out, HB9.out⟩
set_option maxRecDepth 100000 in
set_option maxHeartbeats 4000000 in
theorem token_Note_n1 (k : Nat) (A0 : Option Addr) (c0 : Nat) (l0 : List (S31)) (a1_0 : ByteArray) (a1_1 : ByteArray) (a1_2 : ByteArray) (a1_3 : Int) (w : World) (hr0 : Kd.C k31 w A0 l0.length l0) (hc0 : l0.length ≤ c0) (hri : token_right.f k l0 = some false) :
    Calls Tryd.prog 12 #[.slice A0 l0.length c0, .agg #[.string a1_0, .string a1_1, .string a1_2, .int .i64 a1_3]] w fun e w' => e = .returned (.tuple #[.slice none 0 0, .int .i64 1]) ∧ Below w.heap.size w w' := by
  have HR0 := Aside0.mk hr0
  have HC0 := Aside0.mk hc0
  have HRI := Aside0.mk hri
  clear hr0 hc0 hri
  have HB := Aside0.mk (Below.refl w.heap.size w)
  go_enter Tryd.func12, Tryd.ntmps12
  go_wp2_with (first
    | (go_at_call 21; (with_reducible refine (token_right.calls k _ _ l0 false _ ?side1 HC0.out HRI.out).mono ?_); (case side1 => repeat (first | exact HR0.out | (with_reducible refine Kd.C_alloc ?_ _) | (with_reducible refine Kd.C_drewN ?_ _) | (with_reducible refine Kd.C_drew ?_))); rintro e w1 ⟨rfl, hb⟩; have n0_ := Aside0.mk (below_step (by repeat (first | (with_reducible first | exact HB.out | apply below_alloc | apply pw_below_drewN | apply below_drew1) | exact HB.out)) hb); have bk_ := Aside0.mk (token_Note_kept hb (heap_alloc_new w _)); have cs_ := token_Note_cs bk_.out; obtain ⟨x0, x1, x2, x3⟩ := cs_; (try clear BK); have BK := bk_; clear bk_ HB hb; have HB := n0_; clear n0_))
  go_ret2
  exact ⟨rfl, by repeat (first | (with_reducible first | exact HB.out | apply below_alloc | apply pw_below_drewN | apply below_drew1) | exact HB.out)⟩
set_option maxRecDepth 100000 in
set_option maxHeartbeats 4000000 in
theorem token_Note_n2 (k : Nat) (A0 : Option Addr) (c0 : Nat) (l0 : List (S31)) (a1_0 : ByteArray) (a1_1 : ByteArray) (a1_2 : ByteArray) (a1_3 : Int) (w : World) (hr0 : Kd.C k31 w A0 l0.length l0) (hc0 : l0.length ≤ c0) (hri : token_right.f k l0 = some true) (hma : token_may.f k a1_0 a1_1 a1_2 a1_3 = some false) :
    Calls Tryd.prog 12 #[.slice A0 l0.length c0, .agg #[.string a1_0, .string a1_1, .string a1_2, .int .i64 a1_3]] w fun e w' => e = .returned (.tuple #[.slice none 0 0, .int .i64 1]) ∧ Below w.heap.size w w' := by
  have HR0 := Aside0.mk hr0
  have HC0 := Aside0.mk hc0
  have HRI := Aside0.mk hri
  have HMA := Aside0.mk hma
  clear hr0 hc0 hri hma
  have HB := Aside0.mk (Below.refl w.heap.size w)
  go_enter Tryd.func12, Tryd.ntmps12
  go_wp2_with (first
    | (go_at_call 21; (with_reducible refine (token_right.calls k _ _ l0 true _ ?side1 HC0.out HRI.out).mono ?_); (case side1 => repeat (first | exact HR0.out | (with_reducible refine Kd.C_alloc ?_ _) | (with_reducible refine Kd.C_drewN ?_ _) | (with_reducible refine Kd.C_drew ?_))); rintro e w1 ⟨rfl, hb⟩; have n0_ := Aside0.mk (below_step (by repeat (first | (with_reducible first | exact HB.out | apply below_alloc | apply pw_below_drewN | apply below_drew1) | exact HB.out)) hb); have bk_ := Aside0.mk (token_Note_kept hb (heap_alloc_new w _)); have cs_ := token_Note_cs bk_.out; obtain ⟨x0, x1, x2, x3⟩ := cs_; (try clear BK); have BK := bk_; clear bk_ HB hb; have HB := n0_; clear n0_)
    | (go_at_call 25; (with_reducible refine (token_may.calls k a1_0 a1_1 a1_2 a1_3 false _ HMA.out).mono ?_); rintro e w2 ⟨rfl, hb⟩; have n0_ := Aside0.mk (below_step (by repeat (first | (with_reducible first | exact HB.out | apply below_alloc | apply pw_below_drewN | apply below_drew1) | exact HB.out)) hb); have bk_ := Aside0.mk (token_Note_kept hb BK.out); have cs_ := token_Note_cs bk_.out; obtain ⟨x0, x1, x2, x3⟩ := cs_; (try clear BK); have BK := bk_; clear bk_ HB hb; have HB := n0_; clear n0_))
  go_ret2
  exact ⟨rfl, by repeat (first | (with_reducible first | exact HB.out | apply below_alloc | apply pw_below_drewN | apply below_drew1) | exact HB.out)⟩
set_option maxRecDepth 100000 in
set_option maxHeartbeats 4000000 in
theorem token_Note_n3 (k : Nat) (A0 : Option Addr) (c0 : Nat) (l0 : List (S31)) (a1_0 : ByteArray) (a1_1 : ByteArray) (a1_2 : ByteArray) (a1_3 : Int) (w : World) (hr0 : Kd.C k31 w A0 l0.length l0) (hc0 : l0.length ≤ c0) (i : Int) (hri : token_right.f k l0 = some true) (hma : token_may.f k a1_0 a1_1 a1_2 a1_3 = some true) (hfi : token_find.f l0 a1_0 = some (i, true)) :
    Calls Tryd.prog 12 #[.slice A0 l0.length c0, .agg #[.string a1_0, .string a1_1, .string a1_2, .int .i64 a1_3]] w fun e w' => e = .returned (.tuple #[.slice none 0 0, .int .i64 71]) ∧ Below w.heap.size w w' := by
  have HR0 := Aside0.mk hr0
  have HC0 := Aside0.mk hc0
  have HRI := Aside0.mk hri
  have HMA := Aside0.mk hma
  have HFI := Aside0.mk hfi
  clear hr0 hc0 hri hma hfi
  have HB := Aside0.mk (Below.refl w.heap.size w)
  go_enter Tryd.func12, Tryd.ntmps12
  go_wp2_with (first
    | (go_at_call 21; (with_reducible refine (token_right.calls k _ _ l0 true _ ?side1 HC0.out HRI.out).mono ?_); (case side1 => repeat (first | exact HR0.out | (with_reducible refine Kd.C_alloc ?_ _) | (with_reducible refine Kd.C_drewN ?_ _) | (with_reducible refine Kd.C_drew ?_))); rintro e w1 ⟨rfl, hb⟩; have n0_ := Aside0.mk (below_step (by repeat (first | (with_reducible first | exact HB.out | apply below_alloc | apply pw_below_drewN | apply below_drew1) | exact HB.out)) hb); have bk_ := Aside0.mk (token_Note_kept hb (heap_alloc_new w _)); have cs_ := token_Note_cs bk_.out; obtain ⟨x0, x1, x2, x3⟩ := cs_; (try clear BK); have BK := bk_; clear bk_ HB hb; have HB := n0_; clear n0_)
    | (go_at_call 25; (with_reducible refine (token_may.calls k a1_0 a1_1 a1_2 a1_3 true _ HMA.out).mono ?_); rintro e w2 ⟨rfl, hb⟩; have n0_ := Aside0.mk (below_step (by repeat (first | (with_reducible first | exact HB.out | apply below_alloc | apply pw_below_drewN | apply below_drew1) | exact HB.out)) hb); have bk_ := Aside0.mk (token_Note_kept hb BK.out); have cs_ := token_Note_cs bk_.out; obtain ⟨x0, x1, x2, x3⟩ := cs_; (try clear BK); have BK := bk_; clear bk_ HB hb; have HB := n0_; clear n0_)
    | (go_at_call 22; (with_reducible refine (token_find.calls _ _ l0 a1_0 i true _ ?side2 HC0.out HFI.out).mono ?_); (case side2 => repeat (first | exact (Kd.C_below HR0.out HB.out) | (with_reducible refine Kd.C_alloc ?_ _) | (with_reducible refine Kd.C_drewN ?_ _) | (with_reducible refine Kd.C_drew ?_))); rintro e w3 ⟨rfl, hb⟩; have n0_ := Aside0.mk (below_step (by repeat (first | (with_reducible first | exact HB.out | apply below_alloc | apply pw_below_drewN | apply below_drew1) | exact HB.out)) hb); have bk_ := Aside0.mk (token_Note_kept hb BK.out); have cs_ := token_Note_cs bk_.out; obtain ⟨x0, x1, x2, x3⟩ := cs_; (try clear BK); have BK := bk_; clear bk_ HB hb; have HB := n0_; clear n0_))
  go_ret2
  exact ⟨rfl, by repeat (first | (with_reducible first | exact HB.out | apply below_alloc | apply pw_below_drewN | apply below_drew1) | exact HB.out)⟩
set_option maxRecDepth 100000 in
set_option maxHeartbeats 4000000 in
theorem token_Note_n4 (k : Nat) (A0 : Option Addr) (c0 : Nat) (l0 : List (S31)) (a1_0 : ByteArray) (a1_1 : ByteArray) (a1_2 : ByteArray) (a1_3 : Int) (w : World) (hr0 : Kd.C k31 w A0 l0.length l0) (hc0 : l0.length ≤ c0) (i : Int) (hri : token_right.f k l0 = some true) (hma : token_may.f k a1_0 a1_1 a1_2 a1_3 = some true) (hfi : token_find.f l0 a1_0 = some (i, false)) (hl : l0.length = 64) :
    Calls Tryd.prog 12 #[.slice A0 l0.length c0, .agg #[.string a1_0, .string a1_1, .string a1_2, .int .i64 a1_3]] w fun e w' => e = .returned (.tuple #[.slice none 0 0, .int .i64 131]) ∧ Below w.heap.size w w' := by
  have HR0 := Aside0.mk hr0
  have HC0 := Aside0.mk hc0
  have HRI := Aside0.mk hri
  have HMA := Aside0.mk hma
  have HFI := Aside0.mk hfi
  clear hr0 hc0 hri hma hfi
  have HB := Aside0.mk (Below.refl w.heap.size w)
  have hn64 : ((l0.length : Int) == 64) = true := by rw [hl]; rfl
  clear hl
  go_enter Tryd.func12, Tryd.ntmps12
  go_wp2_with (first
    | (go_at_call 21; (with_reducible refine (token_right.calls k _ _ l0 true _ ?side1 HC0.out HRI.out).mono ?_); (case side1 => repeat (first | exact HR0.out | (with_reducible refine Kd.C_alloc ?_ _) | (with_reducible refine Kd.C_drewN ?_ _) | (with_reducible refine Kd.C_drew ?_))); rintro e w1 ⟨rfl, hb⟩; have n0_ := Aside0.mk (below_step (by repeat (first | (with_reducible first | exact HB.out | apply below_alloc | apply pw_below_drewN | apply below_drew1) | exact HB.out)) hb); have bk_ := Aside0.mk (token_Note_kept hb (heap_alloc_new w _)); have cs_ := token_Note_cs bk_.out; obtain ⟨x0, x1, x2, x3⟩ := cs_; (try clear BK); have BK := bk_; clear bk_ HB hb; have HB := n0_; clear n0_)
    | (go_at_call 25; (with_reducible refine (token_may.calls k a1_0 a1_1 a1_2 a1_3 true _ HMA.out).mono ?_); rintro e w2 ⟨rfl, hb⟩; have n0_ := Aside0.mk (below_step (by repeat (first | (with_reducible first | exact HB.out | apply below_alloc | apply pw_below_drewN | apply below_drew1) | exact HB.out)) hb); have bk_ := Aside0.mk (token_Note_kept hb BK.out); have cs_ := token_Note_cs bk_.out; obtain ⟨x0, x1, x2, x3⟩ := cs_; (try clear BK); have BK := bk_; clear bk_ HB hb; have HB := n0_; clear n0_)
    | (go_at_call 22; (with_reducible refine (token_find.calls _ _ l0 a1_0 i false _ ?side2 HC0.out HFI.out).mono ?_); (case side2 => repeat (first | exact (Kd.C_below HR0.out HB.out) | (with_reducible refine Kd.C_alloc ?_ _) | (with_reducible refine Kd.C_drewN ?_ _) | (with_reducible refine Kd.C_drew ?_))); rintro e w3 ⟨rfl, hb⟩; have n0_ := Aside0.mk (below_step (by repeat (first | (with_reducible first | exact HB.out | apply below_alloc | apply pw_below_drewN | apply below_drew1) | exact HB.out)) hb); have bk_ := Aside0.mk (token_Note_kept hb BK.out); have cs_ := token_Note_cs bk_.out; obtain ⟨x0, x1, x2, x3⟩ := cs_; (try clear BK); have BK := bk_; clear bk_ HB hb; have HB := n0_; clear n0_))
  go_ret2
  exact ⟨rfl, by repeat (first | (with_reducible first | exact HB.out | apply below_alloc | apply pw_below_drewN | apply below_drew1) | exact HB.out)⟩
theorem token_Note.calls (k : Nat) (A0 : Option Addr) (c0 : Nat) (l0 : List (S31)) (a1_0 : ByteArray) (a1_1 : ByteArray) (a1_2 : ByteArray) (a1_3 : Int) (r1 : List (S31)) (r2 : Int) (w : World) (hr0 : Kd.C k31 w A0 l0.length l0) (hc0 : l0.length ≤ c0) (h : token_Note.f k l0 a1_0 a1_1 a1_2 a1_3 = some (r1, r2)) :
    Calls Tryd.prog 12 #[.slice A0 l0.length c0, .agg #[.string a1_0, .string a1_1, .string a1_2, .int .i64 a1_3]] w fun e w' => ∃ v0_ : Value, e = .returned (.tuple #[v0_, .int .i64 r2]) ∧ Kd.R k31 31 w' w.heap.size (fun _ => True) v0_ r1 ∧ Below w.heap.size w w' := by
  unfold token_Note.f at h
  obtain ⟨t, hri, h⟩ := Option.bind_eq_some_iff.mp h
  cases t with
  | false =>
    rw [if_neg (by simp)] at h; cases h
    exact (token_Note_n1 k A0 c0 l0 a1_0 a1_1 a1_2 a1_3 w hr0 hc0 hri).mono fun e w' ⟨h1, h2⟩ => ⟨_, h1, Kd.R_nil _ _ _ _ _, h2⟩
  | true =>
    rw [if_pos rfl] at h
    obtain ⟨m, hma, h⟩ := Option.bind_eq_some_iff.mp h
    cases m with
    | false =>
      rw [if_neg (by simp)] at h; cases h
      exact (token_Note_n2 k A0 c0 l0 a1_0 a1_1 a1_2 a1_3 w hr0 hc0 hri hma).mono fun e w' ⟨h1, h2⟩ => ⟨_, h1, Kd.R_nil _ _ _ _ _, h2⟩
    | true =>
      rw [if_pos rfl] at h
      obtain ⟨⟨i, b⟩, hfi, h⟩ := Option.bind_eq_some_iff.mp h
      unfold token_Note_ins at h
      cases b with
      | true =>
        rw [if_pos rfl] at h; cases h
        exact (token_Note_n3 k A0 c0 l0 a1_0 a1_1 a1_2 a1_3 w hr0 hc0 i hri hma hfi).mono fun e w' ⟨h1, h2⟩ => ⟨_, h1, Kd.R_nil _ _ _ _ _, h2⟩
      | false =>
        rw [if_neg (by simp)] at h
        split at h
        · rename_i hl
          cases h
          exact (token_Note_n4 k A0 c0 l0 a1_0 a1_1 a1_2 a1_3 w hr0 hc0 i hri hma hfi hl).mono fun e w' ⟨h1, h2⟩ => ⟨_, h1, Kd.R_nil _ _ _ _ _, h2⟩
        · rename_i hl
          split at h
          · rename_i hc
            obtain ⟨hc1, hc2, hc3⟩ := hc
            cases h
            have hi : ((i.toNat : Nat) : Int) = i := by omega
            refine (token_Note_ok k A0 c0 l0 a1_0 a1_1 a1_2 a1_3 i.toNat w hr0 hc0 hri hma (by rw [hi]; exact hfi) (by omega) (by omega)).mono fun e w' ⟨v, h1, h2, h3⟩ => ⟨v, h1, api_Held_27_row (by rw [List.length_append, List.length_cons, List.length_take, List.length_drop]; rw [show min i.toNat l0.length + (l0.length - i.toNat + 1) = l0.length + 1 by omega]; exact h2), h3⟩
          · cases h

end Go.Proofs.YtekfemiomdpahaaDoor.Hk
