/- Merged of several texts of this session's by merge.py. -/
import Derived.Test.YtcecdbbomadppaaDoorMm5
import Derived.Recover
import Derived.Defers
section
namespace Go.Proofs.YtcecdbbomadppaaDoor.Hw
open Go Go.RowKit Go.Proofs.YtcecdbbomadppaaDoorW.PrintWords Go.Proofs.YtcecdbbomadppaaDoorW.PrintLast Go.Proofs.YtcecdbbomadppaaDoorW.PrintMore
set_option linter.unusedVariables false
set_option linter.unusedSimpArgs false
section
variable {P : Program} {ops : Array Oper} {Q : Exit → Act → World → Prop} {md : Region.Mode} {S : World → Prop} {ds : List Nat}
theorem hfall (i : Nat) (N : Option Tmp) (f : FuncId) (args : Array Value) {R : Ending → World → Prop} {oi : Oper} {fuel : Nat} {l : Array Bool} {a : Act} {w : World} (hcall : Calls P f args w R)
  (h : ∀ e w', R e w' → ∃ ch, e = .panicked ch ∧ Q (.panic ch) a w') (hi : ops[i]? = some oi := by exact rfl) (hN : oi.dst = N := by exact rfl) (hc : readyB md ops l (l.setIfInBounds i true) i = true := by kernel_rfl) (hd : i ∉ ds := by decide)
  (hg : Region.wanted oi (yielded ops a.tmps) = true := by rfl) (hrun : (execOp a.eval oi).run P w = .ok (.enter f args) w := by first | (go_simp; done) | (go_simp; rfl)) : wpAnyLast P md ops Q S ds (fuel + 1) l a w := by
 refine one_ (i := i) (N := N) _ hi hN hc hd (fun K hK => ?_)
 rw [if_pos hg]
 unfold Oper.wp
 rw [hrun, Oper.upon_enter]
 exact hcall.mono fun e w' hR => by
  obtain ⟨ch, rfl, hq⟩ := h e w' hR
  exact hq
end
theorem data_inj {a b : ByteArray} (h : a.data.toList = b.data.toList) : a = b := by rw [← Lib.mk_data a, h, Lib.mk_data]
theorem L3 {L : List ByteArray} {a t v : ByteArray} (h : L.map (·.data.toList) = [a.data.toList, t.data.toList, v.data.toList]) : L = [a, t, v] := by
 rcases L with _ | ⟨x, _ | ⟨y, _ | ⟨z, _ | ⟨u, L⟩⟩⟩⟩
 ·
  cases h
 ·
  simp at h
 ·
  simp at h
 ·
  simp only [List.map_cons, List.map_nil, List.cons.injEq, and_true] at h
  rw [data_inj h.1, data_inj h.2.1, data_inj h.2.2]
 ·
  simp at h
theorem up_cs (l : List UInt8) : l.all (([65, 66, 67, 68, 69, 70, 71, 72, 73, 74, 75, 76, 77, 78, 79, 80, 81, 82, 83, 84, 85, 86, 87, 88, 89, 90] : List UInt8).contains ·) = l.all Ht.isUp := by
 congr 1
 funext c
 have : ∀ n : Fin 256, (([65, 66, 67, 68, 69, 70, 71, 72, 73, 74, 75, 76, 77, 78, 79, 80, 81, 82, 83, 84, 85, 86, 87, 88, 89, 90] : List UInt8).contains (UInt8.ofNat n.val)) = Ht.isUp (UInt8.ofNat n.val) := by decide +kernel
 have h := this ⟨c.toNat, c.toNat_lt⟩
 simpa using h
theorem trim_up (s : ByteArray) (w : World) (hs : s.size < 2147483648) :
  Calls Tryd.prog 24 #[.string s, .string ⟨#[65, 66, 67, 68, 69, 70, 71, 72, 73, 74, 75, 76, 77, 78, 79, 80, 81, 82, 83, 84, 85, 86, 87, 88, 89, 90]⟩] w fun e w' => (∃ t : ByteArray, e = .returned (.string t) ∧ Aside0 (t.data.toList = [] ↔ s.data.toList.all Ht.isUp = true)) ∧ Below w.heap.size w w' := by
 refine (trim_calls s ⟨#[65, 66, 67, 68, 69, 70, 71, 72, 73, 74, 75, 76, 77, 78, 79, 80, 81, 82, 83, 84, 85, 86, 87, 88, 89, 90]⟩ w hs (by decide) (by decide)).mono ?_
 rintro e w' ⟨rfl, hb⟩
 exact ⟨⟨_, rfl, am ((Ht.trim_nil _ _).trans (by rw [← up_cs]))⟩, hb⟩
theorem slash_calls (s : ByteArray) (w : World) : Calls Tryd.prog 25 #[.string s, .string ⟨#[47]⟩] w fun e w' => e = .returned (.bool (s.data.toList.head? == some 47)) ∧ Below w.heap.size w w' := by
 refine (Tryd.strings_HasPrefix s ⟨#[47]⟩ w).mono ?_
 rintro e w' ⟨rfl, rfl⟩
 refine ⟨?_, Below.refl _ _⟩
 congr 2
 unfold Lib.hasPrefix
 cases s.data.toList with
 | nil => rfl
 | cons c l =>
  show ((47 : UInt8) == c && ([] : List UInt8).isPrefixOf l) = (some c == some 47)
  simp [eq_comm, Bool.beq_comm]
set_option maxRecDepth 100000 in
set_option maxHeartbeats 8000000 in
theorem first_no0 (s a t v : ByteArray) (w : World) (hs : s.size < 2147483648) (has : a.size < 2147483648) (hts : t.size < 2147483648) (hG : GG w) (hsp : Q.splitL 32 s.data.toList = [a.data.toList, t.data.toList, v.data.toList]) (h0 : 16 < a.size) :
  Calls Tryd.prog 16 #[.string s] w fun e w' => Fell 190 e ∧ Below w.heap.size w w' := by
 have e0 : decide ((a.size : Int) ≤ 16) = false := decide_eq_false (by omega)
 have HG := am hG
 have HSP := am hsp
 have HB := am (Below.refl w.heap.size w)
 clear hG hsp
 go_enter Tryd.func16, Tryd.ntmps16
 go_wp2_with (first
  | ((with_reducible refine gate_dst (N := 2) rfl ?_); refine bx 2 #[.string ⟨#[]⟩, .string ⟨#[]⟩, .string ⟨#[]⟩, .slice none 0 0, .string ⟨#[]⟩, .bool false] 35 ?_; intro gp hg w0 hbox hb; have GP := gsz hg HB.out; have BP := am hbox; replace HB := am (below_step HB.out hb); clear hb hbox hg)
  | (go_at_call 22; refine (split_calls s _ hs (gg_below HG.out (bws HB.out))).mono ?_; rintro e w1 ⟨L, gl, hL, he, hc, hb1⟩; have e3 := L3 (hL.out.trans HSP.out); subst e3; replace he : e = .returned (.slice (some ⟨gl, 0, none⟩) 3 3) := he; subst he; have BL := am (show w1.heap[gl]? = some (.cells #[.string a, .string t, .string v] 9 (0, 0)) from hc.out); replace BP := bb BP.out hb1.out; replace HB := am (below_step (bws HB.out) hb1.out); clear hb1 hc hL; obtain ⟨c0, c1, c2, f0, f1, f2⟩ := cz3 BL.out)
  | (go_at_call 23; (refine (check_no 190 _).mono ?_); rintro e w5 ⟨⟨sh, rfl⟩, hb5⟩; replace HB := am (below_step (bws HB.out) hb5); clear hb5))
 exact ⟨rfl, ⟨sh, rfl⟩, bws HB.out⟩
set_option maxRecDepth 100000 in
set_option maxHeartbeats 8000000 in
theorem first_no1 (s a t v : ByteArray) (w : World) (hs : s.size < 2147483648) (has : a.size < 2147483648) (hts : t.size < 2147483648) (hG : GG w) (hsp : Q.splitL 32 s.data.toList = [a.data.toList, t.data.toList, v.data.toList]) (h0 : a.size ≤ 16) (h1 : a = ⟨#[]⟩) :
  Calls Tryd.prog 16 #[.string s] w fun e w' => Fell 190 e ∧ Below w.heap.size w w' := by
 have e0 : decide ((a.size : Int) ≤ 16) = true := decide_eq_true (by omega)
 subst h1
 have HG := am hG
 have HSP := am hsp
 have HB := am (Below.refl w.heap.size w)
 clear hG hsp
 go_enter Tryd.func16, Tryd.ntmps16
 go_wp2_with (first
  | ((with_reducible refine gate_dst (N := 2) rfl ?_); refine bx 2 #[.string ⟨#[]⟩, .string ⟨#[]⟩, .string ⟨#[]⟩, .slice none 0 0, .string ⟨#[]⟩, .bool false] 35 ?_; intro gp hg w0 hbox hb; have GP := gsz hg HB.out; have BP := am hbox; replace HB := am (below_step HB.out hb); clear hb hbox hg)
  | (go_at_call 22; refine (split_calls s _ hs (gg_below HG.out (bws HB.out))).mono ?_; rintro e w1 ⟨L, gl, hL, he, hc, hb1⟩; have e3 := L3 (hL.out.trans HSP.out); subst e3; replace he : e = .returned (.slice (some ⟨gl, 0, none⟩) 3 3) := he; subst he; have BL := am (show w1.heap[gl]? = some (.cells #[.string ⟨#[]⟩, .string t, .string v] 9 (0, 0)) from hc.out); replace BP := bb BP.out hb1.out; replace HB := am (below_step (bws HB.out) hb1.out); clear hb1 hc hL; obtain ⟨c0, c1, c2, f0, f1, f2⟩ := cz3 BL.out)
  | (go_at_call 23; (refine (check_no 190 _).mono ?_); rintro e w5 ⟨⟨sh, rfl⟩, hb5⟩; replace HB := am (below_step (bws HB.out) hb5); clear hb5))
 exact ⟨rfl, ⟨sh, rfl⟩, bws HB.out⟩
set_option maxRecDepth 100000 in
set_option maxHeartbeats 8000000 in
theorem first_no2 (s a t v : ByteArray) (w : World) (hs : s.size < 2147483648) (has : a.size < 2147483648) (hts : t.size < 2147483648) (hG : GG w) (hsp : Q.splitL 32 s.data.toList = [a.data.toList, t.data.toList, v.data.toList]) (h0 : a.size ≤ 16) (h1 : a.data.toList ≠ []) (h2 : a.data.toList.all Ht.isUp = false) :
  Calls Tryd.prog 16 #[.string s] w fun e w' => Fell 190 e ∧ Below w.heap.size w w' := by
 have e0 : decide ((a.size : Int) ≤ 16) = true := decide_eq_true (by omega)
 have e1 := nonempty h1
 have H2 := am h2
 have CT := fun w' => trim_up a w' has
 clear h2
 have HG := am hG
 have HSP := am hsp
 have HB := am (Below.refl w.heap.size w)
 clear hG hsp
 clear h1
 go_enter Tryd.func16, Tryd.ntmps16
 go_wp2_with (first
  | ((with_reducible refine gate_dst (N := 2) rfl ?_); refine bx 2 #[.string ⟨#[]⟩, .string ⟨#[]⟩, .string ⟨#[]⟩, .slice none 0 0, .string ⟨#[]⟩, .bool false] 35 ?_; intro gp hg w0 hbox hb; have GP := gsz hg HB.out; have BP := am hbox; replace HB := am (below_step HB.out hb); clear hb hbox hg)
  | (go_at_call 22; refine (split_calls s _ hs (gg_below HG.out (bws HB.out))).mono ?_; rintro e w1 ⟨L, gl, hL, he, hc, hb1⟩; have e3 := L3 (hL.out.trans HSP.out); subst e3; replace he : e = .returned (.slice (some ⟨gl, 0, none⟩) 3 3) := he; subst he; have BL := am (show w1.heap[gl]? = some (.cells #[.string a, .string t, .string v] 9 (0, 0)) from hc.out); replace BP := bb BP.out hb1.out; replace HB := am (below_step (bws HB.out) hb1.out); clear hb1 hc hL; obtain ⟨c0, c1, c2, f0, f1, f2⟩ := cz3 BL.out)
  | (go_at_call 24; refine (CT _).mono ?_; rintro e w2 ⟨⟨tt, rfl, ht⟩, hb2⟩; have ht2 := nonempty (s := tt) (fun h => by have := ht.out.1 h; rw [H2.out] at this; cases this); clear ht; replace BP := bb BP.out hb2; replace BL := bb BL.out hb2; replace HB := am (below_step (bws HB.out) hb2); clear c0 c1 c2 f0 f1 f2 hb2; obtain ⟨c0, c1, c2, f0, f1, f2⟩ := cz3 BL.out)
  | (go_at_call 23; (refine (check_no 190 _).mono ?_); rintro e w5 ⟨⟨sh, rfl⟩, hb5⟩; replace HB := am (below_step (bws HB.out) hb5); clear hb5))
 exact ⟨rfl, ⟨sh, rfl⟩, bws HB.out⟩
set_option maxRecDepth 100000 in
set_option maxHeartbeats 8000000 in
theorem first_no3 (s a t v : ByteArray) (w : World) (hs : s.size < 2147483648) (has : a.size < 2147483648) (hts : t.size < 2147483648) (hG : GG w) (hsp : Q.splitL 32 s.data.toList = [a.data.toList, t.data.toList, v.data.toList]) (h0 : a.size ≤ 16) (h1 : a.data.toList ≠ []) (h2 : a.data.toList.all Ht.isUp = true) (h3 : (t.data.toList.head? == some 47) = false) :
  Calls Tryd.prog 16 #[.string s] w fun e w' => Fell 190 e ∧ Below w.heap.size w w' := by
 have e0 : decide ((a.size : Int) ≤ 16) = true := decide_eq_true (by omega)
 have e1 := nonempty h1
 have H2 := am h2
 have CP := fun w' => slash_calls t w'
 rw [h3] at CP
 have CT := fun w' => trim_up a w' has
 clear h2
 have HG := am hG
 have HSP := am hsp
 have HB := am (Below.refl w.heap.size w)
 clear hG hsp
 clear h1
 go_enter Tryd.func16, Tryd.ntmps16
 go_wp2_with (first
  | ((with_reducible refine gate_dst (N := 2) rfl ?_); refine bx 2 #[.string ⟨#[]⟩, .string ⟨#[]⟩, .string ⟨#[]⟩, .slice none 0 0, .string ⟨#[]⟩, .bool false] 35 ?_; intro gp hg w0 hbox hb; have GP := gsz hg HB.out; have BP := am hbox; replace HB := am (below_step HB.out hb); clear hb hbox hg)
  | (go_at_call 22; refine (split_calls s _ hs (gg_below HG.out (bws HB.out))).mono ?_; rintro e w1 ⟨L, gl, hL, he, hc, hb1⟩; have e3 := L3 (hL.out.trans HSP.out); subst e3; replace he : e = .returned (.slice (some ⟨gl, 0, none⟩) 3 3) := he; subst he; have BL := am (show w1.heap[gl]? = some (.cells #[.string a, .string t, .string v] 9 (0, 0)) from hc.out); replace BP := bb BP.out hb1.out; replace HB := am (below_step (bws HB.out) hb1.out); clear hb1 hc hL; obtain ⟨c0, c1, c2, f0, f1, f2⟩ := cz3 BL.out)
  | (go_at_call 24; refine (CT _).mono ?_; rintro e w2 ⟨⟨tt, rfl, ht⟩, hb2⟩; have ht2 := empty_mk (ht.out.2 H2.out); subst ht2; clear ht; replace BP := bb BP.out hb2; replace BL := bb BL.out hb2; replace HB := am (below_step (bws HB.out) hb2); clear c0 c1 c2 f0 f1 f2 hb2; obtain ⟨c0, c1, c2, f0, f1, f2⟩ := cz3 BL.out)
  | (go_at_call 25; refine (CP _).mono ?_; rintro e w3 ⟨rfl, hb3⟩; replace BP := bb BP.out hb3; replace BL := bb BL.out hb3; replace HB := am (below_step (bws HB.out) hb3); clear c0 c1 c2 f0 f1 f2 hb3; obtain ⟨c0, c1, c2, f0, f1, f2⟩ := cz3 BL.out)
  | (go_at_call 23; (refine (check_no 190 _).mono ?_); rintro e w5 ⟨⟨sh, rfl⟩, hb5⟩; replace HB := am (below_step (bws HB.out) hb5); clear hb5))
 exact ⟨rfl, ⟨sh, rfl⟩, bws HB.out⟩
set_option maxRecDepth 100000 in
set_option maxHeartbeats 8000000 in
theorem first_no4 (s a t v : ByteArray) (w : World) (hs : s.size < 2147483648) (has : a.size < 2147483648) (hts : t.size < 2147483648) (hG : GG w) (hsp : Q.splitL 32 s.data.toList = [a.data.toList, t.data.toList, v.data.toList]) (h0 : a.size ≤ 16) (h1 : a.data.toList ≠ []) (h2 : a.data.toList.all Ht.isUp = true) (h3 : (t.data.toList.head? == some 47) = true) (h4 : Ht.target t.data.toList = false) :
  Calls Tryd.prog 16 #[.string s] w fun e w' => Fell 190 e ∧ Below w.heap.size w w' := by
 have e0 : decide ((a.size : Int) ≤ 16) = true := decide_eq_true (by omega)
 have e1 := nonempty h1
 have H2 := am h2
 have CP := fun w' => slash_calls t w'
 rw [h3] at CP
 have CG := fun w' => target_calls t hts w'
 rw [h4] at CG
 have CT := fun w' => trim_up a w' has
 clear h2
 have HG := am hG
 have HSP := am hsp
 have HB := am (Below.refl w.heap.size w)
 clear hG hsp
 clear h1
 go_enter Tryd.func16, Tryd.ntmps16
 go_wp2_with (first
  | ((with_reducible refine gate_dst (N := 2) rfl ?_); refine bx 2 #[.string ⟨#[]⟩, .string ⟨#[]⟩, .string ⟨#[]⟩, .slice none 0 0, .string ⟨#[]⟩, .bool false] 35 ?_; intro gp hg w0 hbox hb; have GP := gsz hg HB.out; have BP := am hbox; replace HB := am (below_step HB.out hb); clear hb hbox hg)
  | (go_at_call 22; refine (split_calls s _ hs (gg_below HG.out (bws HB.out))).mono ?_; rintro e w1 ⟨L, gl, hL, he, hc, hb1⟩; have e3 := L3 (hL.out.trans HSP.out); subst e3; replace he : e = .returned (.slice (some ⟨gl, 0, none⟩) 3 3) := he; subst he; have BL := am (show w1.heap[gl]? = some (.cells #[.string a, .string t, .string v] 9 (0, 0)) from hc.out); replace BP := bb BP.out hb1.out; replace HB := am (below_step (bws HB.out) hb1.out); clear hb1 hc hL; obtain ⟨c0, c1, c2, f0, f1, f2⟩ := cz3 BL.out)
  | (go_at_call 24; refine (CT _).mono ?_; rintro e w2 ⟨⟨tt, rfl, ht⟩, hb2⟩; have ht2 := empty_mk (ht.out.2 H2.out); subst ht2; clear ht; replace BP := bb BP.out hb2; replace BL := bb BL.out hb2; replace HB := am (below_step (bws HB.out) hb2); clear c0 c1 c2 f0 f1 f2 hb2; obtain ⟨c0, c1, c2, f0, f1, f2⟩ := cz3 BL.out)
  | (go_at_call 25; refine (CP _).mono ?_; rintro e w3 ⟨rfl, hb3⟩; replace BP := bb BP.out hb3; replace BL := bb BL.out hb3; replace HB := am (below_step (bws HB.out) hb3); clear c0 c1 c2 f0 f1 f2 hb3; obtain ⟨c0, c1, c2, f0, f1, f2⟩ := cz3 BL.out)
  | (go_at_call 26; refine (CG _).mono ?_; rintro e w4 ⟨rfl, hb4⟩; replace BP := bb BP.out hb4; replace BL := bb BL.out hb4; replace HB := am (below_step (bws HB.out) hb4); clear c0 c1 c2 f0 f1 f2 hb4; obtain ⟨c0, c1, c2, f0, f1, f2⟩ := cz3 BL.out)
  | (go_at_call 23; (refine (check_no 190 _).mono ?_); rintro e w5 ⟨⟨sh, rfl⟩, hb5⟩; replace HB := am (below_step (bws HB.out) hb5); clear hb5))
 exact ⟨rfl, ⟨sh, rfl⟩, bws HB.out⟩
set_option maxRecDepth 100000 in
set_option maxHeartbeats 8000000 in
theorem first_no5 (s a t v : ByteArray) (w : World) (hs : s.size < 2147483648) (has : a.size < 2147483648) (hts : t.size < 2147483648) (hG : GG w) (hsp : Q.splitL 32 s.data.toList = [a.data.toList, t.data.toList, v.data.toList]) (h0 : a.size ≤ 16) (h1 : a.data.toList ≠ []) (h2 : a.data.toList.all Ht.isUp = true) (h3 : (t.data.toList.head? == some 47) = true) (h4 : Ht.target t.data.toList = true) (h5 : v ≠ ⟨#[72, 84, 84, 80, 47, 49, 46, 49]⟩) :
  Calls Tryd.prog 16 #[.string s] w fun e w' => Fell 190 e ∧ Below w.heap.size w w' := by
 have e0 : decide ((a.size : Int) ≤ 16) = true := decide_eq_true (by omega)
 have e1 := nonempty h1
 have H2 := am h2
 have CP := fun w' => slash_calls t w'
 rw [h3] at CP
 have CG := fun w' => target_calls t hts w'
 rw [h4] at CG
 have e5 := toList_ne h5
 have e5b : (v.toList == ([72, 84, 84, 80, 47, 49, 46, 49] : List UInt8)) = false := by rw [Lib.toList_data ⟨#[72, 84, 84, 80, 47, 49, 46, 49]⟩] at e5; exact e5
 have CT := fun w' => trim_up a w' has
 clear h2
 have HG := am hG
 have HSP := am hsp
 have HB := am (Below.refl w.heap.size w)
 clear hG hsp
 clear h1
 clear h5
 go_enter Tryd.func16, Tryd.ntmps16
 go_wp2_with (first
  | ((with_reducible refine gate_dst (N := 2) rfl ?_); refine bx 2 #[.string ⟨#[]⟩, .string ⟨#[]⟩, .string ⟨#[]⟩, .slice none 0 0, .string ⟨#[]⟩, .bool false] 35 ?_; intro gp hg w0 hbox hb; have GP := gsz hg HB.out; have BP := am hbox; replace HB := am (below_step HB.out hb); clear hb hbox hg)
  | (go_at_call 22; refine (split_calls s _ hs (gg_below HG.out (bws HB.out))).mono ?_; rintro e w1 ⟨L, gl, hL, he, hc, hb1⟩; have e3 := L3 (hL.out.trans HSP.out); subst e3; replace he : e = .returned (.slice (some ⟨gl, 0, none⟩) 3 3) := he; subst he; have BL := am (show w1.heap[gl]? = some (.cells #[.string a, .string t, .string v] 9 (0, 0)) from hc.out); replace BP := bb BP.out hb1.out; replace HB := am (below_step (bws HB.out) hb1.out); clear hb1 hc hL; obtain ⟨c0, c1, c2, f0, f1, f2⟩ := cz3 BL.out)
  | (go_at_call 24; refine (CT _).mono ?_; rintro e w2 ⟨⟨tt, rfl, ht⟩, hb2⟩; have ht2 := empty_mk (ht.out.2 H2.out); subst ht2; clear ht; replace BP := bb BP.out hb2; replace BL := bb BL.out hb2; replace HB := am (below_step (bws HB.out) hb2); clear c0 c1 c2 f0 f1 f2 hb2; obtain ⟨c0, c1, c2, f0, f1, f2⟩ := cz3 BL.out)
  | (go_at_call 25; refine (CP _).mono ?_; rintro e w3 ⟨rfl, hb3⟩; replace BP := bb BP.out hb3; replace BL := bb BL.out hb3; replace HB := am (below_step (bws HB.out) hb3); clear c0 c1 c2 f0 f1 f2 hb3; obtain ⟨c0, c1, c2, f0, f1, f2⟩ := cz3 BL.out)
  | (go_at_call 26; refine (CG _).mono ?_; rintro e w4 ⟨rfl, hb4⟩; replace BP := bb BP.out hb4; replace BL := bb BL.out hb4; replace HB := am (below_step (bws HB.out) hb4); clear c0 c1 c2 f0 f1 f2 hb4; obtain ⟨c0, c1, c2, f0, f1, f2⟩ := cz3 BL.out)
  | (go_at_call 23; (refine (check_no 190 _).mono ?_); rintro e w5 ⟨⟨sh, rfl⟩, hb5⟩; replace HB := am (below_step (bws HB.out) hb5); clear hb5))
 exact ⟨rfl, ⟨sh, rfl⟩, bws HB.out⟩
set_option maxRecDepth 100000 in
set_option maxHeartbeats 8000000 in
theorem first_new (s a t v : ByteArray) (w : World) (hs : s.size < 2147483648) (has : a.size < 2147483648) (hts : t.size < 2147483648) (hG : GG w) (hsp : Q.splitL 32 s.data.toList = [a.data.toList, t.data.toList, v.data.toList]) (h0 : a.size ≤ 16) (h1 : a.data.toList ≠ []) (h2 : a.data.toList.all Ht.isUp = true) (h3 : (t.data.toList.head? == some 47) = true) (h4 : Ht.target t.data.toList = true) (h5 : v = ⟨#[72, 84, 84, 80, 47, 49, 46, 49]⟩) (hk : among methodsL a = false) :
  Calls Tryd.prog 16 #[.string s] w fun e w' => Fell 193 e ∧ Below w.heap.size w w' := by
 have e0 : decide ((a.size : Int) ≤ 16) = true := decide_eq_true (by omega)
 have e1 := nonempty h1
 have H2 := am h2
 have CP := fun w' => slash_calls t w'
 rw [h3] at CP
 have CG := fun w' => target_calls t hts w'
 rw [h4] at CG
 subst h5
 have CT := fun w' => trim_up a w' has
 clear h2 h1
 have HG := am hG
 have HSP := am hsp
 have HB := am (Below.refl w.heap.size w)
 clear hG hsp
 go_enter Tryd.func16, Tryd.ntmps16
 go_wp2_with (first
  | ((with_reducible refine gate_dst (N := 2) rfl ?_); refine bx 2 #[.string ⟨#[]⟩, .string ⟨#[]⟩, .string ⟨#[]⟩, .slice none 0 0, .string ⟨#[]⟩, .bool false] 35 ?_; intro gp hg w0 hbox hb; have GP := gsz hg HB.out; have BP := am hbox; replace HB := am (below_step HB.out hb); clear hb hbox hg)
  | (go_at_call 22; refine (split_calls s _ hs (gg_below HG.out (bws HB.out))).mono ?_; rintro e w1 ⟨L, gl, hL, he, hc, hb1⟩; have e3 := L3 (hL.out.trans HSP.out); subst e3; replace he : e = .returned (.slice (some ⟨gl, 0, none⟩) 3 3) := he; subst he; have BL := am (show w1.heap[gl]? = some (.cells #[.string a, .string t, .string ⟨#[72, 84, 84, 80, 47, 49, 46, 49]⟩] 9 (0, 0)) from hc.out); replace BP := bb BP.out hb1.out; replace HB := am (below_step (bws HB.out) hb1.out); clear hb1 hc hL; obtain ⟨c0, c1, c2, f0, f1, f2⟩ := cz3 BL.out)
  | (go_at_call 24; refine (CT _).mono ?_; rintro e w2 ⟨⟨tt, rfl, ht⟩, hb2⟩; have ht2 := empty_mk (ht.out.2 H2.out); subst ht2; clear ht; replace BP := bb BP.out hb2; replace BL := bb BL.out hb2; replace HB := am (below_step (bws HB.out) hb2); clear c0 c1 c2 f0 f1 f2 hb2; obtain ⟨c0, c1, c2, f0, f1, f2⟩ := cz3 BL.out)
  | (go_at_call 25; refine (CP _).mono ?_; rintro e w3 ⟨rfl, hb3⟩; replace BP := bb BP.out hb3; replace BL := bb BL.out hb3; replace HB := am (below_step (bws HB.out) hb3); clear c0 c1 c2 f0 f1 f2 hb3; obtain ⟨c0, c1, c2, f0, f1, f2⟩ := cz3 BL.out)
  | (go_at_call 26; refine (CG _).mono ?_; rintro e w4 ⟨rfl, hb4⟩; replace BP := bb BP.out hb4; replace BL := bb BL.out hb4; replace HB := am (below_step (bws HB.out) hb4); clear c0 c1 c2 f0 f1 f2 hb4; obtain ⟨c0, c1, c2, f0, f1, f2⟩ := cz3 BL.out)
  | (go_at_call 23; (refine (check_yes 190 _).mono ?_); rintro e w5 ⟨⟨v5, rfl⟩, hb5⟩; replace BP := bb BP.out hb5; replace BL := bb BL.out hb5; replace HB := am (below_step (bws HB.out) hb5); clear c0 c1 c2 f0 f1 f2 hb5; obtain ⟨c0, c1, c2, f0, f1, f2⟩ := cz3 BL.out))
 go_wp2
 refine start_ (n := 6) (S := fun w' => w'.cell? ⟨gl, 0, none⟩ = some (.string a)) (ds := []) #[false, false, false, false, false, false] (by kernel_rfl) rfl rfl c0 (fun hHeld => ?_)
 refine hp 0 (some 51) (v := .slice (some ⟨0, 0, none⟩) 5 5) ?_ (hy := by intro w'; go_simp)
 refine hp 1 (some 52) ?_
 refine hp 2 (some 53) ?_
 refine ht 3 (some 54) hHeld ?_
 refine hcall 4 (some 55) 27 _ (contains_calls a _ (gg_below HG.out (bws HB.out))) ?_
 rw [hk]
 rintro e w6 ⟨rfl, hb6⟩
 replace BP := bb BP.out hb6; replace BL := bb BL.out hb6; replace HB := am (below_step (bws HB.out) hb6); clear c0 c1 c2 f0 f1 f2 hb6 hHeld; obtain ⟨c0, c1, c2, f0, f1, f2⟩ := cz3 BL.out
 refine ⟨_, _, rfl, c0, by simp only [Act.put, List.setIfInBounds_toArray, List.set_cons_zero, List.set_cons_succ]; rfl, ?_⟩
 refine hfall 5 (some 56) 23 _ (check_no 193 _) ?_
 rintro e w7 ⟨⟨sh, rfl⟩, hb7⟩
 exact ⟨_, rfl, rfl, ⟨sh, rfl⟩, below_step (bws HB.out) hb7⟩
set_option maxRecDepth 100000 in
set_option maxHeartbeats 8000000 in
theorem first_ok (s a t v : ByteArray) (w : World) (hs : s.size < 2147483648) (has : a.size < 2147483648) (hts : t.size < 2147483648) (hG : GG w) (hsp : Q.splitL 32 s.data.toList = [a.data.toList, t.data.toList, v.data.toList]) (h0 : a.size ≤ 16) (h1 : a.data.toList ≠ []) (h2 : a.data.toList.all Ht.isUp = true) (h3 : (t.data.toList.head? == some 47) = true) (h4 : Ht.target t.data.toList = true) (h5 : v = ⟨#[72, 84, 84, 80, 47, 49, 46, 49]⟩) (hk : among methodsL a = true) :
  Calls Tryd.prog 16 #[.string s] w fun e w' => e = .returned (.agg #[.string a, .string ⟨(Ht.cut1 63 t.data.toList).1.toArray⟩, .string ⟨((Ht.cut1 63 t.data.toList).2.getD []).toArray⟩, .slice none 0 0, .string ⟨#[]⟩, .bool false]) ∧ Below w.heap.size w w' := by
 have e0 : decide ((a.size : Int) ≤ 16) = true := decide_eq_true (by omega)
 have e1 := nonempty h1
 have H2 := am h2
 have CP := fun w' => slash_calls t w'
 rw [h3] at CP
 have CG := fun w' => target_calls t hts w'
 rw [h4] at CG
 subst h5
 have CT := fun w' => trim_up a w' has
 clear h2 h1
 have HG := am hG
 have HSP := am hsp
 have HB := am (Below.refl w.heap.size w)
 clear hG hsp
 have CC := fun w' h => cut_calls t 63 w' hts h
 generalize (⟨(Ht.cut1 63 t.data.toList).1.toArray⟩ : ByteArray) = u1 at *
 generalize (⟨((Ht.cut1 63 t.data.toList).2.getD []).toArray⟩ : ByteArray) = u2 at *
 generalize (Ht.cut1 63 t.data.toList).2.isSome = u3 at *
 go_enter Tryd.func16, Tryd.ntmps16
 go_wp2_with (first
  | ((with_reducible refine gate_dst (N := 2) rfl ?_); refine bx 2 #[.string ⟨#[]⟩, .string ⟨#[]⟩, .string ⟨#[]⟩, .slice none 0 0, .string ⟨#[]⟩, .bool false] 35 ?_; intro gp hg w0 hbox hb; have GP := gsz hg HB.out; have BP := am hbox; replace HB := am (below_step HB.out hb); clear hb hbox hg)
  | (go_at_call 22; refine (split_calls s _ hs (gg_below HG.out (bws HB.out))).mono ?_; rintro e w1 ⟨L, gl, hL, he, hc, hb1⟩; have e3 := L3 (hL.out.trans HSP.out); subst e3; replace he : e = .returned (.slice (some ⟨gl, 0, none⟩) 3 3) := he; subst he; have BL := am (show w1.heap[gl]? = some (.cells #[.string a, .string t, .string ⟨#[72, 84, 84, 80, 47, 49, 46, 49]⟩] 9 (0, 0)) from hc.out); replace BP := bb BP.out hb1.out; replace HB := am (below_step (bws HB.out) hb1.out); clear hb1 hc hL; obtain ⟨c0, c1, c2, f0, f1, f2⟩ := cz3 BL.out)
  | (go_at_call 24; refine (CT _).mono ?_; rintro e w2 ⟨⟨tt, rfl, ht⟩, hb2⟩; have ht2 := empty_mk (ht.out.2 H2.out); subst ht2; clear ht; replace BP := bb BP.out hb2; replace BL := bb BL.out hb2; replace HB := am (below_step (bws HB.out) hb2); clear c0 c1 c2 f0 f1 f2 hb2; obtain ⟨c0, c1, c2, f0, f1, f2⟩ := cz3 BL.out)
  | (go_at_call 25; refine (CP _).mono ?_; rintro e w3 ⟨rfl, hb3⟩; replace BP := bb BP.out hb3; replace BL := bb BL.out hb3; replace HB := am (below_step (bws HB.out) hb3); clear c0 c1 c2 f0 f1 f2 hb3; obtain ⟨c0, c1, c2, f0, f1, f2⟩ := cz3 BL.out)
  | (go_at_call 26; refine (CG _).mono ?_; rintro e w4 ⟨rfl, hb4⟩; replace BP := bb BP.out hb4; replace BL := bb BL.out hb4; replace HB := am (below_step (bws HB.out) hb4); clear c0 c1 c2 f0 f1 f2 hb4; obtain ⟨c0, c1, c2, f0, f1, f2⟩ := cz3 BL.out)
  | (go_at_call 23; (refine (check_yes 190 _).mono ?_); rintro e w5 ⟨⟨v5, rfl⟩, hb5⟩; replace BP := bb BP.out hb5; replace BL := bb BL.out hb5; replace HB := am (below_step (bws HB.out) hb5); clear c0 c1 c2 f0 f1 f2 hb5; obtain ⟨c0, c1, c2, f0, f1, f2⟩ := cz3 BL.out))
 go_wp2
 refine start_ (n := 6) (S := fun w' => w'.cell? ⟨gl, 0, none⟩ = some (.string a)) (ds := []) #[false, false, false, false, false, false] (by kernel_rfl) rfl rfl c0 (fun hHeld => ?_)
 refine hp 0 (some 51) (v := .slice (some ⟨0, 0, none⟩) 5 5) ?_ (hy := by intro w'; go_simp)
 refine hp 1 (some 52) ?_
 refine hp 2 (some 53) ?_
 refine ht 3 (some 54) hHeld ?_
 refine hcall 4 (some 55) 27 _ (contains_calls a _ (gg_below HG.out (bws HB.out))) ?_
 rw [hk]
 rintro e w6 ⟨rfl, hb6⟩
 replace BP := bb BP.out hb6; replace BL := bb BL.out hb6; replace HB := am (below_step (bws HB.out) hb6); clear c0 c1 c2 f0 f1 f2 hb6 hHeld; obtain ⟨c0, c1, c2, f0, f1, f2⟩ := cz3 BL.out
 refine ⟨_, _, rfl, c0, by simp only [Act.put, List.setIfInBounds_toArray, List.set_cons_zero, List.set_cons_succ]; rfl, ?_⟩
 refine hcall 5 (some 56) 23 _ (check_yes 193 _) ?_
 rintro e w7 ⟨⟨v7, rfl⟩, hb7⟩
 replace BP := bb BP.out hb7; replace BL := bb BL.out hb7; replace HB := am (below_step (bws HB.out) hb7); clear c0 c1 c2 f0 f1 f2 hb7; obtain ⟨c0, c1, c2, f0, f1, f2⟩ := cz3 BL.out
 refine ⟨_, _, rfl, c0, by simp only [Act.put, List.setIfInBounds_toArray, List.set_cons_zero, List.set_cons_succ]; rfl, ?_⟩
 refine done_ (by kernel_rfl) ?_
 go_wp2_with (go_at_call 28; refine (CC _ (gg_below HG.out (bws HB.out))).mono ?_; rintro e w8 ⟨rfl, hb8⟩; replace BP := bb BP.out hb8; replace BL := bb BL.out hb8; replace HB := am (below_step (bws HB.out) hb8); clear c0 c1 c2 f0 f1 f2 hb8; obtain ⟨c0, c1, c2, f0, f1, f2⟩ := cz3 BL.out; obtain ⟨p0, p1, p2, p3, p4, p5, q0, q1, q2, q3, q4, q5⟩ := cz6 BP.out)
 go_wp2
 refine bodyPost_ret (results_cell_row rfl _ _ gp 35 #[.string a, .string u1, .string u2, .slice none 0 0, .string ⟨#[]⟩, .bool false] (0, 0) _ rfl (blk_put (blk_put (blk_put (blk_put (blk_put (blk_put BP.out 0 _ rfl) 1 _ rfl) 2 _ rfl) 3 _ rfl) 4 _ rfl) 5 _ rfl) Tryd.underlying35 rfl (by kernel_rfl)) rfl ?_
 exact ⟨rfl, below_set (below_set (below_set (below_set (below_set (below_set (bws HB.out) GP.out) GP.out) GP.out) GP.out) GP.out) GP.out⟩
theorem among_eq (a : ByteArray) : among methodsL a = Ht.methods.contains a.data.toList := by
 have q : ∀ l : List UInt8, decide (a = ⟨l.toArray⟩) = (a.data.toList == l) := fun l => by
  by_cases h : a.data.toList = l
  ·
   rw [decide_eq_true (by rw [← h, Lib.mk_data]), h]
   simp
  ·
   rw [decide_eq_false (fun e => h (by rw [e])), beq_eq_false_iff_ne.2 h]
 unfold among methodsL Ht.methods
 simp only [List.any_cons, List.any_nil, List.contains_cons, List.contains_nil]
 rw [show (⟨#[71, 69, 84]⟩ : ByteArray) = ⟨([71, 69, 84] : List UInt8).toArray⟩ from rfl, show (⟨#[72, 69, 65, 68]⟩ : ByteArray) = ⟨([72, 69, 65, 68] : List UInt8).toArray⟩ from rfl, show (⟨#[80, 85, 84]⟩ : ByteArray) = ⟨([80, 85, 84] : List UInt8).toArray⟩ from rfl, show (⟨#[80, 79, 83, 84]⟩ : ByteArray) = ⟨([80, 79, 83, 84] : List UInt8).toArray⟩ from rfl, show (⟨#[68, 69, 76, 69, 84, 69]⟩ : ByteArray) = ⟨([68, 69, 76, 69, 84, 69] : List UInt8).toArray⟩ from rfl]
 simp only [q]
theorem split_len (c : UInt8) : ∀ (l p : List UInt8), p ∈ Q.splitL c l → p.length ≤ l.length
 | [], p, h => by simp [Q.splitL] at h; subst h; exact Nat.le_refl _
 | x :: l, p, h => by
  rw [Q.splitL] at h
  split at h
  ·
   rcases List.mem_cons.1 h with rfl | h
   ·
    exact Nat.zero_le _
   ·
    have := split_len c l p h; simp; omega
  ·
   split at h
   ·
    simp at h; subst h; simp
   ·
    rename_i hq
    rcases List.mem_cons.1 h with rfl | h
    ·
     have := split_len c l _ (by rw [hq]; exact List.mem_cons_self); simp; omega
    ·
     have := split_len c l p (by rw [hq]; exact List.mem_cons_of_mem _ h); simp; omega
theorem first_good (s : ByteArray) (w : World) (hs : s.size < 2147483648) (hG : GG w) {f : Ht.B × Ht.B × Ht.B} (h : Ht.pfirst s.data.toList = .ok f) :
  Calls Tryd.prog 16 #[.string s] w fun e w' => e = .returned (.agg #[.string ⟨f.1.toArray⟩, .string ⟨f.2.1.toArray⟩, .string ⟨f.2.2.toArray⟩, .slice none 0 0, .string ⟨#[]⟩, .bool false]) ∧ Below w.heap.size w w' := by
 unfold Ht.pfirst at h
 split at h
 ·
  rename_i a t v hsp
  have la := split_len 32 _ a (by rw [hsp]; simp)
  have lt := split_len 32 _ t (by rw [hsp]; simp)
  rw [← Lib.size_eq] at la lt
  split at h
  ·
   rename_i hc
   simp only [Bool.and_eq_true, decide_eq_true_eq, Bool.not_eq_true', beq_iff_eq] at hc
   obtain ⟨⟨⟨⟨⟨h0, h1⟩, h2⟩, h3⟩, h4⟩, h5⟩ := hc
   split at h
   ·
    rename_i hk
    cases h
    refine first_ok s ⟨a.toArray⟩ ⟨t.toArray⟩ ⟨v.toArray⟩ w hs (by rw [size_mk]; omega) (by rw [size_mk]; omega) hG hsp h0 (by intro e; rw [show a = [] from e] at h1; cases h1) h2 (by rw [show (⟨t.toArray⟩ : ByteArray).data.toList = t from rfl, h3]; rfl) h4 (by rw [h5]; rfl) ?_
    rw [among_eq]
    exact hk
   ·
    cases h
  ·
   cases h
 ·
  cases h
theorem first_fell (s : ByteArray) (w : World) (hs : s.size < 2147483648) (hG : GG w) {c : Int} (h : Ht.pfirst s.data.toList = .bad c) :
  Calls Tryd.prog 16 #[.string s] w fun e w' => Fell c e ∧ Below w.heap.size w w' := by
 unfold Ht.pfirst at h
 split at h
 ·
  rename_i a t v hsp
  have la := split_len 32 _ a (by rw [hsp]; simp)
  have lt := split_len 32 _ t (by rw [hsp]; simp)
  rw [← Lib.size_eq] at la lt
  have F0 := first_no0 s ⟨a.toArray⟩ ⟨t.toArray⟩ ⟨v.toArray⟩ w hs (by rw [size_mk]; omega) (by rw [size_mk]; omega) hG hsp
  have F1 := first_no1 s ⟨a.toArray⟩ ⟨t.toArray⟩ ⟨v.toArray⟩ w hs (by rw [size_mk]; omega) (by rw [size_mk]; omega) hG hsp
  have F2 := first_no2 s ⟨a.toArray⟩ ⟨t.toArray⟩ ⟨v.toArray⟩ w hs (by rw [size_mk]; omega) (by rw [size_mk]; omega) hG hsp
  have F3 := first_no3 s ⟨a.toArray⟩ ⟨t.toArray⟩ ⟨v.toArray⟩ w hs (by rw [size_mk]; omega) (by rw [size_mk]; omega) hG hsp
  have F4 := first_no4 s ⟨a.toArray⟩ ⟨t.toArray⟩ ⟨v.toArray⟩ w hs (by rw [size_mk]; omega) (by rw [size_mk]; omega) hG hsp
  have F5 := first_no5 s ⟨a.toArray⟩ ⟨t.toArray⟩ ⟨v.toArray⟩ w hs (by rw [size_mk]; omega) (by rw [size_mk]; omega) hG hsp
  have F6 := first_new s ⟨a.toArray⟩ ⟨t.toArray⟩ ⟨v.toArray⟩ w hs (by rw [size_mk]; omega) (by rw [size_mk]; omega) hG hsp
  split at h
  ·
   rename_i hc
   simp only [Bool.and_eq_true, decide_eq_true_eq, Bool.not_eq_true', beq_iff_eq] at hc
   obtain ⟨⟨⟨⟨⟨h0, h1⟩, h2⟩, h3⟩, h4⟩, h5⟩ := hc
   split at h
   ·
    cases h
   ·
    rename_i hk
    cases h
    refine F6 h0 (by intro e; rw [show a = [] from e] at h1; cases h1) h2 (by rw [show (⟨t.toArray⟩ : ByteArray).data.toList = t from rfl, h3]; rfl) h4 (by rw [h5]; rfl) ?_
    rw [among_eq]
    exact Bool.eq_false_iff.mpr hk
  ·
   rename_i hc
   cases h
   by_cases h0 : a.length ≤ 16
   ·
    by_cases h1 : a = []
    ·
     exact F1 h0 (by rw [h1])
    ·
     by_cases h2 : a.all Ht.isUp = true
     ·
      by_cases h3 : (t.head? == some 47) = true
      ·
       by_cases h4 : Ht.target t = true
       ·
        by_cases h5 : v = Ht.http11
        ·
         exfalso
         apply hc
         rw [decide_eq_true h0, h2, h3, h4, h5]
         cases a with
         | nil => exact absurd rfl h1
         | cons x a => rfl
        ·
         exact F5 h0 h1 h2 h3 h4 (fun e => h5 (by have := congrArg (fun x : ByteArray => x.data.toList) e; exact this))
       ·
        exact F4 h0 h1 h2 h3 (Bool.eq_false_iff.mpr h4)
      ·
       exact F3 h0 h1 h2 (Bool.eq_false_iff.mpr h3)
     ·
      exact F2 h0 h1 (Bool.eq_false_iff.mpr h2)
   ·
    exact F0 (by show 16 < a.length; omega)
 ·
  rename_i hne
  cases h
  refine first_many s w hs hG (fun h3 => ?_)
  match hq : Q.splitL 32 s.data.toList, h3 with
  | [a, t, v], _ => exact hne a t v hq
end Go.Proofs.YtcecdbbomadppaaDoor.Hw
end
section
namespace Go.Proofs.YtcecdbbomadppaaDoor.Hw
open Go Go.RowKit Go.Proofs.YtcecdbbomadppaaDoorW.PrintWords Go.Proofs.YtcecdbbomadppaaDoorW.PrintLast Go.Proofs.YtcecdbbomadppaaDoorW.PrintMore
set_option linter.unusedVariables false
set_option linter.unusedSimpArgs false
def kP : Kd (ByteArray × ByteArray) := Kd.pair Kd.string Kd.string
def txt (x : Ht.B × Ht.B) : ByteArray × ByteArray := (⟨x.1.toArray⟩, ⟨x.2.toArray⟩)
structure Hs (g gq : Nat) (b : ByteArray) (m pa qu : ByteArray) (w0 W : World) (p : Nat) (cl : Bool) (hv : Value) (hs : List (ByteArray × ByteArray)) (w : World) : Prop where
  hc : w.heap[g]? = some (.cells #[.string b, .int .i64 (p : Int)] 55 (0, 0))
  hq : w.heap[gq]? = some (.cells #[.string m, .string pa, .string qu, hv, .string ⟨#[]⟩, .bool cl] 35 (0, 0))
  hb : Below w0.heap.size w0 w
  hz : W.heap.size ≤ w.heap.size
  hk : ∀ i, i < W.heap.size → i ≠ g → i ≠ gq → w.heap[i]? = W.heap[i]?
  hr : Kd.R kP 64 w W.heap.size (fun _ => True) hv hs
  hg : GG w0
  hl : w0.heap.size ≤ g
  hlq : w0.heap.size ≤ gq
  hw : w0.heap.size ≤ W.heap.size
  hgW : g < W.heap.size
  hqW : gq < W.heap.size
section
variable {g gq p q : Nat} {b m pa qu : ByteArray} {w0 W w w' : World} {cl : Bool} {hv : Value} {hs : List (ByteArray × ByteArray)}
theorem Hs.ne (h : Hs g gq b m pa qu w0 W p cl hv hs w) : gq ≠ g := blk_ne h.hq h.hc (by decide)
theorem Hs.rd (h : Hs g gq b m pa qu w0 W p cl hv hs w) : Rd g b p w0 w w := ⟨h.hc, h.hb, KeepBut.refl _ _ _, h.hg, h.hl⟩
theorem Hs.gg (h : Hs g gq b m pa qu w0 W p cl hv hs w) : GG w := gg_below h.hg h.hb
theorem Hs.line (h : Hs g gq b m pa qu w0 W p cl hv hs w) (r : Rd g b q w0 w w') : Hs g gq b m pa qu w0 W q cl hv hs w' := by
  refine ⟨r.hc, r.hk.blk h.hq h.ne (by simp), r.hb, Nat.le_trans h.hz r.hk.1, fun i hi h1 h2 => (r.hk.2 i (Nat.lt_of_lt_of_le hi h.hz) h1 (by simp)).trans (h.hk i hi h1 h2), ?_, h.hg, h.hl, h.hlq, h.hw, h.hgW, h.hqW⟩
  exact Kd.R_mono (Kd.R_step (Kd.R_bound h.hr) (fun k hk hlt => r.hk.2 k hlt (fun e => by have := hk.2.1; have := h.hgW; omega) (by simp))) (fun _ _ => trivial)
theorem Hs.below (h : Hs g gq b m pa qu w0 W p cl hv hs w) (k : Below w.heap.size w w') : Hs g gq b m pa qu w0 W p cl hv hs w' := by
  refine ⟨blk_below h.hc k, blk_below h.hq k, below_step h.hb k, Nat.le_trans h.hz k.size, fun i hi h1 h2 => (k.block i (Nat.lt_of_lt_of_le hi h.hz)).trans (h.hk i hi h1 h2), Kd.R_below h.hr k, h.hg, h.hl, h.hlq, h.hw, h.hgW, h.hqW⟩
theorem Hs.drew (h : Hs g gq b m pa qu w0 W p cl hv hs w) : Hs g gq b m pa qu w0 W p cl hv hs w.drew := h.below (Below.refl _ _).drew
theorem hsw {p q : Prop} (h : p) (t : p → q := by intro h; (with_reducible repeat (first | exact h | refine Hs.drew ?_))) : q := t h
theorem Hs.put (h : Hs g gq b m pa qu w0 W p cl hv hs w) (i : Nat) (u : Value) {cl' : Bool} {hv' : Value} (e : (#[.string m, .string pa, .string qu, hv, .string ⟨#[]⟩, .bool cl] : Array Value).setIfInBounds i u = #[.string m, .string pa, .string qu, hv', .string ⟨#[]⟩, .bool cl'])
    {hs' : List (ByteArray × ByteArray)} (hR : Kd.R kP 64 w W.heap.size (fun _ => True) hv' hs') : Hs g gq b m pa qu w0 W p cl' hv' hs' (w.setCell ⟨gq, i, none⟩ u) := by
  refine ⟨blk_far h.hc (Ne.symm h.ne) u, blk_put h.hq i u e, below_set h.hb h.hlq, ?_, fun j hj h1 h2 => (Below.heap_setCell w ⟨gq, i, none⟩ u j h2).trans (h.hk j hj h1 h2), ?_, h.hg, h.hl, h.hlq, h.hw, h.hgW, h.hqW⟩
  · simpa [World.setCell] using h.hz
  · exact Kd.R_mono (Kd.R_far (p := ⟨gq, i, none⟩) (Kd.R_mono (Kd.R_bound hR) (fun k hk => hk.2.1)) (fun k hk => by have := h.hqW; show k ≠ gq; omega) u) (fun _ _ => trivial)
theorem Hs.more (h : Hs g gq b m pa qu w0 W p cl hv hs w) (k : Below W.heap.size w w') {hv' : Value} {hs' : List (ByteArray × ByteArray)} (hR : Kd.R kP 64 w' W.heap.size (fun _ => True) hv' hs') :
    Hs g gq b m pa qu w0 W p cl hv' hs' (w'.setCell ⟨gq, 3, none⟩ hv') := by
  have hq : w'.heap[gq]? = some (.cells #[.string m, .string pa, .string qu, hv, .string ⟨#[]⟩, .bool cl] 35 (0, 0)) := (k.block gq h.hqW).trans h.hq
  refine ⟨blk_far ((k.block g h.hgW).trans h.hc) (Ne.symm h.ne) _, blk_put hq 3 hv' rfl, below_set (h.hb.trans (k.mono h.hw)) h.hlq, ?_, fun j hj h1 h2 => (Below.heap_setCell w' ⟨gq, 3, none⟩ hv' j h2).trans ((k.block j hj).trans (h.hk j hj h1 h2)), ?_, h.hg, h.hl, h.hlq, h.hw, h.hgW, h.hqW⟩
  · simpa [World.setCell] using Nat.le_trans h.hz k.size
  · exact Kd.R_mono (Kd.R_far (p := ⟨gq, 3, none⟩) (Kd.R_mono (Kd.R_bound hR) (fun k hk => hk.2.1)) (fun k hk => by have := h.hqW; show k ≠ gq; omega) hv') (fun _ _ => trivial)
end
def HeadPost (g gq : Nat) (b m pa qu : ByteArray) (w0 W : World) (o : Ht.Out (Ht.Hd × Ht.B)) (e : Ending) (w' : World) : Prop :=
  (match o with
   | .ok (h, r) => e = .returned (.tuple #[.int .i64 (Ht.nz h.n), .bool h.ch]) ∧ ∃ p hv, p ≤ b.size ∧ r = b.data.toList.drop p ∧ Hs g gq b m pa qu w0 W p h.close hv (h.heads.map txt) w'
   | .bad c => Fell c e) ∧ Below w0.heap.size w0 w' ∧ (∀ i, i < W.heap.size → i ≠ g → i ≠ gq → w'.heap[i]? = W.heap[i]?) ∧ ∃ cs, w'.heap[gq]? = some (.cells cs 35 (0, 0)) ∧ cs.size = 6
theorem head_gives {g gq : Nat} {b m pa qu : ByteArray} {w0 W w' : World} {p : Nat} {cl : Bool} {hv : Value} {hs : List (ByteArray × ByteArray)} {o : Ht.Out (Ht.Hd × Ht.B)} {c : Int} {e : Ending} (h : Hs g gq b m pa qu w0 W p cl hv hs w') (ho : o = .bad c) (hf : Fell c e) :
    HeadPost g gq b m pa qu w0 W o e w' := by
  subst ho
  exact ⟨hf, h.hb, h.hk, _, h.hq, rfl⟩
theorem head_done {g gq : Nat} {b m pa qu : ByteArray} {w0 W w' : World} {p : Nat} {hv : Value} {h : Ht.Hd} {o : Ht.Out (Ht.Hd × Ht.B)} {e : Ending} (hh : Hs g gq b m pa qu w0 W p h.close hv (h.heads.map txt) w') (hp : p ≤ b.size) (ho : o = .ok (h, b.data.toList.drop p)) (he : e = .returned (.tuple #[.int .i64 (Ht.nz h.n), .bool h.ch])) :
    HeadPost g gq b m pa qu w0 W o e w' := by
  subst ho
  exact ⟨⟨he, p, hv, hp, rfl, hh⟩, hh.hb, hh.hk, _, hh.hq, rfl⟩
theorem beq_data {x : ByteArray} {l : List UInt8} (h : x.data.toList = l) : (x.toList == l) = true := by rw [Lib.toList_data, h]; simp
theorem bne_data {x : ByteArray} {l : List UInt8} (h : x.data.toList ≠ l) : (x.toList == l) = false := by rw [Lib.toList_data]; exact beq_eq_false_iff_ne.2 h
set_option maxRecDepth 100000 in
set_option maxHeartbeats 16000000 in
theorem head_calls (g gq : Nat) (b m pa qu : ByteArray) (p : Nat) (w0 W : World) (H : Hs g gq b m pa qu w0 W p false (.slice none 0 0) [] W) (hp : p ≤ b.size) (hb : b.size < 2147483648) (o : Ht.Out (Ht.Hd × Ht.B)) (ho : o = Ht.phead 32 ⟨false, [], none, false⟩ (b.data.toList.drop p)) :
    Calls Tryd.prog 18 #[.pointer (some ⟨g, 0, none⟩), .pointer (some ⟨gq, 0, none⟩)] W fun e w' => HeadPost g gq b m pa qu w0 W o e w' := by
  have HS0 := am H
  have HO0 := am ho
  clear H ho
  go_enter Tryd.func18, Tryd.ntmps18
  go_wp2
  go_loopg [4, 5, 6] 33 (fun kq v4 v5 v6 wx => ∃ (j i p : Nat) (h : Ht.Hd) (hv : Value), kq = j + 1 ∧ i + j = 32 ∧ v4 = .int .i64 (Ht.nz h.n) ∧ v5 = .bool h.ch ∧ v6 = .int .i64 (i : Int) ∧ p ≤ b.size ∧ Aside0 (h.heads.length ≤ i) ∧ Aside0 (Hs g gq b m pa qu w0 W p h.close hv (h.heads.map txt) wx) ∧ Aside0 (o = Ht.phead j h (b.data.toList.drop p)))
  case atStart => exact ⟨32, 0, p, ⟨false, [], none, false⟩, .slice none 0 0, rfl, rfl, rfl, rfl, rfl, hp, am (Nat.zero_le _), HS0, HO0⟩
  case round =>
    clear HS0 HO0 hp
    obtain ⟨j, i, p, h, hv, rfl, hij, rfl, rfl, rfl, hp, HN, HS, HO⟩ := hrel
    cases hl : Ht.pline (b.data.toList.drop p) with
    | bad c =>
      have CL := line_fell g b p w0 _ _ HS.out.rd hp hb hl
      have HO2 := am (HO.out.trans (Ht.head_bad hl))
      clear hl
      go_wp2_with (go_at_call 17; refine CL.mono ?_; rintro e w1 ⟨⟨sh, rfl⟩, hr⟩; have HS1 := am (HS.out.line hr); clear hr)
      exact ⟨rfl, head_gives HS1.out HO2.out ⟨sh, rfl⟩⟩
    | ok z =>
      obtain ⟨s, r⟩ := z
      obtain ⟨q, hq, _, rfl, hsl, CL⟩ := line_good g b p w0 _ _ HS.out.rd hp hb hl
      by_cases hs : s = []
      · subst hs
        have HO2 := am (HO.out.trans (Ht.head_end hl))
        clear hl
        cases hn : h.n with
        | none =>
          have HO3 := am (HO2.out.trans (show Ht.pend h (b.data.toList.drop q) = .ok (h, b.data.toList.drop q) by unfold Ht.pend; rw [hn]; rfl))
          clear HO2
          go_wp2_with (first
            | (go_at_call 17; refine CL.mono ?_; rintro e w1 ⟨rfl, hr⟩; have HS1 := am (HS.out.line hr); clear hr)
            | (go_at_call 23; (refine (check_yes 190 _).mono ?_); rintro e w2 ⟨⟨v2, rfl⟩, hb2⟩; have HS2 := am (HS1.out.below hb2); clear hb2))
          go_ret2
          exact head_done HS2.out hq HO3.out (by rw [hn]; rfl)
        | some mm =>
          have e1 : decide (Ht.nz (some mm) < 0) = false := decide_eq_false (by show ¬ (mm : Int) < 0; omega)
          cases hch : h.ch with
          | true =>
            have HO3 := am (HO2.out.trans (show Ht.pend h (b.data.toList.drop q) = .bad 190 by unfold Ht.pend; rw [hn, hch]; rfl))
            clear HO2
            go_wp2_with (first
              | (go_at_call 17; refine CL.mono ?_; rintro e w1 ⟨rfl, hr⟩; have HS1 := am (HS.out.line hr); clear hr)
              | (go_at_call 23; (refine (check_no 190 _).mono ?_); rintro e w2 ⟨⟨sh, rfl⟩, hb2⟩; have HS2 := am (HS1.out.below hb2); clear hb2))
            exact ⟨rfl, head_gives HS2.out HO3.out ⟨sh, rfl⟩⟩
          | false =>
            have HO3 := am (HO2.out.trans (show Ht.pend h (b.data.toList.drop q) = .ok (h, b.data.toList.drop q) by unfold Ht.pend; rw [hn, hch]; rfl))
            clear HO2
            go_wp2_with (first
              | (go_at_call 17; refine CL.mono ?_; rintro e w1 ⟨rfl, hr⟩; have HS1 := am (HS.out.line hr); clear hr)
              | (go_at_call 23; (refine (check_yes 190 _).mono ?_); rintro e w2 ⟨⟨v2, rfl⟩, hb2⟩; have HS2 := am (HS1.out.below hb2); clear hb2))
            go_ret2
            exact head_done HS2.out hq HO3.out (by rw [hn, hch]; rfl)
      · generalize hsb : (⟨s.toArray⟩ : ByteArray) = sb at CL
        have hsd : sb.data.toList = s := by rw [← hsb]
        have hss : sb.size < 2147483648 := by rw [← hsb, size_mk]; omega
        have hem := nonempty (s := sb) (by rw [hsd]; exact hs)
        cases j with
        | zero =>
          obtain rfl : i = 32 := by omega
          have HO2 := am (HO.out.trans (Ht.head_full hl hs))
          clear hl hs
          go_wp2_with (first
            | (go_at_call 17; refine CL.mono ?_; rintro e w1 ⟨rfl, hr⟩; have HS1 := am (HS.out.line hr); clear hr)
            | (go_at_call 23; (refine (check_no 192 _).mono ?_); rintro e w2 ⟨⟨sh, rfl⟩, hb2⟩; have HS2 := am (HS1.out.below hb2); clear hb2))
          exact ⟨rfl, head_gives HS2.out HO2.out ⟨sh, rfl⟩⟩
        | succ j =>
          have hi : decide ((i : Int) < 32) = true := decide_eq_true (by omega)
          cases hpp : Ht.ppair s with
          | bad c =>
            have CP := fun w' h => pair_fell sb w' hss h (c := c) (by rw [hsd]; exact hpp)
            have HO2 := am (HO.out.trans (Ht.head_pbad hl hs hpp))
            clear hl hs hpp
            go_wp2_with (first
              | (go_at_call 17; refine CL.mono ?_; rintro e w1 ⟨rfl, hr⟩; have HS1 := am (HS.out.line hr); clear hr)
              | (go_at_call 23; (refine (check_yes 192 _).mono ?_); rintro e w2 ⟨⟨v2, rfl⟩, hb2⟩; have HS2 := am (HS1.out.below hb2); clear hb2)
              | (go_at_call 32; refine (CP _ HS2.out.gg).mono ?_; rintro e w3 ⟨⟨sh, rfl⟩, hb3⟩; have HS3 := am (HS2.out.below hb3); clear hb3))
            exact ⟨rfl, head_gives HS3.out HO2.out ⟨sh, rfl⟩⟩
          | ok pr =>
            have CP := fun w' h => pair_good sb w' hss h (p := pr) (by rw [hsd]; exact hpp)
            have hnm := Ht.pair_name hpp
            generalize hnb : (⟨pr.1.toArray⟩ : ByteArray) = nb at CP
            generalize hvb : (⟨pr.2.toArray⟩ : ByteArray) = vb at CP
            have hnd : nb.data.toList = pr.1 := by rw [← hnb]
            have hvd : vb.data.toList = pr.2 := by rw [← hvb]
            have htx : txt pr = (nb, vb) := by unfold txt; rw [hnb, hvb]
            have hvs : vb.size < 2147483648 := by rw [Lib.size_eq, hvd]; have := (Ht.pair_len hpp).2; omega
            go_upto_region 8 with (first
              | (go_at_call 17; refine CL.mono ?_; rintro e w1 ⟨rfl, hr⟩; have HS1 := am (HS.out.line hr); clear hr)
              | (go_at_call 23; (refine (check_yes 192 _).mono ?_); rintro e w2 ⟨⟨v2, rfl⟩, hb2⟩; have HS2 := am (HS1.out.below hb2); clear hb2)
              | (go_at_call 32; refine (CP _ HS2.out.gg).mono ?_; rintro e w3 ⟨rfl, hb3⟩; have HS3 := am (HS2.out.below hb3); have OW := am (fun k hk => ((Kd.R_bound HS3.out.hr).1 k hk).2.2.1); have HB3 := am (Below.refl w3.heap.size w3); clear hb3)
              | ((with_reducible refine gate_dst (N := 8) rfl ?_); refine bx 8 #[.string ⟨#[]⟩, .string ⟨#[]⟩] 64 ?_; intro gp hg w4 hbox hbb; have GP := gsz hg HB3.out; have BP := am hbox; replace HB3 := am (below_step HB3.out hbb); clear hbb hbox hg; obtain ⟨c0, c1, f0, f1⟩ := cz2 BP.out))
            have BP3 := am (blk_put (blk_put BP.out 0 (.string nb) rfl) 1 (.string vb) rfl)
            have HS4 := am (HS3.out.below (bws HB3.out : Below w3.heap.size w3 ((w4.setCell ⟨gp, 0, none⟩ (.string nb)).setCell ⟨gp, 1, none⟩ (.string vb))))
            generalize (w4.setCell ⟨gp, 0, none⟩ (.string nb)).setCell ⟨gp, 1, none⟩ (.string vb) = w5 at *
            clear c0 c1 f0 f1 BP HB3 HS1 HS2 HS3 CP CL
            obtain ⟨c0, c1, f0, f1⟩ := cz2 BP3.out
            by_cases k1 : pr.1 = Ht.kLength
            · have t1 : (nb.toList == ([99, 111, 110, 116, 101, 110, 116, 45, 108, 101, 110, 103, 116, 104] : List UInt8)) = true := beq_data (hnd.trans k1)
              cases hn : h.n with
              | some mm =>
                have HO2 := am (HO.out.trans (Ht.head_obad hl hs hpp (c := 190) (by unfold Ht.onPair; rw [if_pos k1, if_pos (by rw [hn]; rfl)])))
                have e1 : decide (Ht.nz (some mm) < 0) = false := decide_eq_false (by show ¬ (mm : Int) < 0; omega)
                clear hl hs hpp hnd hvd htx hsd
                go_wp2_with ((go_at_call 23; (refine (check_no 190 _).mono ?_); rintro e w8 ⟨⟨sh, rfl⟩, hb8⟩; have HS5 := am (HS4.out.below hb8); clear hb8))
                exact ⟨rfl, head_gives HS5.out HO2.out ⟨sh, rfl⟩⟩
              | none =>
                cases hlg : Ht.plong pr.2 with
                | bad c =>
                  have HO2 := am (HO.out.trans (Ht.head_obad hl hs hpp (c := c) (by unfold Ht.onPair; rw [if_pos k1, if_neg (by rw [hn]; simp), hlg]; rfl)))
                  have CLG := fun w' => long_fell vb w' hvs (c := c) (by rw [hvd]; exact hlg)
                  clear hl hs hpp hnd hvd htx hsd hlg
                  go_wp2_with (first
                    | (go_at_call 23; (refine (check_yes 190 _).mono ?_); rintro e w6 ⟨⟨v6, rfl⟩, hb6⟩; have HS5 := am (HS4.out.below hb6); replace BP3 := bb BP3.out hb6; clear c0 c1 f0 f1 hb6; obtain ⟨c0, c1, f0, f1⟩ := cz2 BP3.out)
                    | (go_at_call 33; refine (CLG _).mono ?_; rintro e w8 ⟨⟨sh, rfl⟩, hb8⟩; have HS6 := am (HS5.out.below hb8); clear hb8))
                  exact ⟨rfl, head_gives HS6.out HO2.out ⟨sh, rfl⟩⟩
                | ok mv =>
                  have HO2 := am (HO.out.trans (Ht.head_next hl hs hpp (h' := { h with n := some mv }) (by unfold Ht.onPair; rw [if_pos k1, if_neg (by rw [hn]; simp), hlg]; rfl)))
                  have CLG := fun w' => (long_good vb w' hvs (n := mv) (by rw [hvd]; exact hlg)).2
                  clear hl hs hpp hnd hvd htx hsd hlg
                  go_wp2_with (first
                    | (go_at_call 23; (refine (check_yes 190 _).mono ?_); rintro e w6 ⟨⟨v6, rfl⟩, hb6⟩; have HS5 := am (HS4.out.below hb6); replace BP3 := bb BP3.out hb6; clear c0 c1 f0 f1 hb6; obtain ⟨c0, c1, f0, f1⟩ := cz2 BP3.out)
                    | (go_at_call 33; refine (CLG _).mono ?_; rintro e w8 ⟨rfl, hb8⟩; have HS6 := am (HS5.out.below hb8); clear hb8))
                  go_roundg (j + 1)
                  case measure => omega
                  case rel => exact ⟨j, i + 1, q, { h with n := some mv }, hv, rfl, by omega, (by first | rfl | (simp; done) | (congr 1; omega)), (by first | rfl | (simp; done)), (by first | rfl | (congr 1; omega)), hq, am (by have := HN.out; show h.heads.length ≤ i + 1; omega), HS6, HO2⟩
            · have t1 : (nb.toList == ([99, 111, 110, 116, 101, 110, 116, 45, 108, 101, 110, 103, 116, 104] : List UInt8)) = false := bne_data (fun e => k1 (hnd.symm.trans e))
              by_cases k2 : pr.1 = Ht.kCoding
              · have t2 : (nb.toList == ([116, 114, 97, 110, 115, 102, 101, 114, 45, 101, 110, 99, 111, 100, 105, 110, 103] : List UInt8)) = true := beq_data (hnd.trans k2)
                cases hch : h.ch with
                | true =>
                  have HO2 := am (HO.out.trans (Ht.head_obad hl hs hpp (c := 190) (by unfold Ht.onPair; rw [if_neg k1, if_pos k2, if_pos hch])))
                  clear hl hs hpp hnd hvd htx hsd
                  go_wp2_with ((go_at_call 23; (refine (check_no 190 _).mono ?_); rintro e w8 ⟨⟨sh, rfl⟩, hb8⟩; have HS5 := am (HS4.out.below hb8); clear hb8))
                  exact ⟨rfl, head_gives HS5.out HO2.out ⟨sh, rfl⟩⟩
                | false =>
                  have CS := fun w' => small_calls vb hvs w'
                  generalize hsv : (⟨(Ht.small vb.data.toList).toArray⟩ : ByteArray) = sv at CS
                  have hsvd : sv.data.toList = Ht.small pr.2 := by rw [← hsv, ← hvd]
                  by_cases k4 : Ht.small pr.2 = Ht.kChunked
                  · have t4 : (sv.toList == ([99, 104, 117, 110, 107, 101, 100] : List UInt8)) = true := beq_data (hsvd.trans k4)
                    have HO2 := am (HO.out.trans (Ht.head_next hl hs hpp (h' := { h with ch := true }) (by unfold Ht.onPair; rw [if_neg k1, if_pos k2, if_neg (by rw [hch]; simp), if_pos k4])))
                    clear hl hs hpp hnd hvd htx hsd hsv hsvd
                    go_wp2_with (first
                      | (go_at_call 23; (refine (check_yes 190 _).mono ?_); rintro e w6 ⟨⟨v6, rfl⟩, hb6⟩; have HS5 := am (HS4.out.below hb6); replace BP3 := bb BP3.out hb6; clear c0 c1 f0 f1 hb6; obtain ⟨c0, c1, f0, f1⟩ := cz2 BP3.out)
                      | (go_at_call 34; refine (CS _).mono ?_; rintro e w7 ⟨rfl, hb7⟩; have HS6 := am (HS5.out.below hb7); replace BP3 := bb BP3.out hb7; clear c0 c1 f0 f1 hb7; obtain ⟨c0, c1, f0, f1⟩ := cz2 BP3.out)
                      | (go_at_call 23; (refine (check_yes 193 _).mono ?_); rintro e w6 ⟨⟨v6, rfl⟩, hb6⟩; have HS7 := am (HS6.out.below hb6); replace BP3 := bb BP3.out hb6; clear c0 c1 f0 f1 hb6; obtain ⟨c0, c1, f0, f1⟩ := cz2 BP3.out))
                    go_roundg (j + 1)
                    case measure => omega
                    case rel => exact ⟨j, i + 1, q, { h with ch := true }, hv, rfl, by omega, (by first | rfl | (simp; done) | (congr 1; omega)), (by first | rfl | (simp; done)), (by first | rfl | (congr 1; omega)), hq, am (by have := HN.out; show h.heads.length ≤ i + 1; omega), HS7, HO2⟩
                  · have t4 : (sv.toList == ([99, 104, 117, 110, 107, 101, 100] : List UInt8)) = false := bne_data (fun e => k4 (hsvd.symm.trans e))
                    have HO2 := am (HO.out.trans (Ht.head_obad hl hs hpp (c := 193) (by unfold Ht.onPair; rw [if_neg k1, if_pos k2, if_neg (by rw [hch]; simp), if_neg k4])))
                    clear hl hs hpp hnd hvd htx hsd hsv hsvd
                    go_wp2_with (first
                      | (go_at_call 23; (refine (check_yes 190 _).mono ?_); rintro e w6 ⟨⟨v6, rfl⟩, hb6⟩; have HS5 := am (HS4.out.below hb6); replace BP3 := bb BP3.out hb6; clear c0 c1 f0 f1 hb6; obtain ⟨c0, c1, f0, f1⟩ := cz2 BP3.out)
                      | (go_at_call 34; refine (CS _).mono ?_; rintro e w7 ⟨rfl, hb7⟩; have HS6 := am (HS5.out.below hb7); replace BP3 := bb BP3.out hb7; clear c0 c1 f0 f1 hb7; obtain ⟨c0, c1, f0, f1⟩ := cz2 BP3.out)
                      | (go_at_call 23; (refine (check_no 193 _).mono ?_); rintro e w8 ⟨⟨sh, rfl⟩, hb8⟩; have HS7 := am (HS6.out.below hb8); clear hb8))
                    exact ⟨rfl, head_gives HS7.out HO2.out ⟨sh, rfl⟩⟩
              · have t2 : (nb.toList == ([116, 114, 97, 110, 115, 102, 101, 114, 45, 101, 110, 99, 111, 100, 105, 110, 103] : List UInt8)) = false := bne_data (fun e => k2 (hnd.symm.trans e))
                by_cases k3 : pr.1 = Ht.kConn
                · have t3 : (nb.toList == ([99, 111, 110, 110, 101, 99, 116, 105, 111, 110] : List UInt8)) = true := beq_data (hnd.trans k3)
                  have CS := fun w' => small_calls vb hvs w'
                  generalize hsv : (⟨(Ht.small vb.data.toList).toArray⟩ : ByteArray) = sv at CS
                  have hsvd : sv.data.toList = Ht.small pr.2 := by rw [← hsv, ← hvd]
                  by_cases k4 : Ht.small pr.2 = Ht.kClose
                  · have t4 : (sv.toList == ([99, 108, 111, 115, 101] : List UInt8)) = true := beq_data (hsvd.trans k4)
                    have HO2 := am (HO.out.trans (Ht.head_next hl hs hpp (h' := { h with close := true }) (by unfold Ht.onPair; rw [if_neg k1, if_neg k2, if_pos k3, k4]; simp)))
                    clear hl hs hpp hnd hvd htx hsd hsv hsvd
                    go_wp2_with (go_at_call 34; refine (CS _).mono ?_; rintro e w7 ⟨rfl, hb7⟩; have HS5 := am (HS4.out.below hb7); replace BP3 := bb BP3.out hb7; clear c0 c1 f0 f1 hb7; obtain ⟨p0, p1, p2, p3, p4, p5, q0, q1, q2, q3, q4, q5⟩ := cz6 HS5.out.hq)
                    go_roundg (j + 1)
                    case measure => omega
                    case rel => exact ⟨j, i + 1, q, { h with close := true }, hv, rfl, by omega, (by first | rfl | (simp; done) | (congr 1; omega)), (by first | rfl | (simp; done)), (by first | rfl | (congr 1; omega)), hq, am (by have := HN.out; show h.heads.length ≤ i + 1; omega), am (HS5.out.put 5 (.bool true) rfl HS5.out.hr), HO2⟩
                  · have t4 : (sv.toList == ([99, 108, 111, 115, 101] : List UInt8)) = false := bne_data (fun e => k4 (hsvd.symm.trans e))
                    have HO2 := am (HO.out.trans (Ht.head_next hl hs hpp (h' := h) (by unfold Ht.onPair; rw [if_neg k1, if_neg k2, if_pos k3, beq_eq_false_iff_ne.2 k4, Bool.or_false])))
                    clear hl hs hpp hnd hvd htx hsd hsv hsvd
                    go_wp2_with ((go_at_call 34; refine (CS _).mono ?_; rintro e w7 ⟨rfl, hb7⟩; have HS5 := am (HS4.out.below hb7); replace BP3 := bb BP3.out hb7; clear c0 c1 f0 f1 hb7; obtain ⟨c0, c1, f0, f1⟩ := cz2 BP3.out))
                    go_roundg (j + 1)
                    case measure => omega
                    case rel => exact ⟨j, i + 1, q, h, hv, rfl, by omega, (by first | rfl | (simp; done) | (congr 1; omega)), (by first | rfl | (simp; done)), (by first | rfl | (congr 1; omega)), hq, am (by have := HN.out; show h.heads.length ≤ i + 1; omega), HS5, HO2⟩
                · have t3 : (nb.toList == ([99, 111, 110, 110, 101, 99, 116, 105, 111, 110] : List UInt8)) = false := bne_data (fun e => k3 (hnd.symm.trans e))
                  have t5 := nonempty (s := nb) (by rw [hnd]; exact hnm)
                  have HO2 := am (HO.out.trans (Ht.head_next hl hs hpp (h' := { h with heads := h.heads ++ [pr] }) (by unfold Ht.onPair; rw [if_neg k1, if_neg k2, if_neg k3])))
                  obtain ⟨p0, p1, p2, p3, p4, p5, q0, q1, q2, q3, q4, q5⟩ := cz6 HS4.out.hq
                  clear hl hs hpp hnd hvd hsd
                  have hln : (h.heads.map txt).length ≤ 32 := by rw [List.length_map]; have := HN.out; omega
                  have hfin : (h.heads ++ [pr]).map txt = h.heads.map txt ++ [(nb, vb)] := by rw [List.map_append, List.map_cons, htx]; rfl
                  generalize h.heads.map txt = xs at HS4 hln hfin
                  obtain ⟨A0, d0, e0⟩ := Kd.R_slice HS4.out.hr
                  subst e0
                  clear hp
                  go_wp2
                  refine start_ (n := 11) (S := fun w' => w'.cell? ⟨gq, 3, none⟩ = some (.slice A0 xs.length d0) ∧ w'.cell? ⟨gp, 0, none⟩ = some (.string nb) ∧ w'.cell? ⟨gp, 1, none⟩ = some (.string vb)) (ds := [10]) #[false, false, false, false, false, false, false, false, false, false, false] (by kernel_rfl) rfl rfl ⟨p3, c0, c1⟩ (fun hHeld => ?_)
                  refine hp 0 (some 51) ?_
                  refine hp 1 (some 52) ?_
                  refine hp 2 (some 53) ?_
                  refine hp 3 (some 54) ?_
                  refine ht 4 (some 55) hHeld ?_
                  refine ht 5 (some 56) hHeld ?_
                  have HS5 := am (HS4.out.drew.below ((Below.refl _ _).alloc (Nat.le_refl _) (.cells #[.string nb, .string vb] 64 (0, 0))))
                  refine hval 6 (some 57) (.slice (some ⟨w5.drew.heap.size, 0, none⟩) 1 1) (w5.drew.alloc (.cells #[.string nb, .string vb] 64 (0, 0))) ⟨(blk_cell HS5.out.hq 3).trans rfl, (blk_cell (blk_below BP3.out (show Below w5.heap.size w5 (w5.drew.alloc _) from ((Below.refl _ _).drew.alloc (Nat.le_refl _) _))) 0).trans rfl, (blk_cell (blk_below BP3.out (show Below w5.heap.size w5 (w5.drew.alloc _) from ((Below.refl _ _).drew.alloc (Nat.le_refl _) _))) 1).trans rfl⟩ ?_
                  refine one_ (i := 7) (N := some 58) #[true, true, true, true, true, true, true, true, false, false, false] rfl rfl (by kernel_rfl) (by decide) (fun K hK => ?_)
                  refine Kd.R_append_step kP (w0 := w5.drew) W.heap.size (by rfl) (.tmp 55) (.tmp 57) 33 64 (.agg #[(.string ⟨#[]⟩), (.string ⟨#[]⟩)]) 32 rfl Tryd.underlying33 (by kernel_rfl) rfl (by decide) (by omega) (.slice A0 xs.length d0) xs (nb, vb) [.string nb, .string vb] (fun _ => True) (fun _ => False) rfl rfl ?aP (fun _ hk => hk.elim) ?aF ?aO ?aB ?aS ?aL ?_
                  (case aP => exact ⟨[.string nb], [.string vb], rfl, rfl, rfl⟩)
                  (case aB => exact Below.refl _ _)
                  (case aF => exact (fun _ _ => trivial))
                  (case aO => exact HS4.out.drew.hr)
                  (case aS => exact HS4.out.drew.hz)
                  (case aL => omega)
                  intro vv V5 ho hb hg hat
                  obtain ⟨B8, d8, e8⟩ := Kd.R_slice ho
                  rw [show (xs ++ [(nb, vb)]).length = xs.length + 1 by simp] at e8
                  subst e8
                  have hgp : some gp ≠ (Value.slice A0 xs.length d0).ownBlock := fun e => by have := OW.out gp e.symm; have := GP.out; omega
                  have BP5 : V5.heap[gp]? = some (.cells #[.string nb, .string vb] 64 (0, 0)) := (hg.block gp (blk_lt BP3.out) hgp).trans BP3.out
                  have HS6 := am (HS4.out.drew.more hb ho)
                  have co : V5.cell? ⟨gq, 3, none⟩ = some (.slice A0 xs.length d0) := (blk_cell ((hb.block gq HS4.out.hqW).trans HS4.out.drew.hq) 3).trans rfl
                  have fo := blk_frozen ((hb.block gq HS4.out.hqW).trans HS4.out.drew.hq) 3
                  refine hK.out _ _ ⟨co, (blk_cell BP5 0).trans rfl, (blk_cell BP5 1).trans rfl⟩ (fun hHeld => ?_)
                  clear hK K
                  refine norm_ (a' := ?_) ?_ ?_
                  rotate_left
                  · show Act.put _ (some 58) _ = _
                    simp only [Act.put, List.setIfInBounds_toArray, List.set_cons_zero, List.set_cons_succ, i64_w, i32_w]
                    rfl
                  refine hp 8 (some 59) ?_
                  refine hp 9 (some 60) ?_
                  refine hstore 10 ?_
                  refine done_ (by kernel_rfl) ?_
                  clear co fo hHeld
                  go_wp2
                  go_roundg (j + 1)
                  case measure => omega
                  case rel => exact ⟨j, i + 1, q, { h with heads := h.heads ++ [pr] }, _, rfl, by omega, (by first | rfl | (simp; done) | (congr 1; omega)), (by first | rfl | (simp; done)), (by first | rfl | (congr 1; omega)), hq, am (by rw [List.length_append]; have := HN.out; simp only [List.length_cons, List.length_nil]; omega), am (by show Hs g gq b m pa qu w0 W q h.close _ ((h.heads ++ [pr]).map txt) _; rw [hfin]; exact HS6.out), HO2⟩
end Go.Proofs.YtcecdbbomadppaaDoor.Hw
end
section
namespace Go.Proofs.YtcecdbbomadppaaDoor.Hw
open Go Go.RowKit Go.Proofs.YtcecdbbomadppaaDoorW.PrintWords Go.Proofs.YtcecdbbomadppaaDoorW.PrintLast Go.Proofs.YtcecdbbomadppaaDoorW.PrintMore
set_option linter.unusedVariables false
set_option linter.unusedSimpArgs false
def hexF (acc : Nat) (l : List UInt8) : Nat := l.foldl (fun n c => n * 16 + Ht.hexv c) acc
theorem hexv_le (c : UInt8) (h : Ht.isHex c = true) : Ht.hexv c ≤ 15 ∧ ((48 ≤ c.toNat ∧ c.toNat ≤ 57 ∧ Ht.hexv c = c.toNat - 48) ∨ (97 ≤ c.toNat ∧ c.toNat ≤ 102 ∧ Ht.hexv c = c.toNat - 87) ∨ (65 ≤ c.toNat ∧ c.toNat ≤ 70 ∧ Ht.hexv c = c.toNat - 55)) := by
 have q : ∀ n : Fin 256, Ht.isHex (UInt8.ofNat n.val) = true → Ht.hexv (UInt8.ofNat n.val) ≤ 15 ∧ ((48 ≤ n.val ∧ n.val ≤ 57 ∧ Ht.hexv (UInt8.ofNat n.val) = n.val - 48) ∨ (97 ≤ n.val ∧ n.val ≤ 102 ∧ Ht.hexv (UInt8.ofNat n.val) = n.val - 87) ∨ (65 ≤ n.val ∧ n.val ≤ 70 ∧ Ht.hexv (UInt8.ofNat n.val) = n.val - 55)) := by decide +kernel
 have := q ⟨c.toNat, c.toNat_lt⟩
 simp only [UInt8.ofNat_toNat] at this
 exact this h
theorem or_up (n : Nat) (h : 65 ≤ n) (h2 : n ≤ 70) : Go.bits .or .u8 (n : Int) 32 = (n : Int) + 32 := by
 have : n = 65 ∨ n = 66 ∨ n = 67 ∨ n = 68 ∨ n = 69 ∨ n = 70 := by omega
 rcases this with rfl | rfl | rfl | rfl | rfl | rfl <;> decide
theorem or_low (n : Nat) (h : 97 ≤ n) (h2 : n ≤ 102) : Go.bits .or .u8 (n : Int) 32 = (n : Int) := by
 have : n = 97 ∨ n = 98 ∨ n = 99 ∨ n = 100 ∨ n = 101 ∨ n = 102 := by omega
 rcases this with rfl | rfl | rfl | rfl | rfl | rfl <;> decide
set_option maxRecDepth 100000 in
set_option maxHeartbeats 16000000 in
theorem parse_in (s : ByteArray) (w : World) (hne : s.data.toList ≠ []) (hl : s.size ≤ 8) (hx : s.data.toList.all Ht.isHex = true) :
  Calls Tryd.prog 54 #[.string s, .int .i64 16, .int .i64 64] w fun e w' => e = .returned (.tuple #[.int .u64 (Ht.hexn s.data.toList : Nat), .nilIface]) ∧ Below w.heap.size w w' := by
 have hem := nonempty hne
 have hcv := Lib.run_convert_string_bytes (P := Tryd.prog) w 9 95 5 s (u := .string) (by kernel_rfl) (by kernel_rfl) (by kernel_rfl)
 have hmv : IntKind.u64.wrap (IntKind.u64.wrap 18446744073709551616 - 1) = 18446744073709551615 := by
  rw [IntKind.wrap_u64, IntKind.wrap_u64]
  decide
 have hcell : ∀ j, j < s.size → (Lib.bytesWorld w 5 s).cell? ⟨w.heap.size, j, none⟩ = some (.int .u8 (s.data.toList.getD j 0).toNat) := fun j hj => Lib.bytesWorld_cell w 5 s j hj
 have HB := am (Lib.bytesWorld_below w 5 s)
 generalize Lib.bytesWorld w 5 s = w1 at *
 generalize hgc : grownCap w s.size 0 5 = gc at *
 have hgl : s.size ≤ gc := by rw [← hgc]; exact grownCap_ge w s.size 0 _
 clear hgc
 go_enter Tryd.func54, Tryd.ntmps54
 go_wp2
 go_loop [12, 13, 101] (fun vu vn vi => ∃ (k acc : Nat) (a : Int), vu = .bool false ∧ vn = .int .u64 a ∧ vi = .int .i64 (k : Int) ∧ k ≤ s.size ∧ Aside0 (a = (acc : Int) ∧ acc < 16 ^ k ∧ Ht.hexn s.data.toList = hexF acc (s.data.toList.drop k) ∧ (s.data.toList.drop k).all Ht.isHex = true))
  (fun _ _ vi => s.size - (intOf vi).toNat)
 case atStart => exact ⟨0, 0, 0, rfl, rfl, rfl, by omega, am ⟨rfl, by decide, rfl, hx⟩⟩
 case round =>
  clear hx hmv
  obtain ⟨k, acc, a, rfl, rfl, rfl, hk, HH⟩ := hrel
  by_cases hkn : k < s.size
  ·
   obtain ⟨ha, hacc, hhex, hall⟩ := HH.out
   have hd := drop_cons s k hkn
   have hc := hcell k hkn
   have hget : s.data.toList.getD k 0 = s[k]'hkn := by
    have := Lib.data_getElem? s k hkn
    rw [List.getD_eq_getElem?_getD, this]
    rfl
   rw [hget] at hc
   generalize s[k]'hkn = x at hc hd
   rw [hd, List.all_cons, Bool.and_eq_true] at hall
   obtain ⟨hx1, hall⟩ := hall
   obtain ⟨h15, hcl⟩ := hexv_le x hx1
   have hpow : 16 ^ k ≤ 16 ^ 7 := Nat.pow_le_pow_right (by decide) (by omega)
   have hp7 : (16 : Nat) ^ 7 = 268435456 := by decide
   have HN : Aside0 (a * 16 + ((Ht.hexv x : Nat) : Int) = ((acc * 16 + Ht.hexv x : Nat) : Int) ∧ acc * 16 + Ht.hexv x < 16 ^ (k + 1) ∧ Ht.hexn s.data.toList = hexF (acc * 16 + Ht.hexv x) (s.data.toList.drop (k + 1)) ∧ (s.data.toList.drop (k + 1)).all Ht.isHex = true) := by
    refine am ⟨by omega, by rw [Nat.pow_succ]; omega, ?_, hall⟩
    rw [hhex, hd]
    rfl
   have a0 : 0 ≤ a := by omega
   have a1 : a < 268435456 := by omega
   clear HH ha hacc hhex hall hd hget hx1 hpow hp7 hcell
   rcases hcl with ⟨h1, h2, h3⟩ | ⟨h1, h2, h3⟩ | ⟨h1, h2, h3⟩
   ·
    rw [h3] at HN
    go_wp2
    exact ⟨⟨k + 1, acc * 16 + (x.toNat - 48), _, rfl, rfl, (by congr 1), by omega, am ⟨by have := HN.out.1; omega, HN.out.2⟩⟩, by simp [intOf]; omega⟩
   ·
    have ho := or_low x.toNat h1 h2
    rw [h3] at HN
    go_wp2
    exact ⟨⟨k + 1, acc * 16 + (x.toNat - 87), _, rfl, rfl, (by congr 1), by omega, am ⟨by have := HN.out.1; omega, HN.out.2⟩⟩, by simp [intOf]; omega⟩
   ·
    have ho := or_up x.toNat h1 h2
    rw [h3] at HN
    go_wp2
    exact ⟨⟨k + 1, acc * 16 + (x.toNat - 55), _, rfl, rfl, (by congr 1), by omega, am ⟨by have := HN.out.1; omega, HN.out.2⟩⟩, by simp [intOf]; omega⟩
  ·
   obtain rfl : k = s.size := by omega
   obtain ⟨ha, hacc, hhex, hall⟩ := HH.out
   rw [drop_all] at hhex
   have hfin : (a : Int) = ((Ht.hexn s.data.toList : Nat) : Int) := by rw [hhex, ha]; rfl
   clear HH ha hacc hhex hall
   go_wp2
   go_ret2
   exact ⟨by rw [← hfin]; rfl, HB.out⟩
set_option maxRecDepth 100000 in
set_option maxHeartbeats 4000000 in
theorem parse_calls (s : ByteArray) (w : World) (hne : s.data.toList ≠ []) (hl : s.size ≤ 8) (hx : s.data.toList.all Ht.isHex = true) :
  Calls Tryd.prog 36 #[.string s, .int .i64 16, .int .i64 64] w fun e w' => e = .returned (.tuple #[.int .u64 (Ht.hexn s.data.toList : Nat), .nilIface]) ∧ Below w.heap.size w w' := by
 have C := parse_in s w hne hl hx
 clear hx hne
 generalize Ht.hexn s.data.toList = n at *
 go_enter Tryd.func36, Tryd.ntmps36
 go_wp2_with (go_at_call 54; refine C.mono ?_; rintro e w1 ⟨rfl, hb⟩)
 go_ret2
 exact ⟨rfl, hb⟩
theorem hexF_lt : ∀ (l : List UInt8) (acc k : Nat), acc < 16 ^ k → l.all Ht.isHex = true → hexF acc l < 16 ^ (k + l.length)
 | [], acc, k, h, _ => h
 | c :: l, acc, k, h, hx => by
  rw [List.all_cons, Bool.and_eq_true] at hx
  have h15 := (hexv_le c hx.1).1
  have := hexF_lt l (acc * 16 + Ht.hexv c) (k + 1) (by rw [Nat.pow_succ]; omega) hx.2
  rw [List.length_cons, show k + (l.length + 1) = k + 1 + l.length by omega]
  exact this
theorem hexn_lt (l : List UInt8) (hl : l.length ≤ 8) (hx : l.all Ht.isHex = true) : Ht.hexn l < 4294967296 := by
 have := hexF_lt l 0 0 (by decide) hx
 rw [Nat.zero_add] at this
 have h8 : 16 ^ l.length ≤ 16 ^ 8 := Nat.pow_le_pow_right (by decide) hl
 have e8 : (16 : Nat) ^ 8 = 4294967296 := by decide
 unfold hexF at this
 unfold Ht.hexn
 omega
end Go.Proofs.YtcecdbbomadppaaDoor.Hw
end
section
namespace Go.Proofs.YtcecdbbomadppaaDoor.Hw
open Go Go.RowKit Go.Proofs.YtcecdbbomadppaaDoorW.PrintWords Go.Proofs.YtcecdbbomadppaaDoorW.PrintLast Go.Proofs.YtcecdbbomadppaaDoorW.PrintMore
attribute [local go_sem] max2_int min2_int max_two min_two
set_option linter.unusedVariables false
set_option linter.unusedSimpArgs false
theorem hex_cs (l : List UInt8) : l.all (([48, 49, 50, 51, 52, 53, 54, 55, 56, 57, 97, 98, 99, 100, 101, 102, 65, 66, 67, 68, 69, 70] : List UInt8).contains ·) = l.all Ht.isHex := by
  congr 1
  funext c
  have : ∀ n : Fin 256, (([48, 49, 50, 51, 52, 53, 54, 55, 56, 57, 97, 98, 99, 100, 101, 102, 65, 66, 67, 68, 69, 70] : List UInt8).contains (UInt8.ofNat n.val)) = Ht.isHex (UInt8.ofNat n.val) := by decide +kernel
  have h := this ⟨c.toNat, c.toNat_lt⟩
  simpa using h
theorem trim_hex (s : ByteArray) (w : World) (hs : s.size < 2147483648) :
    Calls Tryd.prog 24 #[.string s, .string ⟨#[48, 49, 50, 51, 52, 53, 54, 55, 56, 57, 97, 98, 99, 100, 101, 102, 65, 66, 67, 68, 69, 70]⟩] w fun e w' => (∃ t : ByteArray, e = .returned (.string t) ∧ Aside0 (t.data.toList = [] ↔ s.data.toList.all Ht.isHex = true)) ∧ Below w.heap.size w w' := by
  refine (trim_calls s ⟨#[48, 49, 50, 51, 52, 53, 54, 55, 56, 57, 97, 98, 99, 100, 101, 102, 65, 66, 67, 68, 69, 70]⟩ w hs (by decide) (by decide)).mono ?_
  rintro e w' ⟨rfl, hb⟩
  exact ⟨⟨_, rfl, am ((Ht.trim_nil _ _).trans (by rw [← hex_cs]))⟩, hb⟩
theorem crlf_calls (s : ByteArray) (w : World) : Calls Tryd.prog 25 #[.string ⟨#[13, 10]⟩, .string s] w fun e w' => e = .returned (.bool (Lib.hasPrefix [13, 10] s.data.toList)) ∧ Below w.heap.size w w' := by
  refine (Tryd.strings_HasPrefix ⟨#[13, 10]⟩ s w).mono ?_
  rintro e w' ⟨rfl, rfl⟩
  exact ⟨rfl, Below.refl _ _⟩
def RdPost (g : Nat) (b : ByteArray) (w0 W : World) (o : Ht.Out (Ht.B × Ht.B)) (e : Ending) (w' : World) : Prop :=
  (match o with
   | .ok (x, r) => e = .returned (.string ⟨x.toArray⟩) ∧ ∃ p, p ≤ b.size ∧ r = b.data.toList.drop p ∧ Rd g b p w0 W w'
   | .bad c => Fell c e) ∧ ∃ p, Rd g b p w0 W w'
theorem rd_gives {g : Nat} {b : ByteArray} {w0 W w' : World} {o : Ht.Out (Ht.B × Ht.B)} {c : Int} {e : Ending} {p : Nat} (h : Rd g b p w0 W w') (ho : o = .bad c) (hf : Fell c e) : RdPost g b w0 W o e w' := by
  subst ho
  exact ⟨hf, p, h⟩
theorem rd_done {g : Nat} {b : ByteArray} {w0 W w' : World} {o : Ht.Out (Ht.B × Ht.B)} {x : Ht.B} {e : Ending} {p : Nat} (h : Rd g b p w0 W w') (hp : p ≤ b.size) (ho : o = .ok (x, b.data.toList.drop p)) (he : e = .returned (.string ⟨x.toArray⟩)) : RdPost g b w0 W o e w' := by
  subst ho
  exact ⟨⟨he, p, hp, rfl, h⟩, p, h⟩
theorem en_two (b : ByteArray) (u : Nat) (h : u + 2 ≤ b.size) : (b.extract u (u + 2)).data.toList = (b.data.toList.drop u).take 2 := by
  rw [Lib.extract_data, Nat.add_sub_cancel_left]
theorem en_one (b : ByteArray) (u : Nat) (h : b.size < u + 2) : (b.extract u b.size).data.toList = (b.data.toList.drop u).take 2 := by
  have hl : (b.data.toList.drop u).length = b.size - u := by rw [List.length_drop, ← Lib.size_eq]
  rw [drop_data, List.take_of_length_le (by omega)]
theorem rd_hop {g p q : Nat} {b : ByteArray} {w0 W w w' : World} (h : Rd g b p w0 W w) (r : Rd g b q w0 w w') : Rd g b q w0 W w' :=
  ⟨r.hc, r.hb, ⟨Nat.le_trans h.hk.1 r.hk.1, fun i hi h1 h2 => (r.hk.2 i (Nat.lt_of_lt_of_le hi h.hk.1) h1 h2).trans (h.hk.2 i hi h1 h2)⟩, h.hg, h.hl⟩
set_option maxRecDepth 100000 in
set_option maxHeartbeats 40000000 in
theorem chunks_calls (g : Nat) (b : ByteArray) (p : Nat) (w0 W : World) (H : Rd g b p w0 W W) (hp : p ≤ b.size) (hb : b.size < 2147483648) (o : Ht.Out (Ht.B × Ht.B)) (ho : o = Ht.pchunks 131073 [] (b.data.toList.drop p)) :
    Calls Tryd.prog 19 #[.pointer (some ⟨g, 0, none⟩)] W fun e w' => RdPost g b w0 W o e w' := by
  have HS0 := am H
  have HO0 := am ho
  clear H ho
  go_enter Tryd.func19, Tryd.ntmps19
  go_wp2
  go_loopg [3] 131073 (fun kq v3 wx => ∃ (p : Nat) (body : ByteArray), v3 = .string body ∧ p ≤ b.size ∧ body.size ≤ 131072 ∧ 131073 ≤ kq + body.size ∧ Aside0 (Rd g b p w0 W wx) ∧ Aside0 (o = Ht.pchunks kq body.data.toList (b.data.toList.drop p)))
  case atStart => exact ⟨p, ⟨#[]⟩, rfl, hp, by decide, by show 131073 ≤ 131073 + 0; omega, HS0, HO0⟩
  case round =>
    clear HS0 HO0 hp
    obtain ⟨p, body, rfl, hp, hbs, hfu, HS, HO⟩ := hrel
    cases gk with
    | zero => omega
    | succ f =>
    have hbl : body.data.toList.length = body.size := (Lib.size_eq body).symm
    cases hl : Ht.pline (b.data.toList.drop p) with
    | bad c =>
      have CL := line_fell g b p w0 _ _ HS.out.here hp hb hl
      have HO2 := am (HO.out.trans (Ht.chunks_bad hl))
      clear hl
      go_wp2_with (go_at_call 17; refine CL.mono ?_; rintro e w1 ⟨⟨sh, rfl⟩, hr⟩; have HS1 := am (rd_hop HS.out hr); clear hr)
      exact ⟨rfl, rd_gives HS1.out HO2.out ⟨sh, rfl⟩⟩
    | ok z =>
      obtain ⟨s, r⟩ := z
      obtain ⟨q, hq, _, rfl, hsl, CL⟩ := line_good g b p w0 _ _ HS.out.here hp hb hl
      have hlq : (b.data.toList.drop q).length = b.size - q := by rw [List.length_drop, ← Lib.size_eq]
      generalize hsb : (⟨s.toArray⟩ : ByteArray) = sb at CL
      have hsd : sb.data.toList = s := by rw [← hsb]
      have hss : sb.size < 2147483648 := by rw [← hsb, size_mk]; omega
      have CC := fun w' h => cut_calls sb 59 w' hss h
      rw [hsd] at CC
      have hcl := Ht.cut1_len2 59 s
      have hps : Ht.psize s = if (!(Ht.cut1 59 s).1.isEmpty && decide ((Ht.cut1 59 s).1.length ≤ 8) && (Ht.cut1 59 s).1.all Ht.isHex && Ht.value ((Ht.cut1 59 s).2.getD [])) = true then .ok (Ht.hexn (Ht.cut1 59 s).1) else .bad 190 := rfl
      cases hcut : Ht.cut1 59 s with
      | mk av om =>
      rw [hcut] at CC hcl hps
      simp only at CC hcl hps
      generalize hab : (⟨av.toArray⟩ : ByteArray) = ab at CC
      generalize hmb : (⟨(om.getD []).toArray⟩ : ByteArray) = mb at CC
      have had : ab.data.toList = av := by rw [← hab]
      have hmd : mb.data.toList = om.getD [] := by rw [← hmb]
      have hasz : ab.size = av.length := by rw [← hab, size_mk]
      have hmsz : mb.size < 2147483648 := by rw [← hmb, size_mk]; omega
      clear hsb hab hmb hcut hsd
      by_cases h1 : av = []
      · have HO2 := am (HO.out.trans (Ht.chunks_size hl (c := 190) (by rw [hps, if_neg (by rw [h1]; simp)])))
        have e1 := empty_mk (t := ab) (by rw [had]; exact h1)
        subst e1
        clear hl hps had hmd h1 hasz hcl
        go_wp2_with (first
          | (go_at_call 17; refine CL.mono ?_; rintro e w1 ⟨rfl, hr⟩; have HS1 := am (rd_hop HS.out hr); clear hr)
          | (go_at_call 28; refine (CC _ HS1.out.gg).mono ?_; rintro e w2 ⟨rfl, hb2⟩; have HS2 := am (HS1.out.step hb2); clear hb2)
          | (go_at_call 23; (refine (check_no 190 _).mono ?_); rintro e w4 ⟨⟨sh, rfl⟩, hb4⟩; have HS4 := am (HS2.out.step hb4); clear hb4))
        exact ⟨rfl, rd_gives HS4.out HO2.out ⟨sh, rfl⟩⟩
      · have e1 := nonempty (s := ab) (by rw [had]; exact h1)
        by_cases h2 : av.length ≤ 8
        rotate_left
        · have HO2 := am (HO.out.trans (Ht.chunks_size hl (c := 190) (by rw [hps, if_neg (by rw [decide_eq_false h2]; simp)])))
          have e2 : decide ((ab.size : Int) ≤ 8) = false := decide_eq_false (by omega)
          clear hl hps had hmd h1 hcl
          go_wp2_with (first
            | (go_at_call 17; refine CL.mono ?_; rintro e w1 ⟨rfl, hr⟩; have HS1 := am (rd_hop HS.out hr); clear hr)
            | (go_at_call 28; refine (CC _ HS1.out.gg).mono ?_; rintro e w2 ⟨rfl, hb2⟩; have HS2 := am (HS1.out.step hb2); clear hb2)
            | (go_at_call 23; (refine (check_no 190 _).mono ?_); rintro e w4 ⟨⟨sh, rfl⟩, hb4⟩; have HS4 := am (HS2.out.step hb4); clear hb4))
          exact ⟨rfl, rd_gives HS4.out HO2.out ⟨sh, rfl⟩⟩
        have e2 : decide ((ab.size : Int) ≤ 8) = true := decide_eq_true (by omega)
        have CT := fun w' => trim_hex ab w' (by omega)
        by_cases h3 : av.all Ht.isHex = true
        rotate_left
        · have HO2 := am (HO.out.trans (Ht.chunks_size hl (c := 190) (by rw [hps, if_neg (by rw [Bool.eq_false_iff.mpr h3]; simp)])))
          have HX := am (show ab.data.toList.all Ht.isHex = false by rw [had]; exact Bool.eq_false_iff.mpr h3)
          clear hl hps had hmd h1 hcl h3
          go_wp2_with (first
            | (go_at_call 17; refine CL.mono ?_; rintro e w1 ⟨rfl, hr⟩; have HS1 := am (rd_hop HS.out hr); clear hr)
            | (go_at_call 28; refine (CC _ HS1.out.gg).mono ?_; rintro e w2 ⟨rfl, hb2⟩; have HS2 := am (HS1.out.step hb2); clear hb2)
            | (go_at_call 24; refine (CT _).mono ?_; rintro e w3 ⟨⟨tt, rfl, ht⟩, hb3⟩; have ht2 := nonempty (s := tt) (fun h => by have := ht.out.1 h; rw [HX.out] at this; cases this); have HS3 := am (HS2.out.step hb3); clear hb3 ht)
            | (go_at_call 23; (refine (check_no 190 _).mono ?_); rintro e w4 ⟨⟨sh, rfl⟩, hb4⟩; have HS4 := am (HS3.out.step hb4); clear hb4))
          exact ⟨rfl, rd_gives HS4.out HO2.out ⟨sh, rfl⟩⟩
        have HX := am (show ab.data.toList.all Ht.isHex = true by rw [had]; exact h3)
        have CV := fun w' => value_calls mb hmsz w'
        have hn32 := hexn_lt av h2 h3
        have CU := fun w' => parse_calls ab w' (by rw [had]; exact h1) (by omega) HX.out
        rw [had] at CU
        cases om with
        | none =>
          have hok : Ht.psize s = .ok (Ht.hexn av) := by rw [hps, if_pos]; rw [decide_eq_true h2, h3]; cases av with | nil => exact absurd rfl h1 | cons c av => rfl
          clear hps hcl had hmd h3 h1
          generalize Ht.hexn av = n at *
          by_cases h0 : n = 0
          · subst h0
            have HO2 := am (HO.out.trans (Ht.chunks_last hl hok))
            clear hl hok HO
            go_wp2_with (first
              | (go_at_call 17; refine CL.mono ?_; rintro e w1 ⟨rfl, hr⟩; have HS1 := am (rd_hop HS.out hr); clear hr)
              | (go_at_call 28; refine (CC _ HS1.out.gg).mono ?_; rintro e w2 ⟨rfl, hb2⟩; have HS2 := am (HS1.out.step hb2); clear hb2)
              | (go_at_call 24; refine (CT _).mono ?_; rintro e w3 ⟨⟨tt, rfl, ht⟩, hb3⟩; have ht2 := empty_mk (ht.out.2 HX.out); subst ht2; have HS3 := am (HS2.out.step hb3); clear hb3 ht)
              | (go_at_call 23; (refine (check_yes 190 _).mono ?_); rintro e w5 ⟨⟨v5, rfl⟩, hb5⟩; have HS5 := am (HS3.out.step hb5); clear hb5)
              | (go_at_call 36; refine (CU _).mono ?_; rintro e w6 ⟨rfl, hb6⟩; have HS6 := am (HS5.out.step hb6); clear hb6))
            go_loopg [10] 33 (fun kq v10 wx => ∃ (j i p2 : Nat), kq = j + 1 ∧ i + j = 32 ∧ v10 = .int .i64 (i : Int) ∧ p2 ≤ b.size ∧ Aside0 (Rd g b p2 w0 W wx) ∧ Aside0 (o = (Ht.ptrail j (b.data.toList.drop p2)).bind fun x => .ok (body.data.toList, x.2)))
            case atStart => exact ⟨32, 0, q, rfl, rfl, rfl, hq, HS6, HO2⟩
            case round =>
              clear HS6 HO2 HS1 HS2 HS3 HS5 CL CC CT CV CU HX
              obtain ⟨j, i, p2, rfl, hij, rfl, hp2, HT, HO⟩ := hrel
              cases hl : Ht.pline (b.data.toList.drop p2) with
              | bad c =>
                have CL := line_fell g b p2 w0 _ _ HT.out.here hp2 hb hl
                have HO2 := am (HO.out.trans (show _ = Ht.Out.bad c by rw [Ht.trail_bad hl]; rfl))
                clear hl
                go_wp2_with (go_at_call 17; refine CL.mono ?_; rintro e w1 ⟨⟨sh, rfl⟩, hr⟩; have HS1 := am (rd_hop HT.out hr); clear hr)
                exact ⟨rfl, rd_gives HS1.out HO2.out ⟨sh, rfl⟩⟩
              | ok z =>
                obtain ⟨s2, r⟩ := z
                obtain ⟨q2, hq2, _, rfl, hsl2, CL⟩ := line_good g b p2 w0 _ _ HT.out.here hp2 hb hl
                by_cases hs : s2 = []
                · subst hs
                  have HO2 := am (HO.out.trans (show _ = Ht.Out.ok (body.data.toList, b.data.toList.drop q2) by rw [Ht.trail_end hl]; rfl))
                  clear hl
                  go_wp2_with (go_at_call 17; refine CL.mono ?_; rintro e w1 ⟨rfl, hr⟩; have HS1 := am (rd_hop HT.out hr); clear hr)
                  go_ret
                  exact rd_done HS1.out hq2 HO2.out (by rw [Lib.mk_data]; rfl)
                · generalize hsb2 : (⟨s2.toArray⟩ : ByteArray) = sb2 at CL
                  have hsd2 : sb2.data.toList = s2 := by rw [← hsb2]
                  have hss2 : sb2.size < 2147483648 := by rw [← hsb2, size_mk]; omega
                  have hem2 := nonempty (s := sb2) (by rw [hsd2]; exact hs)
                  cases j with
                  | zero =>
                    obtain rfl : i = 32 := by omega
                    have HO2 := am (HO.out.trans (show _ = Ht.Out.bad 192 by rw [Ht.trail_full hl hs]; rfl))
                    clear hl hs
                    go_wp2_with (first
                      | (go_at_call 17; refine CL.mono ?_; rintro e w1 ⟨rfl, hr⟩; have HS1 := am (rd_hop HT.out hr); clear hr)
                      | (go_at_call 23; (refine (check_no 192 _).mono ?_); rintro e w2 ⟨⟨sh, rfl⟩, hb2⟩; have HS2 := am (HS1.out.step hb2); clear hb2))
                    exact ⟨rfl, rd_gives HS2.out HO2.out ⟨sh, rfl⟩⟩
                  | succ j =>
                    have hi : decide ((i : Int) < 32) = true := decide_eq_true (by omega)
                    cases hpp : Ht.ppair s2 with
                    | bad c =>
                      have CP := fun w' h => pair_fell sb2 w' hss2 h (c := c) (by rw [hsd2]; exact hpp)
                      have HO2 := am (HO.out.trans (show _ = Ht.Out.bad c by rw [Ht.trail_pbad hl hs hpp]; rfl))
                      clear hl hs hpp
                      go_wp2_with (first
                        | (go_at_call 17; refine CL.mono ?_; rintro e w1 ⟨rfl, hr⟩; have HS1 := am (rd_hop HT.out hr); clear hr)
                        | (go_at_call 23; (refine (check_yes 192 _).mono ?_); rintro e w2 ⟨⟨v2, rfl⟩, hb2⟩; have HS2 := am (HS1.out.step hb2); clear hb2)
                        | (go_at_call 32; refine (CP _ HS2.out.gg).mono ?_; rintro e w3 ⟨⟨sh, rfl⟩, hb3⟩; have HS3 := am (HS2.out.step hb3); clear hb3))
                      exact ⟨rfl, rd_gives HS3.out HO2.out ⟨sh, rfl⟩⟩
                    | ok pr =>
                      have CP := fun w' h => pair_good sb2 w' hss2 h (p := pr) (by rw [hsd2]; exact hpp)
                      have HO2 := am (HO.out.trans (show _ = (Ht.ptrail j (b.data.toList.drop q2)).bind (fun x => .ok (body.data.toList, x.2)) by rw [Ht.trail_next hl hs hpp]))
                      clear hl hs hpp
                      go_wp2_with (first
                        | (go_at_call 17; refine CL.mono ?_; rintro e w1 ⟨rfl, hr⟩; have HS1 := am (rd_hop HT.out hr); clear hr)
                        | (go_at_call 23; (refine (check_yes 192 _).mono ?_); rintro e w2 ⟨⟨v2, rfl⟩, hb2⟩; have HS2 := am (HS1.out.step hb2); clear hb2)
                        | (go_at_call 32; refine (CP _ HS2.out.gg).mono ?_; rintro e w3 ⟨rfl, hb3⟩; have HS3 := am (HS2.out.step hb3); clear hb3))
                      go_roundg (j + 1)
                      case measure => omega
                      case rel => exact ⟨j, i + 1, q2, rfl, by omega, (by first | rfl | (congr 1; omega)), hq2, HS3, HO2⟩
          · have e0 : (((n : Nat) : Int) == 0) = false := beq_eq_false_iff_ne.2 (by omega)
            have hw1 : IntKind.u64.wrap (131072 - (body.size : Int)) = 131072 - (body.size : Int) := by rw [IntKind.wrap_u64]; omega
            by_cases hm : n ≤ 131072 - body.size
            rotate_left
            · have HO2 := am (HO.out.trans (Ht.chunks_much hl hok h0 (by rw [hbl]; exact hm)))
              have e3 : decide ((n : Int) ≤ 131072 - (body.size : Int)) = false := decide_eq_false (by omega)
              clear hl hok HO
              go_wp2_with (first
                | (go_at_call 17; refine CL.mono ?_; rintro e w1 ⟨rfl, hr⟩; have HS1 := am (rd_hop HS.out hr); clear hr)
                | (go_at_call 28; refine (CC _ HS1.out.gg).mono ?_; rintro e w2 ⟨rfl, hb2⟩; have HS2 := am (HS1.out.step hb2); clear hb2)
                | (go_at_call 24; refine (CT _).mono ?_; rintro e w3 ⟨⟨tt, rfl, ht⟩, hb3⟩; have ht2 := empty_mk (ht.out.2 HX.out); subst ht2; have HS3 := am (HS2.out.step hb3); clear hb3 ht)
                | (go_at_call 23; (refine (check_yes 190 _).mono ?_); rintro e w5 ⟨⟨v5, rfl⟩, hb5⟩; have HS5 := am (HS3.out.step hb5); clear hb5)
                | (go_at_call 36; refine (CU _).mono ?_; rintro e w6 ⟨rfl, hb6⟩; have HS6 := am (HS5.out.step hb6); clear hb6)
                | (go_at_call 23; (refine (check_no 191 _).mono ?_); rintro e w7 ⟨⟨sh, rfl⟩, hb7⟩; have HS7 := am (HS6.out.step hb7); clear hb7))
              exact ⟨rfl, rd_gives HS7.out HO2.out ⟨sh, rfl⟩⟩
            have e3 : decide ((n : Int) ≤ 131072 - (body.size : Int)) = true := decide_eq_true (by omega)
            have hw2 : IntKind.i64.wrap (n : Int) = n := IntWalk.i64_in _ (by omega)
            by_cases hn : b.size - q < n
            · have HO2 := am (HO.out.trans (Ht.chunks_short hl hok h0 (by rw [hbl]; exact hm) (by rw [hlq]; exact hn)))
              clear hl hok HO
              go_wp2_with (first
                | (go_at_call 17; refine CL.mono ?_; rintro e w1 ⟨rfl, hr⟩; have HS1 := am (rd_hop HS.out hr); clear hr)
                | (go_at_call 28; refine (CC _ HS1.out.gg).mono ?_; rintro e w2 ⟨rfl, hb2⟩; have HS2 := am (HS1.out.step hb2); clear hb2)
                | (go_at_call 24; refine (CT _).mono ?_; rintro e w3 ⟨⟨tt, rfl, ht⟩, hb3⟩; have ht2 := empty_mk (ht.out.2 HX.out); subst ht2; have HS3 := am (HS2.out.step hb3); clear hb3 ht)
                | (go_at_call 23; (refine (check_yes 190 _).mono ?_); rintro e w5 ⟨⟨v5, rfl⟩, hb5⟩; have HS5 := am (HS3.out.step hb5); clear hb5)
                | (go_at_call 36; refine (CU _).mono ?_; rintro e w6 ⟨rfl, hb6⟩; have HS6 := am (HS5.out.step hb6); clear hb6)
                | (go_at_call 23; (refine (check_yes 191 _).mono ?_); rintro e w7 ⟨⟨v7, rfl⟩, hb7⟩; have HS7 := am (HS6.out.step hb7); clear hb7)
                | (go_at_call 20; refine (bytes_bad g n b q w0 _ _ HS7.out.here hq hb hn (by omega)).mono ?_; rintro e w8 ⟨⟨sh, rfl⟩, hr⟩; have HS8 := am (rd_hop HS7.out hr); clear hr))
              exact ⟨rfl, rd_gives HS8.out HO2.out ⟨sh, rfl⟩⟩
            · have CB := fun w' h => bytes_ok g n b q w0 w' w' h hq hb (by omega)
              have hxd : (b.extract q (q + n)).data.toList = (b.data.toList.drop q).take n := by rw [Lib.extract_data, Nat.add_sub_cancel_left]
              have hxs : (b.extract q (q + n)).size = n := by rw [ByteArray.size_extract]; omega
              generalize hx : b.extract q (q + n) = x at CB hxd hxs
              have hdd : (b.data.toList.drop q).drop n = b.data.toList.drop (q + n) := by rw [List.drop_drop]
              have hun : q + n ≤ b.size := by omega
              have hcr := Ht.crlf_cases (b.data.toList.drop (q + n))
              have hlu : (b.data.toList.drop (q + n)).length = b.size - (q + n) := by rw [List.length_drop, ← Lib.size_eq]
              have HE : Aside0 (∀ c, Ht.pcrlf (b.data.toList.drop (q + n)) = .bad c → Ht.pchunks (f + 1) body.data.toList (b.data.toList.drop p) = .bad c) := am (fun c h => Ht.chunks_odd hl hok h0 (by rw [hbl]; exact hm) (by rw [hlq]; exact hn) (by rw [hdd]; exact h))
              have HN : Aside0 (∀ t, Ht.pcrlf (b.data.toList.drop (q + n)) = .ok ((), t) → Ht.pchunks (f + 1) body.data.toList (b.data.toList.drop p) = Ht.pchunks f (body ++ x).data.toList t) := am (fun t h => by
                rw [Ht.chunks_next hl hok h0 (by rw [hbl]; exact hm) (by rw [hlq]; exact hn) (t := t) (by rw [hdd]; exact h), ByteArray.data_append, Array.toList_append, hxd])
              have e5 : (9223372036854775807 < body.size + x.size) = False := eq_false (by omega)
              have e7 : (body ++ x).size = body.size + n := by rw [ByteArray.size_append, hxs]
              clear hdd hl hok hxd hx hlq
              generalize q + n = u at *
              have e8 : (0 : Int) ≤ u := by omega
              rcases hcr with ⟨hc, hpf⟩ | ⟨hc, hpf, hge⟩ | ⟨hc, hpf, hge⟩
              · have HO2 := am (HO.out.trans (HE.out _ hc))
                clear HE HN hc
                by_cases hu2 : u + 2 ≤ b.size
                · rw [← en_two b u hu2] at hpf
                  have CP := fun w' => crlf_calls (b.extract u (u + 2)) w'
                  rw [hpf] at CP
                  have e6 : (u : Int) + 2 ≤ b.size := by omega
                  have e9 : (u : Int) ≤ (u : Int) + 2 := by omega
                  clear hpf
                  go_upto_region 8 with (first
                    | (go_at_call 17; refine CL.mono ?_; rintro e w1 ⟨rfl, hr⟩; have HS1 := am (rd_hop HS.out hr); clear hr)
                    | (go_at_call 28; refine (CC _ HS1.out.gg).mono ?_; rintro e w2 ⟨rfl, hb2⟩; have HS2 := am (HS1.out.step hb2); clear hb2)
                    | (go_at_call 24; refine (CT _).mono ?_; rintro e w3 ⟨⟨tt, rfl, ht⟩, hb3⟩; have ht2 := empty_mk (ht.out.2 HX.out); subst ht2; have HS3 := am (HS2.out.step hb3); clear hb3 ht)
                    | (go_at_call 23; (refine (check_yes 190 _).mono ?_); rintro e w5 ⟨⟨v5, rfl⟩, hb5⟩; have HS5 := am (HS3.out.step hb5); clear hb5)
                    | (go_at_call 36; refine (CU _).mono ?_; rintro e w6 ⟨rfl, hb6⟩; have HS6 := am (HS5.out.step hb6); clear hb6)
                    | (go_at_call 23; (refine (check_yes 191 _).mono ?_); rintro e w7 ⟨⟨v7, rfl⟩, hb7⟩; have HS7 := am (HS6.out.step hb7); clear hb7)
                    | (go_at_call 20; refine (CB _ HS7.out.here).mono ?_; rintro e w8 ⟨rfl, hr⟩; have HS8 := am (rd_hop HS7.out hr); clear hr; obtain ⟨c0, c1, f0, f1⟩ := cz2 HS8.out.hc))
                  go_region
                  go_wp2_with (first
                    | (go_at_call 25; refine (CP _).mono ?_; rintro e wa ⟨rfl, hba⟩; have HSA := am ((rdw HS8.out : Rd g b u w0 W _).step hba); clear hba)
                    | (go_at_call 23; (refine (check_no 190 _).mono ?_); rintro e wb ⟨⟨sh, rfl⟩, hbb⟩; have HSB := am (HSA.out.step hbb); clear hbb))
                  exact ⟨rfl, rd_gives HSB.out HO2.out ⟨sh, rfl⟩⟩
                · rw [← en_one b u (by omega)] at hpf
                  have CP := fun w' => crlf_calls (b.extract u b.size) w'
                  rw [hpf] at CP
                  have e6 : ¬ (u : Int) + 2 ≤ b.size := by omega
                  have e9 : (u : Int) ≤ b.size := by omega
                  clear hpf
                  go_upto_region 8 with (first
                    | (go_at_call 17; refine CL.mono ?_; rintro e w1 ⟨rfl, hr⟩; have HS1 := am (rd_hop HS.out hr); clear hr)
                    | (go_at_call 28; refine (CC _ HS1.out.gg).mono ?_; rintro e w2 ⟨rfl, hb2⟩; have HS2 := am (HS1.out.step hb2); clear hb2)
                    | (go_at_call 24; refine (CT _).mono ?_; rintro e w3 ⟨⟨tt, rfl, ht⟩, hb3⟩; have ht2 := empty_mk (ht.out.2 HX.out); subst ht2; have HS3 := am (HS2.out.step hb3); clear hb3 ht)
                    | (go_at_call 23; (refine (check_yes 190 _).mono ?_); rintro e w5 ⟨⟨v5, rfl⟩, hb5⟩; have HS5 := am (HS3.out.step hb5); clear hb5)
                    | (go_at_call 36; refine (CU _).mono ?_; rintro e w6 ⟨rfl, hb6⟩; have HS6 := am (HS5.out.step hb6); clear hb6)
                    | (go_at_call 23; (refine (check_yes 191 _).mono ?_); rintro e w7 ⟨⟨v7, rfl⟩, hb7⟩; have HS7 := am (HS6.out.step hb7); clear hb7)
                    | (go_at_call 20; refine (CB _ HS7.out.here).mono ?_; rintro e w8 ⟨rfl, hr⟩; have HS8 := am (rd_hop HS7.out hr); clear hr; obtain ⟨c0, c1, f0, f1⟩ := cz2 HS8.out.hc))
                  go_region
                  go_wp2_with (first
                    | (go_at_call 25; refine (CP _).mono ?_; rintro e wa ⟨rfl, hba⟩; have HSA := am ((rdw HS8.out : Rd g b u w0 W _).step hba); clear hba)
                    | (go_at_call 23; (refine (check_no 190 _).mono ?_); rintro e wb ⟨⟨sh, rfl⟩, hbb⟩; have HSB := am (HSA.out.step hbb); clear hbb))
                  exact ⟨rfl, rd_gives HSB.out HO2.out ⟨sh, rfl⟩⟩
              · have HO2 := am (HO.out.trans (HE.out _ hc))
                rw [hlu] at hge
                clear HE HN hc
                · rw [← en_one b u (by omega)] at hpf
                  have CP := fun w' => crlf_calls (b.extract u b.size) w'
                  rw [hpf] at CP
                  have e6 : ¬ (u : Int) + 2 ≤ b.size := by omega
                  have e9 : (u : Int) ≤ b.size := by omega
                  clear hpf
                  go_upto_region 8 with (first
                    | (go_at_call 17; refine CL.mono ?_; rintro e w1 ⟨rfl, hr⟩; have HS1 := am (rd_hop HS.out hr); clear hr)
                    | (go_at_call 28; refine (CC _ HS1.out.gg).mono ?_; rintro e w2 ⟨rfl, hb2⟩; have HS2 := am (HS1.out.step hb2); clear hb2)
                    | (go_at_call 24; refine (CT _).mono ?_; rintro e w3 ⟨⟨tt, rfl, ht⟩, hb3⟩; have ht2 := empty_mk (ht.out.2 HX.out); subst ht2; have HS3 := am (HS2.out.step hb3); clear hb3 ht)
                    | (go_at_call 23; (refine (check_yes 190 _).mono ?_); rintro e w5 ⟨⟨v5, rfl⟩, hb5⟩; have HS5 := am (HS3.out.step hb5); clear hb5)
                    | (go_at_call 36; refine (CU _).mono ?_; rintro e w6 ⟨rfl, hb6⟩; have HS6 := am (HS5.out.step hb6); clear hb6)
                    | (go_at_call 23; (refine (check_yes 191 _).mono ?_); rintro e w7 ⟨⟨v7, rfl⟩, hb7⟩; have HS7 := am (HS6.out.step hb7); clear hb7)
                    | (go_at_call 20; refine (CB _ HS7.out.here).mono ?_; rintro e w8 ⟨rfl, hr⟩; have HS8 := am (rd_hop HS7.out hr); clear hr; obtain ⟨c0, c1, f0, f1⟩ := cz2 HS8.out.hc))
                  go_region
                  go_wp2_with (first
                    | (go_at_call 25; refine (CP _).mono ?_; rintro e wa ⟨rfl, hba⟩; have HSA := am ((rdw HS8.out : Rd g b u w0 W _).step hba); clear hba)
                    | (go_at_call 23; (refine (check_yes 190 _).mono ?_); rintro e wb ⟨⟨vb, rfl⟩, hbb⟩; have HSB := am (HSA.out.step hbb); clear hbb)
                    | (go_at_call 20; refine (bytes_bad g 2 b u w0 _ _ HSB.out.here hun hb hge (by omega)).mono ?_; rintro e wc ⟨⟨sh, rfl⟩, hr⟩; have HSC := am (rd_hop HSB.out hr); clear hr))
                  exact ⟨rfl, rd_gives HSC.out HO2.out ⟨sh, rfl⟩⟩
              · have HO2 := am (HO.out.trans (HN.out _ hc))
                rw [hlu] at hge
                clear HE HN hc
                · rw [← en_two b u (by omega)] at hpf
                  have CP := fun w' => crlf_calls (b.extract u (u + 2)) w'
                  rw [hpf] at CP
                  have e6 : (u : Int) + 2 ≤ b.size := by omega
                  have e9 : (u : Int) ≤ (u : Int) + 2 := by omega
                  clear hpf
                  go_upto_region 8 with (first
                    | (go_at_call 17; refine CL.mono ?_; rintro e w1 ⟨rfl, hr⟩; have HS1 := am (rd_hop HS.out hr); clear hr)
                    | (go_at_call 28; refine (CC _ HS1.out.gg).mono ?_; rintro e w2 ⟨rfl, hb2⟩; have HS2 := am (HS1.out.step hb2); clear hb2)
                    | (go_at_call 24; refine (CT _).mono ?_; rintro e w3 ⟨⟨tt, rfl, ht⟩, hb3⟩; have ht2 := empty_mk (ht.out.2 HX.out); subst ht2; have HS3 := am (HS2.out.step hb3); clear hb3 ht)
                    | (go_at_call 23; (refine (check_yes 190 _).mono ?_); rintro e w5 ⟨⟨v5, rfl⟩, hb5⟩; have HS5 := am (HS3.out.step hb5); clear hb5)
                    | (go_at_call 36; refine (CU _).mono ?_; rintro e w6 ⟨rfl, hb6⟩; have HS6 := am (HS5.out.step hb6); clear hb6)
                    | (go_at_call 23; (refine (check_yes 191 _).mono ?_); rintro e w7 ⟨⟨v7, rfl⟩, hb7⟩; have HS7 := am (HS6.out.step hb7); clear hb7)
                    | (go_at_call 20; refine (CB _ HS7.out.here).mono ?_; rintro e w8 ⟨rfl, hr⟩; have HS8 := am (rd_hop HS7.out hr); clear hr; obtain ⟨c0, c1, f0, f1⟩ := cz2 HS8.out.hc))
                  go_region
                  go_wp2_with (first
                    | (go_at_call 25; refine (CP _).mono ?_; rintro e wa ⟨rfl, hba⟩; have HSA := am ((rdw HS8.out : Rd g b u w0 W _).step hba); clear hba)
                    | (go_at_call 23; (refine (check_yes 190 _).mono ?_); rintro e wb ⟨⟨vb, rfl⟩, hbb⟩; have HSB := am (HSA.out.step hbb); clear hbb)
                    | (go_at_call 20; refine (bytes_ok g 2 b u w0 _ _ HSB.out.here hun hb (by omega)).mono ?_; rintro e wc ⟨rfl, hr⟩; have HSC := am (rd_hop HSB.out hr); clear hr))
                  rw [List.drop_drop] at HO2
                  go_roundg f
                  case measure => omega
                  case rel => exact ⟨u + 2, body ++ x, rfl, by omega, by omega, by omega, HSC, HO2⟩
        | some mo =>
          by_cases h4 : Ht.value mo = true
          rotate_left
          · have HO2 := am (HO.out.trans (Ht.chunks_size hl (c := 190) (by rw [hps, if_neg (by rw [show Ht.value ((some mo).getD []) = false from Bool.eq_false_iff.mpr h4]; simp)])))
            rw [hmd, show Ht.value ((some mo).getD []) = false from Bool.eq_false_iff.mpr h4] at CV
            clear hl hps had hmd h1 hcl h3 h4
            go_wp2_with (first
              | (go_at_call 17; refine CL.mono ?_; rintro e w1 ⟨rfl, hr⟩; have HS1 := am (rd_hop HS.out hr); clear hr)
              | (go_at_call 28; refine (CC _ HS1.out.gg).mono ?_; rintro e w2 ⟨rfl, hb2⟩; have HS2 := am (HS1.out.step hb2); clear hb2)
              | (go_at_call 24; refine (CT _).mono ?_; rintro e w3 ⟨⟨tt, rfl, ht⟩, hb3⟩; have ht2 := empty_mk (ht.out.2 HX.out); subst ht2; have HS3 := am (HS2.out.step hb3); clear hb3 ht)
              | (go_at_call 35; refine (CV _).mono ?_; rintro e w9 ⟨rfl, hb9⟩; have HS9 := am (HS3.out.step hb9); clear hb9)
              | (go_at_call 23; (refine (check_no 190 _).mono ?_); rintro e w4 ⟨⟨sh, rfl⟩, hb4⟩; have HS4 := am (HS9.out.step hb4); clear hb4))
            exact ⟨rfl, rd_gives HS4.out HO2.out ⟨sh, rfl⟩⟩
          rw [hmd, show Ht.value ((some mo).getD []) = true from h4] at CV
          have hok : Ht.psize s = .ok (Ht.hexn av) := by rw [hps, if_pos]; rw [decide_eq_true h2, h3, show Ht.value ((some mo).getD []) = true from h4]; cases av with | nil => exact absurd rfl h1 | cons c av => rfl
          clear hps hcl had hmd h3 h1 h4
          generalize Ht.hexn av = n at *
          by_cases h0 : n = 0
          · subst h0
            have HO2 := am (HO.out.trans (Ht.chunks_last hl hok))
            clear hl hok HO
            go_wp2_with (first
              | (go_at_call 17; refine CL.mono ?_; rintro e w1 ⟨rfl, hr⟩; have HS1 := am (rd_hop HS.out hr); clear hr)
              | (go_at_call 28; refine (CC _ HS1.out.gg).mono ?_; rintro e w2 ⟨rfl, hb2⟩; have HS2 := am (HS1.out.step hb2); clear hb2)
              | (go_at_call 24; refine (CT _).mono ?_; rintro e w3 ⟨⟨tt, rfl, ht⟩, hb3⟩; have ht2 := empty_mk (ht.out.2 HX.out); subst ht2; have HS3 := am (HS2.out.step hb3); clear hb3 ht)
              | (go_at_call 35; refine (CV _).mono ?_; rintro e w9 ⟨rfl, hb9⟩; have HS9 := am (HS3.out.step hb9); clear hb9)
              | (go_at_call 23; (refine (check_yes 190 _).mono ?_); rintro e w5 ⟨⟨v5, rfl⟩, hb5⟩; have HS5 := am (HS9.out.step hb5); clear hb5)
              | (go_at_call 36; refine (CU _).mono ?_; rintro e w6 ⟨rfl, hb6⟩; have HS6 := am (HS5.out.step hb6); clear hb6))
            go_loopg [10] 33 (fun kq v10 wx => ∃ (j i p2 : Nat), kq = j + 1 ∧ i + j = 32 ∧ v10 = .int .i64 (i : Int) ∧ p2 ≤ b.size ∧ Aside0 (Rd g b p2 w0 W wx) ∧ Aside0 (o = (Ht.ptrail j (b.data.toList.drop p2)).bind fun x => .ok (body.data.toList, x.2)))
            case atStart => exact ⟨32, 0, q, rfl, rfl, rfl, hq, HS6, HO2⟩
            case round =>
              clear HS6 HO2 HS1 HS2 HS3 HS5 HS9 CL CC CT CV CU HX
              obtain ⟨j, i, p2, rfl, hij, rfl, hp2, HT, HO⟩ := hrel
              cases hl : Ht.pline (b.data.toList.drop p2) with
              | bad c =>
                have CL := line_fell g b p2 w0 _ _ HT.out.here hp2 hb hl
                have HO2 := am (HO.out.trans (show _ = Ht.Out.bad c by rw [Ht.trail_bad hl]; rfl))
                clear hl
                go_wp2_with (go_at_call 17; refine CL.mono ?_; rintro e w1 ⟨⟨sh, rfl⟩, hr⟩; have HS1 := am (rd_hop HT.out hr); clear hr)
                exact ⟨rfl, rd_gives HS1.out HO2.out ⟨sh, rfl⟩⟩
              | ok z =>
                obtain ⟨s2, r⟩ := z
                obtain ⟨q2, hq2, _, rfl, hsl2, CL⟩ := line_good g b p2 w0 _ _ HT.out.here hp2 hb hl
                by_cases hs : s2 = []
                · subst hs
                  have HO2 := am (HO.out.trans (show _ = Ht.Out.ok (body.data.toList, b.data.toList.drop q2) by rw [Ht.trail_end hl]; rfl))
                  clear hl
                  go_wp2_with (go_at_call 17; refine CL.mono ?_; rintro e w1 ⟨rfl, hr⟩; have HS1 := am (rd_hop HT.out hr); clear hr)
                  go_ret
                  exact rd_done HS1.out hq2 HO2.out (by rw [Lib.mk_data]; rfl)
                · generalize hsb2 : (⟨s2.toArray⟩ : ByteArray) = sb2 at CL
                  have hsd2 : sb2.data.toList = s2 := by rw [← hsb2]
                  have hss2 : sb2.size < 2147483648 := by rw [← hsb2, size_mk]; omega
                  have hem2 := nonempty (s := sb2) (by rw [hsd2]; exact hs)
                  cases j with
                  | zero =>
                    obtain rfl : i = 32 := by omega
                    have HO2 := am (HO.out.trans (show _ = Ht.Out.bad 192 by rw [Ht.trail_full hl hs]; rfl))
                    clear hl hs
                    go_wp2_with (first
                      | (go_at_call 17; refine CL.mono ?_; rintro e w1 ⟨rfl, hr⟩; have HS1 := am (rd_hop HT.out hr); clear hr)
                      | (go_at_call 23; (refine (check_no 192 _).mono ?_); rintro e w2 ⟨⟨sh, rfl⟩, hb2⟩; have HS2 := am (HS1.out.step hb2); clear hb2))
                    exact ⟨rfl, rd_gives HS2.out HO2.out ⟨sh, rfl⟩⟩
                  | succ j =>
                    have hi : decide ((i : Int) < 32) = true := decide_eq_true (by omega)
                    cases hpp : Ht.ppair s2 with
                    | bad c =>
                      have CP := fun w' h => pair_fell sb2 w' hss2 h (c := c) (by rw [hsd2]; exact hpp)
                      have HO2 := am (HO.out.trans (show _ = Ht.Out.bad c by rw [Ht.trail_pbad hl hs hpp]; rfl))
                      clear hl hs hpp
                      go_wp2_with (first
                        | (go_at_call 17; refine CL.mono ?_; rintro e w1 ⟨rfl, hr⟩; have HS1 := am (rd_hop HT.out hr); clear hr)
                        | (go_at_call 23; (refine (check_yes 192 _).mono ?_); rintro e w2 ⟨⟨v2, rfl⟩, hb2⟩; have HS2 := am (HS1.out.step hb2); clear hb2)
                        | (go_at_call 32; refine (CP _ HS2.out.gg).mono ?_; rintro e w3 ⟨⟨sh, rfl⟩, hb3⟩; have HS3 := am (HS2.out.step hb3); clear hb3))
                      exact ⟨rfl, rd_gives HS3.out HO2.out ⟨sh, rfl⟩⟩
                    | ok pr =>
                      have CP := fun w' h => pair_good sb2 w' hss2 h (p := pr) (by rw [hsd2]; exact hpp)
                      have HO2 := am (HO.out.trans (show _ = (Ht.ptrail j (b.data.toList.drop q2)).bind (fun x => .ok (body.data.toList, x.2)) by rw [Ht.trail_next hl hs hpp]))
                      clear hl hs hpp
                      go_wp2_with (first
                        | (go_at_call 17; refine CL.mono ?_; rintro e w1 ⟨rfl, hr⟩; have HS1 := am (rd_hop HT.out hr); clear hr)
                        | (go_at_call 23; (refine (check_yes 192 _).mono ?_); rintro e w2 ⟨⟨v2, rfl⟩, hb2⟩; have HS2 := am (HS1.out.step hb2); clear hb2)
                        | (go_at_call 32; refine (CP _ HS2.out.gg).mono ?_; rintro e w3 ⟨rfl, hb3⟩; have HS3 := am (HS2.out.step hb3); clear hb3))
                      go_roundg (j + 1)
                      case measure => omega
                      case rel => exact ⟨j, i + 1, q2, rfl, by omega, (by first | rfl | (congr 1; omega)), hq2, HS3, HO2⟩
          · have e0 : (((n : Nat) : Int) == 0) = false := beq_eq_false_iff_ne.2 (by omega)
            have hw1 : IntKind.u64.wrap (131072 - (body.size : Int)) = 131072 - (body.size : Int) := by rw [IntKind.wrap_u64]; omega
            by_cases hm : n ≤ 131072 - body.size
            rotate_left
            · have HO2 := am (HO.out.trans (Ht.chunks_much hl hok h0 (by rw [hbl]; exact hm)))
              have e3 : decide ((n : Int) ≤ 131072 - (body.size : Int)) = false := decide_eq_false (by omega)
              clear hl hok HO
              go_wp2_with (first
                | (go_at_call 17; refine CL.mono ?_; rintro e w1 ⟨rfl, hr⟩; have HS1 := am (rd_hop HS.out hr); clear hr)
                | (go_at_call 28; refine (CC _ HS1.out.gg).mono ?_; rintro e w2 ⟨rfl, hb2⟩; have HS2 := am (HS1.out.step hb2); clear hb2)
                | (go_at_call 24; refine (CT _).mono ?_; rintro e w3 ⟨⟨tt, rfl, ht⟩, hb3⟩; have ht2 := empty_mk (ht.out.2 HX.out); subst ht2; have HS3 := am (HS2.out.step hb3); clear hb3 ht)
                | (go_at_call 35; refine (CV _).mono ?_; rintro e w9 ⟨rfl, hb9⟩; have HS9 := am (HS3.out.step hb9); clear hb9)
                | (go_at_call 23; (refine (check_yes 190 _).mono ?_); rintro e w5 ⟨⟨v5, rfl⟩, hb5⟩; have HS5 := am (HS9.out.step hb5); clear hb5)
                | (go_at_call 36; refine (CU _).mono ?_; rintro e w6 ⟨rfl, hb6⟩; have HS6 := am (HS5.out.step hb6); clear hb6)
                | (go_at_call 23; (refine (check_no 191 _).mono ?_); rintro e w7 ⟨⟨sh, rfl⟩, hb7⟩; have HS7 := am (HS6.out.step hb7); clear hb7))
              exact ⟨rfl, rd_gives HS7.out HO2.out ⟨sh, rfl⟩⟩
            have e3 : decide ((n : Int) ≤ 131072 - (body.size : Int)) = true := decide_eq_true (by omega)
            have hw2 : IntKind.i64.wrap (n : Int) = n := IntWalk.i64_in _ (by omega)
            by_cases hn : b.size - q < n
            · have HO2 := am (HO.out.trans (Ht.chunks_short hl hok h0 (by rw [hbl]; exact hm) (by rw [hlq]; exact hn)))
              clear hl hok HO
              go_wp2_with (first
                | (go_at_call 17; refine CL.mono ?_; rintro e w1 ⟨rfl, hr⟩; have HS1 := am (rd_hop HS.out hr); clear hr)
                | (go_at_call 28; refine (CC _ HS1.out.gg).mono ?_; rintro e w2 ⟨rfl, hb2⟩; have HS2 := am (HS1.out.step hb2); clear hb2)
                | (go_at_call 24; refine (CT _).mono ?_; rintro e w3 ⟨⟨tt, rfl, ht⟩, hb3⟩; have ht2 := empty_mk (ht.out.2 HX.out); subst ht2; have HS3 := am (HS2.out.step hb3); clear hb3 ht)
                | (go_at_call 35; refine (CV _).mono ?_; rintro e w9 ⟨rfl, hb9⟩; have HS9 := am (HS3.out.step hb9); clear hb9)
                | (go_at_call 23; (refine (check_yes 190 _).mono ?_); rintro e w5 ⟨⟨v5, rfl⟩, hb5⟩; have HS5 := am (HS9.out.step hb5); clear hb5)
                | (go_at_call 36; refine (CU _).mono ?_; rintro e w6 ⟨rfl, hb6⟩; have HS6 := am (HS5.out.step hb6); clear hb6)
                | (go_at_call 23; (refine (check_yes 191 _).mono ?_); rintro e w7 ⟨⟨v7, rfl⟩, hb7⟩; have HS7 := am (HS6.out.step hb7); clear hb7)
                | (go_at_call 20; refine (bytes_bad g n b q w0 _ _ HS7.out.here hq hb hn (by omega)).mono ?_; rintro e w8 ⟨⟨sh, rfl⟩, hr⟩; have HS8 := am (rd_hop HS7.out hr); clear hr))
              exact ⟨rfl, rd_gives HS8.out HO2.out ⟨sh, rfl⟩⟩
            · have CB := fun w' h => bytes_ok g n b q w0 w' w' h hq hb (by omega)
              have hxd : (b.extract q (q + n)).data.toList = (b.data.toList.drop q).take n := by rw [Lib.extract_data, Nat.add_sub_cancel_left]
              have hxs : (b.extract q (q + n)).size = n := by rw [ByteArray.size_extract]; omega
              generalize hx : b.extract q (q + n) = x at CB hxd hxs
              have hdd : (b.data.toList.drop q).drop n = b.data.toList.drop (q + n) := by rw [List.drop_drop]
              have hun : q + n ≤ b.size := by omega
              have hcr := Ht.crlf_cases (b.data.toList.drop (q + n))
              have hlu : (b.data.toList.drop (q + n)).length = b.size - (q + n) := by rw [List.length_drop, ← Lib.size_eq]
              have HE : Aside0 (∀ c, Ht.pcrlf (b.data.toList.drop (q + n)) = .bad c → Ht.pchunks (f + 1) body.data.toList (b.data.toList.drop p) = .bad c) := am (fun c h => Ht.chunks_odd hl hok h0 (by rw [hbl]; exact hm) (by rw [hlq]; exact hn) (by rw [hdd]; exact h))
              have HN : Aside0 (∀ t, Ht.pcrlf (b.data.toList.drop (q + n)) = .ok ((), t) → Ht.pchunks (f + 1) body.data.toList (b.data.toList.drop p) = Ht.pchunks f (body ++ x).data.toList t) := am (fun t h => by
                rw [Ht.chunks_next hl hok h0 (by rw [hbl]; exact hm) (by rw [hlq]; exact hn) (t := t) (by rw [hdd]; exact h), ByteArray.data_append, Array.toList_append, hxd])
              have e5 : (9223372036854775807 < body.size + x.size) = False := eq_false (by omega)
              have e7 : (body ++ x).size = body.size + n := by rw [ByteArray.size_append, hxs]
              clear hdd hl hok hxd hx hlq
              generalize q + n = u at *
              have e8 : (0 : Int) ≤ u := by omega
              rcases hcr with ⟨hc, hpf⟩ | ⟨hc, hpf, hge⟩ | ⟨hc, hpf, hge⟩
              · have HO2 := am (HO.out.trans (HE.out _ hc))
                clear HE HN hc
                by_cases hu2 : u + 2 ≤ b.size
                · rw [← en_two b u hu2] at hpf
                  have CP := fun w' => crlf_calls (b.extract u (u + 2)) w'
                  rw [hpf] at CP
                  have e6 : (u : Int) + 2 ≤ b.size := by omega
                  have e9 : (u : Int) ≤ (u : Int) + 2 := by omega
                  clear hpf
                  go_upto_region 8 with (first
                    | (go_at_call 17; refine CL.mono ?_; rintro e w1 ⟨rfl, hr⟩; have HS1 := am (rd_hop HS.out hr); clear hr)
                    | (go_at_call 28; refine (CC _ HS1.out.gg).mono ?_; rintro e w2 ⟨rfl, hb2⟩; have HS2 := am (HS1.out.step hb2); clear hb2)
                    | (go_at_call 24; refine (CT _).mono ?_; rintro e w3 ⟨⟨tt, rfl, ht⟩, hb3⟩; have ht2 := empty_mk (ht.out.2 HX.out); subst ht2; have HS3 := am (HS2.out.step hb3); clear hb3 ht)
                    | (go_at_call 35; refine (CV _).mono ?_; rintro e w9 ⟨rfl, hb9⟩; have HS9 := am (HS3.out.step hb9); clear hb9)
                    | (go_at_call 23; (refine (check_yes 190 _).mono ?_); rintro e w5 ⟨⟨v5, rfl⟩, hb5⟩; have HS5 := am (HS9.out.step hb5); clear hb5)
                    | (go_at_call 36; refine (CU _).mono ?_; rintro e w6 ⟨rfl, hb6⟩; have HS6 := am (HS5.out.step hb6); clear hb6)
                    | (go_at_call 23; (refine (check_yes 191 _).mono ?_); rintro e w7 ⟨⟨v7, rfl⟩, hb7⟩; have HS7 := am (HS6.out.step hb7); clear hb7)
                    | (go_at_call 20; refine (CB _ HS7.out.here).mono ?_; rintro e w8 ⟨rfl, hr⟩; have HS8 := am (rd_hop HS7.out hr); clear hr; obtain ⟨c0, c1, f0, f1⟩ := cz2 HS8.out.hc))
                  go_region
                  go_wp2_with (first
                    | (go_at_call 25; refine (CP _).mono ?_; rintro e wa ⟨rfl, hba⟩; have HSA := am ((rdw HS8.out : Rd g b u w0 W _).step hba); clear hba)
                    | (go_at_call 23; (refine (check_no 190 _).mono ?_); rintro e wb ⟨⟨sh, rfl⟩, hbb⟩; have HSB := am (HSA.out.step hbb); clear hbb))
                  exact ⟨rfl, rd_gives HSB.out HO2.out ⟨sh, rfl⟩⟩
                · rw [← en_one b u (by omega)] at hpf
                  have CP := fun w' => crlf_calls (b.extract u b.size) w'
                  rw [hpf] at CP
                  have e6 : ¬ (u : Int) + 2 ≤ b.size := by omega
                  have e9 : (u : Int) ≤ b.size := by omega
                  clear hpf
                  go_upto_region 8 with (first
                    | (go_at_call 17; refine CL.mono ?_; rintro e w1 ⟨rfl, hr⟩; have HS1 := am (rd_hop HS.out hr); clear hr)
                    | (go_at_call 28; refine (CC _ HS1.out.gg).mono ?_; rintro e w2 ⟨rfl, hb2⟩; have HS2 := am (HS1.out.step hb2); clear hb2)
                    | (go_at_call 24; refine (CT _).mono ?_; rintro e w3 ⟨⟨tt, rfl, ht⟩, hb3⟩; have ht2 := empty_mk (ht.out.2 HX.out); subst ht2; have HS3 := am (HS2.out.step hb3); clear hb3 ht)
                    | (go_at_call 35; refine (CV _).mono ?_; rintro e w9 ⟨rfl, hb9⟩; have HS9 := am (HS3.out.step hb9); clear hb9)
                    | (go_at_call 23; (refine (check_yes 190 _).mono ?_); rintro e w5 ⟨⟨v5, rfl⟩, hb5⟩; have HS5 := am (HS9.out.step hb5); clear hb5)
                    | (go_at_call 36; refine (CU _).mono ?_; rintro e w6 ⟨rfl, hb6⟩; have HS6 := am (HS5.out.step hb6); clear hb6)
                    | (go_at_call 23; (refine (check_yes 191 _).mono ?_); rintro e w7 ⟨⟨v7, rfl⟩, hb7⟩; have HS7 := am (HS6.out.step hb7); clear hb7)
                    | (go_at_call 20; refine (CB _ HS7.out.here).mono ?_; rintro e w8 ⟨rfl, hr⟩; have HS8 := am (rd_hop HS7.out hr); clear hr; obtain ⟨c0, c1, f0, f1⟩ := cz2 HS8.out.hc))
                  go_region
                  go_wp2_with (first
                    | (go_at_call 25; refine (CP _).mono ?_; rintro e wa ⟨rfl, hba⟩; have HSA := am ((rdw HS8.out : Rd g b u w0 W _).step hba); clear hba)
                    | (go_at_call 23; (refine (check_no 190 _).mono ?_); rintro e wb ⟨⟨sh, rfl⟩, hbb⟩; have HSB := am (HSA.out.step hbb); clear hbb))
                  exact ⟨rfl, rd_gives HSB.out HO2.out ⟨sh, rfl⟩⟩
              · have HO2 := am (HO.out.trans (HE.out _ hc))
                rw [hlu] at hge
                clear HE HN hc
                · rw [← en_one b u (by omega)] at hpf
                  have CP := fun w' => crlf_calls (b.extract u b.size) w'
                  rw [hpf] at CP
                  have e6 : ¬ (u : Int) + 2 ≤ b.size := by omega
                  have e9 : (u : Int) ≤ b.size := by omega
                  clear hpf
                  go_upto_region 8 with (first
                    | (go_at_call 17; refine CL.mono ?_; rintro e w1 ⟨rfl, hr⟩; have HS1 := am (rd_hop HS.out hr); clear hr)
                    | (go_at_call 28; refine (CC _ HS1.out.gg).mono ?_; rintro e w2 ⟨rfl, hb2⟩; have HS2 := am (HS1.out.step hb2); clear hb2)
                    | (go_at_call 24; refine (CT _).mono ?_; rintro e w3 ⟨⟨tt, rfl, ht⟩, hb3⟩; have ht2 := empty_mk (ht.out.2 HX.out); subst ht2; have HS3 := am (HS2.out.step hb3); clear hb3 ht)
                    | (go_at_call 35; refine (CV _).mono ?_; rintro e w9 ⟨rfl, hb9⟩; have HS9 := am (HS3.out.step hb9); clear hb9)
                    | (go_at_call 23; (refine (check_yes 190 _).mono ?_); rintro e w5 ⟨⟨v5, rfl⟩, hb5⟩; have HS5 := am (HS9.out.step hb5); clear hb5)
                    | (go_at_call 36; refine (CU _).mono ?_; rintro e w6 ⟨rfl, hb6⟩; have HS6 := am (HS5.out.step hb6); clear hb6)
                    | (go_at_call 23; (refine (check_yes 191 _).mono ?_); rintro e w7 ⟨⟨v7, rfl⟩, hb7⟩; have HS7 := am (HS6.out.step hb7); clear hb7)
                    | (go_at_call 20; refine (CB _ HS7.out.here).mono ?_; rintro e w8 ⟨rfl, hr⟩; have HS8 := am (rd_hop HS7.out hr); clear hr; obtain ⟨c0, c1, f0, f1⟩ := cz2 HS8.out.hc))
                  go_region
                  go_wp2_with (first
                    | (go_at_call 25; refine (CP _).mono ?_; rintro e wa ⟨rfl, hba⟩; have HSA := am ((rdw HS8.out : Rd g b u w0 W _).step hba); clear hba)
                    | (go_at_call 23; (refine (check_yes 190 _).mono ?_); rintro e wb ⟨⟨vb, rfl⟩, hbb⟩; have HSB := am (HSA.out.step hbb); clear hbb)
                    | (go_at_call 20; refine (bytes_bad g 2 b u w0 _ _ HSB.out.here hun hb hge (by omega)).mono ?_; rintro e wc ⟨⟨sh, rfl⟩, hr⟩; have HSC := am (rd_hop HSB.out hr); clear hr))
                  exact ⟨rfl, rd_gives HSC.out HO2.out ⟨sh, rfl⟩⟩
              · have HO2 := am (HO.out.trans (HN.out _ hc))
                rw [hlu] at hge
                clear HE HN hc
                · rw [← en_two b u (by omega)] at hpf
                  have CP := fun w' => crlf_calls (b.extract u (u + 2)) w'
                  rw [hpf] at CP
                  have e6 : (u : Int) + 2 ≤ b.size := by omega
                  have e9 : (u : Int) ≤ (u : Int) + 2 := by omega
                  clear hpf
                  go_upto_region 8 with (first
                    | (go_at_call 17; refine CL.mono ?_; rintro e w1 ⟨rfl, hr⟩; have HS1 := am (rd_hop HS.out hr); clear hr)
                    | (go_at_call 28; refine (CC _ HS1.out.gg).mono ?_; rintro e w2 ⟨rfl, hb2⟩; have HS2 := am (HS1.out.step hb2); clear hb2)
                    | (go_at_call 24; refine (CT _).mono ?_; rintro e w3 ⟨⟨tt, rfl, ht⟩, hb3⟩; have ht2 := empty_mk (ht.out.2 HX.out); subst ht2; have HS3 := am (HS2.out.step hb3); clear hb3 ht)
                    | (go_at_call 35; refine (CV _).mono ?_; rintro e w9 ⟨rfl, hb9⟩; have HS9 := am (HS3.out.step hb9); clear hb9)
                    | (go_at_call 23; (refine (check_yes 190 _).mono ?_); rintro e w5 ⟨⟨v5, rfl⟩, hb5⟩; have HS5 := am (HS9.out.step hb5); clear hb5)
                    | (go_at_call 36; refine (CU _).mono ?_; rintro e w6 ⟨rfl, hb6⟩; have HS6 := am (HS5.out.step hb6); clear hb6)
                    | (go_at_call 23; (refine (check_yes 191 _).mono ?_); rintro e w7 ⟨⟨v7, rfl⟩, hb7⟩; have HS7 := am (HS6.out.step hb7); clear hb7)
                    | (go_at_call 20; refine (CB _ HS7.out.here).mono ?_; rintro e w8 ⟨rfl, hr⟩; have HS8 := am (rd_hop HS7.out hr); clear hr; obtain ⟨c0, c1, f0, f1⟩ := cz2 HS8.out.hc))
                  go_region
                  go_wp2_with (first
                    | (go_at_call 25; refine (CP _).mono ?_; rintro e wa ⟨rfl, hba⟩; have HSA := am ((rdw HS8.out : Rd g b u w0 W _).step hba); clear hba)
                    | (go_at_call 23; (refine (check_yes 190 _).mono ?_); rintro e wb ⟨⟨vb, rfl⟩, hbb⟩; have HSB := am (HSA.out.step hbb); clear hbb)
                    | (go_at_call 20; refine (bytes_ok g 2 b u w0 _ _ HSB.out.here hun hb (by omega)).mono ?_; rintro e wc ⟨rfl, hr⟩; have HSC := am (rd_hop HSB.out hr); clear hr))
                  rw [List.drop_drop] at HO2
                  go_roundg f
                  case measure => omega
                  case rel => exact ⟨u + 2, body ++ x, rfl, by omega, by omega, by omega, HSC, HO2⟩
end Go.Proofs.YtcecdbbomadppaaDoor.Hw
end
section
namespace Go.Proofs.YtcecdbbomadppaaDoor.Hw
open Go Go.RowKit Go.Proofs.YtcecdbbomadppaaDoorW.PrintWords Go.Proofs.YtcecdbbomadppaaDoorW.PrintLast Go.Proofs.YtcecdbbomadppaaDoorW.PrintMore
set_option linter.unusedVariables false
set_option linter.unusedSimpArgs false
structure Bx (gq gn gi ge : Nat) (u : Array Value) (n i e : Value) (w0 w : World) : Prop where
 q : w.heap[gq]? = some (.cells u 35 (0, 0))
 n : w.heap[gn]? = some (.cells #[n] 3 (0, 0))
 i : w.heap[gi]? = some (.cells #[i] 4 (0, 0))
 e : w.heap[ge]? = some (.cells #[e] 24 (0, 0))
 hb : Below w0.heap.size w0 w
 lq : w0.heap.size ≤ gq
 ln : w0.heap.size ≤ gn
 li : w0.heap.size ≤ gi
 le : w0.heap.size ≤ ge
theorem Bx.below {gq gn gi ge : Nat} {u : Array Value} {n i e : Value} {w0 w w' : World} (h : Bx gq gn gi ge u n i e w0 w) (k : Below w.heap.size w w') : Bx gq gn gi ge u n i e w0 w' :=
 ⟨blk_below h.q k, blk_below h.n k, blk_below h.i k, blk_below h.e k, below_step h.hb k, h.lq, h.ln, h.li, h.le⟩
def zeroReq : Array Value := #[.string ⟨#[]⟩, .string ⟨#[]⟩, .string ⟨#[]⟩, .slice none 0 0, .string ⟨#[]⟩, .bool false]
theorem Bx.drew {gq gn gi ge : Nat} {u : Array Value} {n i e : Value} {w0 w : World} (h : Bx gq gn gi ge u n i e w0 w) : Bx gq gn gi ge u n i e w0 w.drew := h.below (Below.refl _ _).drew
theorem boxes_set {gq gn gi ge : Nat} {u0 u1 u2 u3 u4 u5 n i e : Value} {w0 w : World} (h : Bx gq gn gi ge #[u0, u1, u2, u3, u4, u5] n i e w0 w) (c : Int) :
  Bx gq gn gi ge zeroReq (.int .i64 0) (.bool false) (.int .i64 c) w0 (((((((((w.setCell ⟨gq, 0, none⟩ (.string ⟨#[]⟩)).setCell ⟨gq, 1, none⟩ (.string ⟨#[]⟩)).setCell ⟨gq, 2, none⟩ (.string ⟨#[]⟩)).setCell ⟨gq, 3, none⟩ (.slice none 0 0)).setCell ⟨gq, 4, none⟩ (.string ⟨#[]⟩)).setCell ⟨gq, 5, none⟩ (.bool false)).setCell ⟨gn, 0, none⟩ (.int .i64 0)).setCell ⟨gi, 0, none⟩ (.bool false)).setCell ⟨ge, 0, none⟩ (.int .i64 c)) := by
 have ne4 : gq ≠ gn := blk_ne h.q h.n (by decide)
 have ne5 : gq ≠ gi := blk_ne h.q h.i (by decide)
 have ne6 : gq ≠ ge := blk_ne h.q h.e (by decide)
 have ne7 : gn ≠ gi := blk_ne h.n h.i (by decide)
 have ne8 : gn ≠ ge := blk_ne h.n h.e (by decide)
 have ne9 : gi ≠ ge := blk_ne h.i h.e (by decide)
 have a := blk_put (blk_put (blk_put (blk_put (blk_put (blk_put h.q 0 (.string ⟨#[]⟩) rfl) 1 (.string ⟨#[]⟩) rfl) 2 (.string ⟨#[]⟩) rfl) 3 (.slice none 0 0) rfl) 4 (.string ⟨#[]⟩) rfl) 5 (.bool false) rfl
 have b := blk_far (blk_far (blk_far (blk_far (blk_far (blk_far h.n (p := ⟨gq, 0, none⟩) (Ne.symm ne4) (.string ⟨#[]⟩)) (p := ⟨gq, 1, none⟩) (Ne.symm ne4) (.string ⟨#[]⟩)) (p := ⟨gq, 2, none⟩) (Ne.symm ne4) (.string ⟨#[]⟩)) (p := ⟨gq, 3, none⟩) (Ne.symm ne4) (.slice none 0 0)) (p := ⟨gq, 4, none⟩) (Ne.symm ne4) (.string ⟨#[]⟩)) (p := ⟨gq, 5, none⟩) (Ne.symm ne4) (.bool false)
 have d := blk_far (blk_far (blk_far (blk_far (blk_far (blk_far h.i (p := ⟨gq, 0, none⟩) (Ne.symm ne5) (.string ⟨#[]⟩)) (p := ⟨gq, 1, none⟩) (Ne.symm ne5) (.string ⟨#[]⟩)) (p := ⟨gq, 2, none⟩) (Ne.symm ne5) (.string ⟨#[]⟩)) (p := ⟨gq, 3, none⟩) (Ne.symm ne5) (.slice none 0 0)) (p := ⟨gq, 4, none⟩) (Ne.symm ne5) (.string ⟨#[]⟩)) (p := ⟨gq, 5, none⟩) (Ne.symm ne5) (.bool false)
 have f := blk_far (blk_far (blk_far (blk_far (blk_far (blk_far h.e (p := ⟨gq, 0, none⟩) (Ne.symm ne6) (.string ⟨#[]⟩)) (p := ⟨gq, 1, none⟩) (Ne.symm ne6) (.string ⟨#[]⟩)) (p := ⟨gq, 2, none⟩) (Ne.symm ne6) (.string ⟨#[]⟩)) (p := ⟨gq, 3, none⟩) (Ne.symm ne6) (.slice none 0 0)) (p := ⟨gq, 4, none⟩) (Ne.symm ne6) (.string ⟨#[]⟩)) (p := ⟨gq, 5, none⟩) (Ne.symm ne6) (.bool false)
 have k := below_set (below_set (below_set (below_set (below_set (below_set h.hb h.lq (j := 0) (v := .string ⟨#[]⟩)) h.lq (j := 1) (v := .string ⟨#[]⟩)) h.lq (j := 2) (v := .string ⟨#[]⟩)) h.lq (j := 3) (v := .slice none 0 0)) h.lq (j := 4) (v := .string ⟨#[]⟩)) h.lq (j := 5) (v := .bool false)
 generalize (((((w.setCell ⟨gq, 0, none⟩ (.string ⟨#[]⟩)).setCell ⟨gq, 1, none⟩ (.string ⟨#[]⟩)).setCell ⟨gq, 2, none⟩ (.string ⟨#[]⟩)).setCell ⟨gq, 3, none⟩ (.slice none 0 0)).setCell ⟨gq, 4, none⟩ (.string ⟨#[]⟩)).setCell ⟨gq, 5, none⟩ (.bool false) = w1 at *
 exact ⟨blk_far (blk_far (blk_far a ne4 _) ne5 _) ne6 _, blk_far (blk_far (blk_put b 0 _ rfl) ne7 _) ne8 _, blk_far (blk_put (blk_far d (Ne.symm ne7) _) 0 _ rfl) ne9 _, blk_put (blk_far (blk_far f (Ne.symm ne8) _) (Ne.symm ne9) _) 0 _ rfl, below_set (below_set (below_set k h.ln) h.li) h.le, h.lq, h.ln, h.li, h.le⟩
theorem assert_fault (v : Value) (xT : TypeId) (w : World) : Sem.run Tryd.prog (Instr.typeAssert (.iface 51 v) xT 51 true) w = .ok (.tuple #[v, .bool true]) w := by
 simp [Instr.typeAssert, run_underlying Tryd.underlying51, go_sem, Result.andThen]
theorem wp_norm {P : Program} {c : Code} {Q : Exit → Act → World → Prop} {a a' : Act} {w : World} (h : a = a') (k : c.wp P Q a' w) : c.wp P Q a w := h ▸ k
theorem size6 {u : Array Value} (h : u.size = 6) : ∃ a b c d e f, u = #[a, b, c, d, e, f] := by
 obtain ⟨l⟩ := u
 rcases l with _ | ⟨a, _ | ⟨b, _ | ⟨c, _ | ⟨d, _ | ⟨e, _ | ⟨f, _ | ⟨g, l⟩⟩⟩⟩⟩⟩⟩
 all_goals first | (simp at h; done) | skip
 exact ⟨a, b, c, d, e, f, rfl⟩
set_option maxRecDepth 100000 in
set_option maxHeartbeats 4000000 in
theorem catch_fault (gq gn gi ge : Nat) (u0 u1 u2 u3 u4 u5 n i e0 : Value) (c : Int) (sh : Bool) (older : List PanicEntry) (w0 w : World) (H : Bx gq gn gi ge #[u0, u1, u2, u3, u4, u5] n i e0 w0 w) :
  CallsD Tryd.prog 15 #[.pointer (some ⟨gq, 0, none⟩), .pointer (some ⟨gn, 0, none⟩), .pointer (some ⟨gi, 0, none⟩), .pointer (some ⟨ge, 0, none⟩)] (.panicking ({ v := .iface 51 (.agg #[.int .i64 c, .bool sh]), recovered := false } :: older)) w fun e u' w' =>
   e = .returned (.tuple #[]) ∧ u' = .panicking ({ v := .iface 51 (.agg #[.int .i64 c, .bool sh]), recovered := true } :: older) ∧ Bx gq gn gi ge zeroReq (.int .i64 0) (.bool false) (.int .i64 c) w0 w' := by
 have hta := assert_fault
 have HX := am H
 have HX0 := am H
 obtain ⟨p0, p1, p2, p3, p4, p5, q0, q1, q2, q3, q4, q5⟩ := cz6 H.q
 obtain ⟨n0, n1⟩ := cz1 H.n
 obtain ⟨i0, i1⟩ := cz1 H.i
 obtain ⟨e1, e2⟩ := cz1 H.e
 clear H
 refine callsD_of_wpS Tryd.func15 rfl fun c₀ cs hu => ?_
 apply wpS_seq
 apply wpS_region
 simp [wpOpsS, go_sem, recoverD, hu, Tryd.ntmps15, Exit.thenS]
 refine wpS_of_wp ?_
 refine wp_norm (a' := { tmps := #[.pointer (some ⟨gq, 0, none⟩), .pointer (some ⟨gn, 0, none⟩), .pointer (some ⟨gi, 0, none⟩), .pointer (some ⟨ge, 0, none⟩), .iface 51 (.agg #[.int .i64 c, .bool sh]), undef, undef, .iface 51 (.agg #[.int .i64 c, .bool sh]), undef, undef, undef, undef, undef, undef, undef, undef, undef, undef, undef, undef, undef], defers := [] }) (by rfl) ?_
 go_wp2_with ((with_reducible refine gate_dst (N := 5) rfl ?_); refine bx 5 #[.int .i64 0, .bool false] 51 ?_; intro gf hg w1 hbox hb; have HB1 := am hb; have GF := am (show w.heap.size ≤ gf by rw [hg]; exact Nat.le_refl _); have BF := am hbox; replace HX := am (HX.out.below hb); clear p0 p1 p2 p3 p4 p5 q0 q1 q2 q3 q4 q5 n0 n1 i0 i1 e1 e2 hb hbox hg; obtain ⟨p0, p1, p2, p3, p4, p5, q0, q1, q2, q3, q4, q5⟩ := cz6 HX.out.q; obtain ⟨n0, n1⟩ := cz1 HX.out.n; obtain ⟨i0, i1⟩ := cz1 HX.out.i; obtain ⟨e1, e2⟩ := cz1 HX.out.e; obtain ⟨c0, c1, f0, f1⟩ := cz2 BF.out)
 have HX2 := am (HX0.out.below (show Below w.heap.size w ((w1.setCell ⟨gf, 0, none⟩ (.int .i64 c)).setCell ⟨gf, 1, none⟩ (.bool sh)) from below_set (below_set HB1.out GF.out) GF.out))
 clear HX HX0 HB1 GF
 have BF2 := am (blk_put (blk_put BF.out 0 (.int .i64 c) rfl) 1 (.bool sh) rfl)
 generalize (w1.setCell ⟨gf, 0, none⟩ (.int .i64 c)).setCell ⟨gf, 1, none⟩ (.bool sh) = w2 at *
 clear p0 p1 p2 p3 p4 p5 q0 q1 q2 q3 q4 q5 n0 n1 i0 i1 e1 e2 c0 c1 f0 f1
 obtain ⟨p0, p1, p2, p3, p4, p5, q0, q1, q2, q3, q4, q5⟩ := cz6 HX2.out.q
 obtain ⟨n0, n1⟩ := cz1 HX2.out.n
 obtain ⟨i0, i1⟩ := cz1 HX2.out.i
 obtain ⟨e1, e2⟩ := cz1 HX2.out.e
 obtain ⟨c0, c1, f0, f1⟩ := cz2 BF2.out
 have ne1 : gf ≠ gq := blk_ne BF2.out HX2.out.q (by decide)
 have ne2 : gf ≠ gn := blk_ne BF2.out HX2.out.n (by decide)
 have ne3 : gf ≠ gi := blk_ne BF2.out HX2.out.i (by decide)
 have ne4 : gq ≠ gn := blk_ne HX2.out.q HX2.out.n (by decide)
 have ne5 : gq ≠ gi := blk_ne HX2.out.q HX2.out.i (by decide)
 have ne6 : gq ≠ ge := blk_ne HX2.out.q HX2.out.e (by decide)
 have ne7 : gn ≠ gi := blk_ne HX2.out.n HX2.out.i (by decide)
 have ne8 : gn ≠ ge := blk_ne HX2.out.n HX2.out.e (by decide)
 have ne9 : gi ≠ ge := blk_ne HX2.out.i HX2.out.e (by decide)
 go_region
 go_wp2
 refine ⟨rfl, _, rfl, .tuple #[], results_none rfl _ _ _, rfl, rfl, ?_⟩
 with_reducible exact (boxes_set HX2.out c).drew
theorem Bx.keep {gq gn gi ge g : Nat} {u : Array Value} {n i e : Value} {w0 w w' : World} {b : ByteArray} {p : Value} (h : Bx gq gn gi ge u n i e w0 w) (hc : w.heap[g]? = some (.cells #[.string b, p] 55 (0, 0))) (k : KeepBut w w' g none) (hb : Below w0.heap.size w0 w') : Bx gq gn gi ge u n i e w0 w' :=
  ⟨k.blk h.q (blk_ne h.q hc (by decide)) (by simp), k.blk h.n (blk_ne h.n hc (by decide)) (by simp), k.blk h.i (blk_ne h.i hc (by decide)) (by simp), k.blk h.e (blk_ne h.e hc (by decide)) (by simp), hb, h.lq, h.ln, h.li, h.le⟩
def OnePost (a0 : ByteArray) (w : World) (o : Ht.Out (Ht.Rq × Ht.B)) (e : Ending) (w' : World) : Prop :=
  (match o with
   | .ok (q, r) => ∃ hv, e = .returned (.tuple #[.agg #[.string ⟨q.m.toArray⟩, .string ⟨q.p.toArray⟩, .string ⟨q.q.toArray⟩, hv, .string ⟨q.body.toArray⟩, .bool q.close], .int .i64 ((a0.size - r.length : Nat) : Int), .bool true, .int .i64 0]) ∧ Kd.R kP 64 w' w.heap.size (fun _ => True) hv (q.heads.map txt)
   | .bad c => e = .returned (.tuple #[.agg zeroReq, .int .i64 0, .bool false, .int .i64 c])) ∧ Below w.heap.size w w'
theorem boxq {gq gn gi ge : Nat} {u0 u1 u2 u3 u4 u5 n i e : Value} {w0 w : World} (h : Bx gq gn gi ge #[u0, u1, u2, u3, u4, u5] n i e w0 w) (v0 v1 v2 v3 v4 v5 : Value) :
    Bx gq gn gi ge #[v0, v1, v2, v3, v4, v5] n i e w0 ((((((w.setCell ⟨gq, 0, none⟩ v0).setCell ⟨gq, 1, none⟩ v1).setCell ⟨gq, 2, none⟩ v2).setCell ⟨gq, 3, none⟩ v3).setCell ⟨gq, 4, none⟩ v4).setCell ⟨gq, 5, none⟩ v5) := by
  have ne4 : gq ≠ gn := blk_ne h.q h.n (by decide)
  have ne5 : gq ≠ gi := blk_ne h.q h.i (by decide)
  have ne6 : gq ≠ ge := blk_ne h.q h.e (by decide)
  exact ⟨blk_put (blk_put (blk_put (blk_put (blk_put (blk_put h.q 0 v0 rfl) 1 v1 rfl) 2 v2 rfl) 3 v3 rfl) 4 v4 rfl) 5 v5 rfl, (blk_far (blk_far (blk_far (blk_far (blk_far (blk_far h.n (p := ⟨gq, 0, none⟩) (Ne.symm ne4) v0) (p := ⟨gq, 1, none⟩) (Ne.symm ne4) v1) (p := ⟨gq, 2, none⟩) (Ne.symm ne4) v2) (p := ⟨gq, 3, none⟩) (Ne.symm ne4) v3) (p := ⟨gq, 4, none⟩) (Ne.symm ne4) v4) (p := ⟨gq, 5, none⟩) (Ne.symm ne4) v5), (blk_far (blk_far (blk_far (blk_far (blk_far (blk_far h.i (p := ⟨gq, 0, none⟩) (Ne.symm ne5) v0) (p := ⟨gq, 1, none⟩) (Ne.symm ne5) v1) (p := ⟨gq, 2, none⟩) (Ne.symm ne5) v2) (p := ⟨gq, 3, none⟩) (Ne.symm ne5) v3) (p := ⟨gq, 4, none⟩) (Ne.symm ne5) v4) (p := ⟨gq, 5, none⟩) (Ne.symm ne5) v5), (blk_far (blk_far (blk_far (blk_far (blk_far (blk_far h.e (p := ⟨gq, 0, none⟩) (Ne.symm ne6) v0) (p := ⟨gq, 1, none⟩) (Ne.symm ne6) v1) (p := ⟨gq, 2, none⟩) (Ne.symm ne6) v2) (p := ⟨gq, 3, none⟩) (Ne.symm ne6) v3) (p := ⟨gq, 4, none⟩) (Ne.symm ne6) v4) (p := ⟨gq, 5, none⟩) (Ne.symm ne6) v5),
    below_set (below_set (below_set (below_set (below_set (below_set h.hb h.lq) h.lq) h.lq) h.lq) h.lq) h.lq, h.lq, h.ln, h.li, h.le⟩
theorem boxr {gq gn gi ge : Nat} {u : Array Value} {n i e : Value} {w0 w : World} (h : Bx gq gn gi ge u n i e w0 w) (n' i' e' : Value) :
    Bx gq gn gi ge u n' i' e' w0 (((w.setCell ⟨gn, 0, none⟩ n').setCell ⟨gi, 0, none⟩ i').setCell ⟨ge, 0, none⟩ e') := by
  have ne4 : gq ≠ gn := blk_ne h.q h.n (by decide)
  have ne5 : gq ≠ gi := blk_ne h.q h.i (by decide)
  have ne6 : gq ≠ ge := blk_ne h.q h.e (by decide)
  have ne7 : gn ≠ gi := blk_ne h.n h.i (by decide)
  have ne8 : gn ≠ ge := blk_ne h.n h.e (by decide)
  have ne9 : gi ≠ ge := blk_ne h.i h.e (by decide)
  have hq : w.heap[gq]? = some (.cells u 35 (0, 0)) := h.q
  exact ⟨(Below.heap_setCell _ ⟨ge, 0, none⟩ e' gq ne6).trans ((Below.heap_setCell _ ⟨gi, 0, none⟩ i' gq ne5).trans ((Below.heap_setCell _ ⟨gn, 0, none⟩ n' gq ne4).trans h.q)), blk_far (blk_far (blk_put h.n 0 _ rfl) ne7 _) ne8 _, blk_far (blk_put (blk_far h.i (Ne.symm ne7) _) 0 _ rfl) ne9 _, blk_put (blk_far (blk_far h.e (Ne.symm ne8) _) (Ne.symm ne9) _) 0 _ rfl, below_set (below_set (below_set h.hb h.ln) h.li) h.le, h.lq, h.ln, h.li, h.le⟩
theorem rdq {gq g p : Nat} {b : ByteArray} {w0 W w : World} (h : Rd g b p w0 W w) (ne : g ≠ gq) (v0 v1 v2 v3 v4 v5 : Value) (hb : Below w0.heap.size w0 ((((((w.setCell ⟨gq, 0, none⟩ v0).setCell ⟨gq, 1, none⟩ v1).setCell ⟨gq, 2, none⟩ v2).setCell ⟨gq, 3, none⟩ v3).setCell ⟨gq, 4, none⟩ v4).setCell ⟨gq, 5, none⟩ v5)) :
    Rd g b p w0 ((((((w.setCell ⟨gq, 0, none⟩ v0).setCell ⟨gq, 1, none⟩ v1).setCell ⟨gq, 2, none⟩ v2).setCell ⟨gq, 3, none⟩ v3).setCell ⟨gq, 4, none⟩ v4).setCell ⟨gq, 5, none⟩ v5) ((((((w.setCell ⟨gq, 0, none⟩ v0).setCell ⟨gq, 1, none⟩ v1).setCell ⟨gq, 2, none⟩ v2).setCell ⟨gq, 3, none⟩ v3).setCell ⟨gq, 4, none⟩ v4).setCell ⟨gq, 5, none⟩ v5) := by
  have hc := h.hc
  exact ⟨(blk_far (blk_far (blk_far (blk_far (blk_far (blk_far hc (p := ⟨gq, 0, none⟩) ne v0) (p := ⟨gq, 1, none⟩) ne v1) (p := ⟨gq, 2, none⟩) ne v2) (p := ⟨gq, 3, none⟩) ne v3) (p := ⟨gq, 4, none⟩) ne v4) (p := ⟨gq, 5, none⟩) ne v5), hb, KeepBut.refl _ _ _, h.hg, h.hl⟩
def Row (W : World) (hv : Value) (hs : List (ByteArray × ByteArray)) (w : World) : Prop := Kd.R kP 64 w W.heap.size (fun k => W.heap.size ≤ k) hv hs
theorem Row.set {W w : World} {hv : Value} {hs : List (ByteArray × ByteArray)} (h : Row W hv hs w) {g : Nat} (hg : g < W.heap.size) (i : Nat) (v : Value) : Row W hv hs (w.setCell ⟨g, i, none⟩ v) :=
  Kd.R_far (p := ⟨g, i, none⟩) h (fun k hk => by show k ≠ g; omega) v
theorem Row.drew {W w : World} {hv : Value} {hs : List (ByteArray × ByteArray)} (h : Row W hv hs w) : Row W hv hs w.drew := Kd.R_below h (Below.refl _ _).drew
theorem Row.keep {W w w' : World} {hv : Value} {hs : List (ByteArray × ByteArray)} (h : Row W hv hs w) {g : Nat} (hg : g < W.heap.size) (k : KeepBut w w' g none) : Row W hv hs w' :=
  Kd.R_step h (fun j hj hlt => k.2 j hlt (by omega) (by simp))
theorem one_gives {gq gn gi ge : Nat} {a0 : ByteArray} {w w' : World} {o : Ht.Out (Ht.Rq × Ht.B)} {c : Int} (hx : Bx gq gn gi ge zeroReq (.int .i64 0) (.bool false) (.int .i64 c) w w') (ho : o = .bad c) :
    OnePost a0 w o (.returned (.tuple #[.agg #[.string ⟨#[]⟩, .string ⟨#[]⟩, .string ⟨#[]⟩, .slice none 0 0, .string ⟨#[]⟩, .bool false], .int .i64 0, .bool false, .int .i64 c])) w' := by
  subst ho
  exact ⟨rfl, hx.hb⟩
theorem Row.six {gq : Nat} {W w : World} {hv : Value} {hs : List (ByteArray × ByteArray)} (h : Row W hv hs w) (hg : gq < W.heap.size) (v0 v1 v2 v3 v4 v5 : Value) : Row W hv hs ((((((w.setCell ⟨gq, 0, none⟩ v0).setCell ⟨gq, 1, none⟩ v1).setCell ⟨gq, 2, none⟩ v2).setCell ⟨gq, 3, none⟩ v3).setCell ⟨gq, 4, none⟩ v4).setCell ⟨gq, 5, none⟩ v5) :=
  (((((h.set hg 0 v0).set hg 1 v1).set hg 2 v2).set hg 3 v3).set hg 4 v4).set hg 5 v5
theorem one_done {a0 : ByteArray} {w W w' : World} {o : Ht.Out (Ht.Rq × Ht.B)} {f : Ht.B × Ht.B × Ht.B} {heads : List (Ht.B × Ht.B)} {body : Ht.B} {cl : Bool} {p : Nat} {hv : Value} (hw : w.heap.size ≤ W.heap.size) (hb : Below w.heap.size w w') (hR : Row W hv (heads.map txt) w') (hp : p ≤ a0.size)
    (ho : o = .ok (⟨f.1, f.2.1, f.2.2, heads, body, cl⟩, a0.data.toList.drop p)) {bd : ByteArray} (hbd : bd = ⟨body.toArray⟩) :
    OnePost a0 w o (.returned (.tuple #[.agg #[.string ⟨f.1.toArray⟩, .string ⟨f.2.1.toArray⟩, .string ⟨f.2.2.toArray⟩, hv, .string bd, .bool cl], .int .i64 (p : Int), .bool true, .int .i64 0])) w' := by
  subst ho
  subst hbd
  refine ⟨⟨hv, ?_, Kd.R_mono (Kd.R_lower hR hw) (fun _ _ => trivial)⟩, hb⟩
  have e : a0.size - (a0.data.toList.drop p).length = p := by rw [List.length_drop, ← Lib.size_eq]; omega
  rw [e]
set_option maxRecDepth 100000 in
set_option maxHeartbeats 16000000 in
theorem one_calls (a0 : ByteArray) (w : World) (hs : a0.size < 2147483648) (hG : GG w) (o : Ht.Out (Ht.Rq × Ht.B)) (ho : o = Ht.pone a0.data.toList) : Calls Tryd.prog 12 #[.string a0] w fun e w' => OnePost a0 w o e w' := by
  have hmf : ∀ (fn : Fn) (first cap : Array Value) (w : World), (Instr.makeFunc fn first cap).run Tryd.prog w = .ok (.func fn first cap) w := fun _ _ _ _ => rfl
  have HO := am ho
  have HG := am hG
  have HB := am (Below.refl w.heap.size w)
  clear ho hG
  go_enter_defers Tryd.func12, Tryd.ntmps12
  go_upto_region 3 with (first
    | ((with_reducible refine gate_dst (N := 2) rfl ?_); refine bx 2 #[.string ⟨#[]⟩, .string ⟨#[]⟩, .string ⟨#[]⟩, .slice none 0 0, .string ⟨#[]⟩, .bool false] 35 ?_; intro gq hg w1 hbox hb; have Ggq := gsz hg HB.out; have Bgq := am hbox; replace HB := am (below_step HB.out hb); clear hbox hb hg)
    | ((with_reducible refine gate_dst (N := 3) rfl ?_); refine bx 3 #[.int .i64 0] 3 ?_; intro gn hg w1 hbox hb; replace Bgq := bb Bgq.out hb; have Ggn := gsz hg HB.out; have Bgn := am hbox; replace HB := am (below_step HB.out hb); clear hbox hb hg)
    | ((with_reducible refine gate_dst (N := 4) rfl ?_); refine bx 4 #[.bool false] 4 ?_; intro gi hg w1 hbox hb; replace Bgq := bb Bgq.out hb; replace Bgn := bb Bgn.out hb; have Ggi := gsz hg HB.out; have Bgi := am hbox; replace HB := am (below_step HB.out hb); clear hbox hb hg)
    | ((with_reducible refine gate_dst (N := 5) rfl ?_); refine bx 5 #[.int .i64 0] 24 ?_; intro ge hg w1 hbox hb; replace Bgq := bb Bgq.out hb; replace Bgn := bb Bgn.out hb; replace Bgi := bb Bgi.out hb; have Gge := gsz hg HB.out; have Bge := am hbox; replace HB := am (below_step HB.out hb); clear hbox hb hg)
    | ((with_reducible refine gate_dst (N := 12) rfl ?_); refine bx 12 #[.string ⟨#[]⟩, .int .i64 0] 55 ?_; intro gr hg w1 hbox hb; replace Bgq := bb Bgq.out hb; replace Bgn := bb Bgn.out hb; replace Bgi := bb Bgi.out hb; replace Bge := bb Bge.out hb; have Ggr := gsz hg HB.out; have Bgr := am hbox; replace HB := am (below_step HB.out hb); clear hbox hb hg))
  have HX := am (show Bx gq gn gi ge zeroReq (.int .i64 0) (.bool false) (.int .i64 0) w (w1.alloc (.cells #[.string a0, .int .i64 0] 55)) from
    (⟨Bgq.out, Bgn.out, Bgi.out, Bge.out, HB.out, Ggq.out, Ggn.out, Ggi.out, Gge.out⟩ : Bx gq gn gi ge zeroReq (.int .i64 0) (.bool false) (.int .i64 0) w w1).below ((Below.refl _ _).alloc (Nat.le_refl _) _))
  have HR := am (show Rd w1.heap.size a0 0 w (w1.alloc (.cells #[.string a0, .int .i64 0] 55)) (w1.alloc (.cells #[.string a0, .int .i64 0] 55)) from ⟨blk_new w1 _, HX.out.hb, KeepBut.refl _ _ _, HG.out, HB.out.size⟩)
  generalize w1.alloc (.cells #[.string a0, .int .i64 0] 55) = w2 at *
  generalize w1.heap.size = gr at *
  clear Bgq Bgn Bgi Bge HB w1
  cases hl : Ht.pline (a0.data.toList.drop 0) with
  | bad c =>
    have CL := line_fell gr a0 0 w _ _ HR.out (Nat.zero_le _) hs hl
    have HO2 := am (HO.out.trans (show _ = Ht.Out.bad c by unfold Ht.pone; rw [List.drop_zero] at hl; simp only [Ht.seq, hl, Ht.Out.bind]))
    clear hl
    go_wp2_with (go_at_call 17; refine CL.mono ?_; rintro e w3 ⟨⟨sh, rfl⟩, hr⟩; have HX2 := am (HX.out.keep HR.out.hc hr.hk hr.hb); clear hr)
    refine leaves_cons (f := 15) (args := #[.pointer (some ⟨gq, 0, none⟩), .pointer (some ⟨gn, 0, none⟩), .pointer (some ⟨gi, 0, none⟩), .pointer (some ⟨ge, 0, none⟩)]) (by simp) (by simp [go_sem]) ?_
    refine (catch_fault gq gn gi ge _ _ _ _ _ _ _ _ _ c sh [] w _ HX2.out).mono ?_
    rintro e u' w'' ⟨rfl, rfl, hx⟩
    obtain ⟨p0, p1, p2, p3, p4, p5, q0, q1, q2, q3, q4, q5⟩ := cz6 hx.q
    obtain ⟨n0, n1⟩ := cz1 hx.n
    obtain ⟨i0, i1⟩ := cz1 hx.i
    obtain ⟨e1, e2⟩ := cz1 hx.e
    simp [Leaves, settle, results, Tryd.results12, go_sem, p0, p1, p2, p3, p4, p5, n0, i0, e1]
    exact one_gives hx HO2.out
  | ok z =>
    obtain ⟨s, r⟩ := z
    obtain ⟨q, hq, _, rfl, hsl, CL⟩ := line_good gr a0 0 w _ _ HR.out (Nat.zero_le _) hs hl
    generalize hsb : (⟨s.toArray⟩ : ByteArray) = sb at CL
    have hsd : sb.data.toList = s := by rw [← hsb]
    have hss : sb.size < 2147483648 := by rw [← hsb, size_mk]; omega
    rw [List.drop_zero] at hl
    cases hf : Ht.pfirst s with
    | bad c =>
      have HO2 := am (HO.out.trans (show _ = Ht.Out.bad c by unfold Ht.pone; simp only [Ht.seq, hl, Ht.Out.bind, Ht.lift, hf]))
      have CF := fun w' h => first_fell sb w' hss h (c := c) (by rw [hsd]; exact hf)
      clear hl hf hsb hsd
      go_wp2_with (first
        | (go_at_call 17; refine CL.mono ?_; rintro e w3 ⟨rfl, hr⟩; have HX2 := am (HX.out.keep HR.out.hc hr.hk hr.hb); have HR2 := am hr.here; clear hr)
        | (go_at_call 16; refine (CF _ HR2.out.gg).mono ?_; rintro e w4 ⟨⟨sh, rfl⟩, hb4⟩; replace HX2 := am (HX2.out.below hb4); clear hb4))
      refine leaves_cons (f := 15) (args := #[.pointer (some ⟨gq, 0, none⟩), .pointer (some ⟨gn, 0, none⟩), .pointer (some ⟨gi, 0, none⟩), .pointer (some ⟨ge, 0, none⟩)]) (by simp) (by simp [go_sem]) ?_
      refine (catch_fault gq gn gi ge _ _ _ _ _ _ _ _ _ c sh [] w _ HX2.out).mono ?_
      rintro e u' w'' ⟨rfl, rfl, hx⟩
      obtain ⟨p0, p1, p2, p3, p4, p5, q0, q1, q2, q3, q4, q5⟩ := cz6 hx.q
      obtain ⟨n0, n1⟩ := cz1 hx.n
      obtain ⟨i0, i1⟩ := cz1 hx.i
      obtain ⟨e1, e2⟩ := cz1 hx.e
      simp [Leaves, settle, results, Tryd.results12, go_sem, p0, p1, p2, p3, p4, p5, n0, i0, e1]
      exact one_gives hx HO2.out
    | ok f =>
      have CF := fun w' h => first_good sb w' hss h (f := f) (by rw [hsd]; exact hf)
      have HO2 := am (HO.out.trans (show _ = (Ht.phead 32 ⟨false, [], none, false⟩ (a0.data.toList.drop q)).bind (fun x => (Ht.pbody x.1 x.2).bind fun y => .ok (⟨f.1, f.2.1, f.2.2, x.1.heads, y.1, x.1.close⟩, y.2)) by unfold Ht.pone; simp only [Ht.seq, hl, Ht.Out.bind, Ht.lift, hf, Ht.ret]))
      clear hl hf hsb hsd
      generalize hm : (⟨f.1.toArray⟩ : ByteArray) = m at CF
      generalize hpa : (⟨f.2.1.toArray⟩ : ByteArray) = pa at CF
      generalize hqu : (⟨f.2.2.toArray⟩ : ByteArray) = qu at CF
      go_upto_region 4 with (first
        | (go_at_call 17; refine CL.mono ?_; rintro e w3 ⟨rfl, hr⟩; have HX2 := am (HX.out.keep HR.out.hc hr.hk hr.hb); have HR2 := am hr.here; clear hr)
        | (go_at_call 16; refine (CF _ HR2.out.gg).mono ?_; rintro e w4 ⟨rfl, hb4⟩; replace HX2 := am (HX2.out.below hb4); replace HR2 := am (HR2.out.step hb4).here; clear hb4; obtain ⟨p0, p1, p2, p3, p4, p5, q0, q1, q2, q3, q4, q5⟩ := cz6 HX2.out.q))
      have neq : gr ≠ gq := blk_ne HR2.out.hc HX2.out.q (by decide)
      have HX3 := am (boxq HX2.out (.string m) (.string pa) (.string qu) (.slice none 0 0) (.string ⟨#[]⟩) (.bool false))
      have HR3 := am (rdq HR2.out neq (.string m) (.string pa) (.string qu) (.slice none 0 0) (.string ⟨#[]⟩) (.bool false) HX3.out.hb)
      generalize ((((((w4.setCell ⟨gq, 0, none⟩ (.string m)).setCell ⟨gq, 1, none⟩ (.string pa)).setCell ⟨gq, 2, none⟩ (.string qu)).setCell ⟨gq, 3, none⟩ (.slice none 0 0)).setCell ⟨gq, 4, none⟩ (.string ⟨#[]⟩)).setCell ⟨gq, 5, none⟩ (.bool false)) = w5 at *
      clear HX HX2 HR HR2 CF CL p0 p1 p2 p3 p4 p5 q0 q1 q2 q3 q4 q5
      have ln5 := blk_lt HX3.out.n
      have li5 := blk_lt HX3.out.i
      have le5 := blk_lt HX3.out.e
      have lq5 := blk_lt HX3.out.q
      have lr5 := blk_lt HR3.out.hc
      have nrn : gn ≠ gr := blk_ne HX3.out.n HR3.out.hc (by decide)
      have nri : gi ≠ gr := blk_ne HX3.out.i HR3.out.hc (by decide)
      have nre : ge ≠ gr := blk_ne HX3.out.e HR3.out.hc (by decide)
      have nqn : gn ≠ gq := blk_ne HX3.out.n HX3.out.q (by decide)
      have nqi : gi ≠ gq := blk_ne HX3.out.i HX3.out.q (by decide)
      have nqe : ge ≠ gq := blk_ne HX3.out.e HX3.out.q (by decide)
      have HH : Hs gr gq a0 m pa qu w w5 q false (.slice none 0 0) [] w5 := ⟨HR3.out.hc, HX3.out.q, HX3.out.hb, Nat.le_refl _, fun _ _ _ _ => rfl, Kd.R_nil _ _ _ _ _, HG.out, HR3.out.hl, HX3.out.lq, HX3.out.hb.size, lr5, lq5⟩
      cases hh : Ht.phead 32 ⟨false, [], none, false⟩ (a0.data.toList.drop q) with
      | bad c =>
        have CH := head_calls gr gq a0 m pa qu q w w5 HH hq hs _ hh.symm
        replace HO2 := am (HO2.out.trans (show _ = Ht.Out.bad c by rw [hh]; rfl))
        clear HH hh hm hpa hqu
        go_wp2_with (go_at_call 18; refine CH.mono ?_; rintro e w6 ⟨⟨sh, rfl⟩, hb6, hk6, cs6, hq6, hz6⟩; obtain ⟨z0, z1, z2, z3, z4, z5, rfl⟩ := size6 hz6; have HX2 := am (⟨hq6, (hk6 gn ln5 nrn nqn).trans HX3.out.n, (hk6 gi li5 nri nqi).trans HX3.out.i, (hk6 ge le5 nre nqe).trans HX3.out.e, hb6, HX3.out.lq, HX3.out.ln, HX3.out.li, HX3.out.le⟩ : Bx gq gn gi ge #[z0, z1, z2, z3, z4, z5] (.int .i64 0) (.bool false) (.int .i64 0) w w6); clear hb6 hk6 hq6 hz6)
        refine leaves_cons (f := 15) (args := #[.pointer (some ⟨gq, 0, none⟩), .pointer (some ⟨gn, 0, none⟩), .pointer (some ⟨gi, 0, none⟩), .pointer (some ⟨ge, 0, none⟩)]) (by simp) (by simp [go_sem]) ?_
        refine (catch_fault gq gn gi ge _ _ _ _ _ _ _ _ _ c sh [] w _ HX2.out).mono ?_
        rintro e u' w'' ⟨rfl, rfl, hx⟩
        obtain ⟨p0, p1, p2, p3, p4, p5, q0, q1, q2, q3, q4, q5⟩ := cz6 hx.q
        obtain ⟨n0, n1⟩ := cz1 hx.n
        obtain ⟨i0, i1⟩ := cz1 hx.i
        obtain ⟨e1, e2⟩ := cz1 hx.e
        simp [Leaves, settle, results, Tryd.results12, go_sem, p0, p1, p2, p3, p4, p5, n0, i0, e1]
        exact one_gives hx HO2.out
      | ok z =>
        obtain ⟨h, r2⟩ := z
        have CH := head_calls gr gq a0 m pa qu q w w5 HH hq hs _ hh.symm
        replace HO2 := am (HO2.out.trans (show _ = (Ht.pbody h r2).bind (fun y => .ok (⟨f.1, f.2.1, f.2.2, h.heads, y.1, h.close⟩, y.2)) by rw [hh]; rfl))
        have hhd := hh
        clear HH hh
        go_upto_region 5 with (go_at_call 18; refine CH.mono ?_; rintro e w6 ⟨⟨rfl, p3, hv, hp3, rfl, h3⟩, hb6, hk6, _⟩; have HX2 := am (⟨h3.hq, (hk6 gn ln5 nrn nqn).trans HX3.out.n, (hk6 gi li5 nri nqi).trans HX3.out.i, (hk6 ge le5 nre nqe).trans HX3.out.e, hb6, HX3.out.lq, HX3.out.ln, HX3.out.li, HX3.out.le⟩ : Bx gq gn gi ge #[.string m, .string pa, .string qu, hv, .string ⟨#[]⟩, .bool h.close] (.int .i64 0) (.bool false) (.int .i64 0) w w6); have HR2 := am h3.rd; have HW := am (show Row w5 hv (h.heads.map txt) w6 from Kd.R_mono (Kd.R_bound h3.hr) (fun k hk => hk.2.1)); clear hb6 hk6 h3)
        generalize hxs : h.heads.map txt = xs at HW
        obtain ⟨A0, d0, e0⟩ := Kd.R_slice HW.out
        subst e0
        have hbn := Ht.head_bound 32 ⟨false, [], none, false⟩ _ h (a0.data.toList.drop p3) (by intro m hm; cases hm) hhd
        cases hch : h.ch with
        | true =>
          replace HO2 := am (HO2.out.trans (show _ = (Ht.pchunks 131073 [] (a0.data.toList.drop p3)).bind (fun y => .ok (⟨f.1, f.2.1, f.2.2, h.heads, y.1, h.close⟩, y.2)) by unfold Ht.pbody; rw [if_pos hch]))
          cases hc : Ht.pchunks 131073 [] (a0.data.toList.drop p3) with
          | bad c =>
            have CB := chunks_calls gr a0 p3 w _ HR2.out hp3 hs _ hc.symm
            replace HO2 := am (HO2.out.trans (show _ = Ht.Out.bad c by rw [hc]; rfl))
            clear hc hm hpa hqu HW
            go_wp2_with (go_at_call 19; refine CB.mono ?_; rintro e w7 ⟨⟨sh, rfl⟩, p4, hr⟩; replace HX2 := am (HX2.out.keep HR2.out.hc hr.hk hr.hb); clear hr)
            refine leaves_cons (f := 15) (args := #[.pointer (some ⟨gq, 0, none⟩), .pointer (some ⟨gn, 0, none⟩), .pointer (some ⟨gi, 0, none⟩), .pointer (some ⟨ge, 0, none⟩)]) (by simp) (by simp [go_sem]) ?_
            refine (catch_fault gq gn gi ge _ _ _ _ _ _ _ _ _ c sh [] w _ HX2.out).mono ?_
            rintro e u' w'' ⟨rfl, rfl, hx⟩
            obtain ⟨p0, p1, p2, p3, p4, p5, q0, q1, q2, q3, q4, q5⟩ := cz6 hx.q
            obtain ⟨n0, n1⟩ := cz1 hx.n
            obtain ⟨i0, i1⟩ := cz1 hx.i
            obtain ⟨e1, e2⟩ := cz1 hx.e
            simp [Leaves, settle, results, Tryd.results12, go_sem, p0, p1, p2, p3, p4, p5, n0, i0, e1]
            exact one_gives hx HO2.out
          | ok z =>
            obtain ⟨body, r3⟩ := z
            have CB := chunks_calls gr a0 p3 w _ HR2.out hp3 hs _ hc.symm
            replace HO2 := am (HO2.out.trans (show _ = Ht.Out.ok (⟨f.1, f.2.1, f.2.2, h.heads, body, h.close⟩, r3) by rw [hc]; rfl))
            clear hc
            generalize hbd : (⟨body.toArray⟩ : ByteArray) = bd at CB
            go_upto_region 9 with (go_at_call 19; refine CB.mono ?_; rintro e w7 ⟨⟨rfl, pt, hpt, rfl, hr⟩, _⟩; replace HX2 := am (HX2.out.keep HR2.out.hc hr.hk hr.hb); replace HW := am (HW.out.keep lr5 hr.hk); replace HR2 := am hr.here; clear hr; obtain ⟨p0, p1, p2, p3_, p4, p5, q0, q1, q2, q3, q4, q5⟩ := cz6 HX2.out.q)
            have HXT := am (show Bx gq gn gi ge #[.string m, .string pa, .string qu, .slice A0 xs.length d0, .string bd, .bool h.close] (.int .i64 0) (.bool false) (.int .i64 0) w (w7.setCell ⟨gq, 4, none⟩ (.string bd)) from ⟨blk_put HX2.out.q 4 _ rfl, blk_far HX2.out.n nqn _, blk_far HX2.out.i nqi _, blk_far HX2.out.e nqe _, below_set HX2.out.hb HX2.out.lq, HX2.out.lq, HX2.out.ln, HX2.out.li, HX2.out.le⟩)
            have HRT := am (show Rd gr a0 pt w (w7.setCell ⟨gq, 4, none⟩ (.string bd)) (w7.setCell ⟨gq, 4, none⟩ (.string bd)) from ⟨blk_far HR2.out.hc neq _, HXT.out.hb, KeepBut.refl _ _ _, HG.out, HR2.out.hl⟩)
            have HWT := am (HW.out.set lq5 4 (.string bd))
            generalize w7.setCell ⟨gq, 4, none⟩ (.string bd) = wt at *
            clear HX2 HR2 HW p0 p1 p2 p3_ p4 p5 q0 q1 q2 q3 q4 q5
            obtain ⟨p0, p1, p2, p3_, p4, p5, q0, q1, q2, q3, q4, q5⟩ := cz6 HXT.out.q
            obtain ⟨n0, n1⟩ := cz1 HXT.out.n
            obtain ⟨i0, i1⟩ := cz1 HXT.out.i
            obtain ⟨e1, e2⟩ := cz1 HXT.out.e
            obtain ⟨c0, c1, f0, f1⟩ := cz2 HRT.out.hc
            have nqn' := Ne.symm nqn
            have nqi' := Ne.symm nqi
            have nqe' := Ne.symm nqe
            have nni : gn ≠ gi := blk_ne HXT.out.n HXT.out.i (by decide)
            have nne : gn ≠ ge := blk_ne HXT.out.n HXT.out.e (by decide)
            have nie : gi ≠ ge := blk_ne HXT.out.i HXT.out.e (by decide)
            go_region
            go_wp2
            clear nqn' nqi' nqe' nni nne nie c0 c1 f0 f1
            have HXF := am (boxr (boxq HXT.out (.string m) (.string pa) (.string qu) (.slice A0 xs.length d0) (.string bd) (.bool h.close)) (.int .i64 (pt : Int)) (.bool true) (.int .i64 0))
            have HWF := am ((((HWT.out.six lq5 (.string m) (.string pa) (.string qu) (.slice A0 xs.length d0) (.string bd) (.bool h.close)).set ln5 0 (.int .i64 (pt : Int))).set li5 0 (.bool true)).set le5 0 (.int .i64 0))
            generalize (((((((((wt.setCell ⟨gq, 0, none⟩ (.string m)).setCell ⟨gq, 1, none⟩ (.string pa)).setCell ⟨gq, 2, none⟩ (.string qu)).setCell ⟨gq, 3, none⟩ (.slice A0 xs.length d0)).setCell ⟨gq, 4, none⟩ (.string bd)).setCell ⟨gq, 5, none⟩ (.bool h.close)).setCell ⟨gn, 0, none⟩ (.int .i64 (pt : Int))).setCell ⟨gi, 0, none⟩ (.bool true)).setCell ⟨ge, 0, none⟩ (.int .i64 0)) = w9 at *
            clear p0 p1 p2 p3_ p4 p5 q0 q1 q2 q3 q4 q5 n0 n1 i0 i1 e1 e2
            obtain ⟨p0, p1, p2, p3_, p4, p5, q0, q1, q2, q3, q4, q5⟩ := cz6 HXF.out.q
            obtain ⟨n0, n1⟩ := cz1 HXF.out.n
            obtain ⟨i0, i1⟩ := cz1 HXF.out.i
            obtain ⟨e1, e2⟩ := cz1 HXF.out.e
            refine leaves_cons (f := 15) (args := #[.pointer (some ⟨gq, 0, none⟩), .pointer (some ⟨gn, 0, none⟩), .pointer (some ⟨gi, 0, none⟩), .pointer (some ⟨ge, 0, none⟩)]) (by simp) (by simp [go_sem]) ?_
            refine (catch_idle _ _ _ _ _).mono ?_
            rintro e u' w'' ⟨rfl, rfl, hw9⟩
            rw [hw9]
            simp [Leaves, settle, results, Tryd.results12, go_sem, p0, p1, p2, p3_, p4, p5, n0, i0, e1]
            subst hm hpa hqu
            exact one_done HX3.out.hb.size HXF.out.hb.drew (by rw [hxs]; exact HWF.out.drew) hpt HO2.out hbd.symm
        | false =>
          cases hn0 : h.n.getD 0 with
          | zero =>
            replace HO2 := am (HO2.out.trans (show _ = Ht.Out.ok (⟨f.1, f.2.1, f.2.2, h.heads, [], h.close⟩, a0.data.toList.drop p3) by unfold Ht.pbody; rw [if_neg (by rw [hch]; simp), if_pos hn0]; rfl))
            have hz : decide (0 < Ht.nz h.n) = false := by
              cases hh2 : h.n with
              | none => rfl
              | some k => rw [hh2] at hn0; exact decide_eq_false (by show ¬ 0 < ((k : Nat) : Int); have : k = 0 := hn0; omega)
            have HXT := am (show Bx gq gn gi ge #[.string m, .string pa, .string qu, .slice A0 xs.length d0, .string ⟨#[]⟩, .bool h.close] (.int .i64 0) (.bool false) (.int .i64 0) w w6 from HX2.out)
            have HRT := am HR2.out
            have HWT := am HW.out
            have hpt := hp3
            have hbd : (⟨([] : List UInt8).toArray⟩ : ByteArray) = ⟨#[]⟩ := rfl
            go_upto_region 9 with (fail)
            obtain ⟨p0, p1, p2, p3_, p4, p5, q0, q1, q2, q3, q4, q5⟩ := cz6 HXT.out.q
            obtain ⟨n0, n1⟩ := cz1 HXT.out.n
            obtain ⟨i0, i1⟩ := cz1 HXT.out.i
            obtain ⟨e1, e2⟩ := cz1 HXT.out.e
            obtain ⟨c0, c1, f0, f1⟩ := cz2 HRT.out.hc
            have nqn' := Ne.symm nqn
            have nqi' := Ne.symm nqi
            have nqe' := Ne.symm nqe
            have nni : gn ≠ gi := blk_ne HXT.out.n HXT.out.i (by decide)
            have nne : gn ≠ ge := blk_ne HXT.out.n HXT.out.e (by decide)
            have nie : gi ≠ ge := blk_ne HXT.out.i HXT.out.e (by decide)
            go_region
            go_wp2
            clear nqn' nqi' nqe' nni nne nie c0 c1 f0 f1
            have HXF := am (boxr (boxq HXT.out (.string m) (.string pa) (.string qu) (.slice A0 xs.length d0) (.string ⟨#[]⟩) (.bool h.close)) (.int .i64 (p3 : Int)) (.bool true) (.int .i64 0))
            have HWF := am ((((HWT.out.six lq5 (.string m) (.string pa) (.string qu) (.slice A0 xs.length d0) (.string ⟨#[]⟩) (.bool h.close)).set ln5 0 (.int .i64 (p3 : Int))).set li5 0 (.bool true)).set le5 0 (.int .i64 0))
            generalize (((((((((w6.setCell ⟨gq, 0, none⟩ (.string m)).setCell ⟨gq, 1, none⟩ (.string pa)).setCell ⟨gq, 2, none⟩ (.string qu)).setCell ⟨gq, 3, none⟩ (.slice A0 xs.length d0)).setCell ⟨gq, 4, none⟩ (.string ⟨#[]⟩)).setCell ⟨gq, 5, none⟩ (.bool h.close)).setCell ⟨gn, 0, none⟩ (.int .i64 (p3 : Int))).setCell ⟨gi, 0, none⟩ (.bool true)).setCell ⟨ge, 0, none⟩ (.int .i64 0)) = w9 at *
            clear p0 p1 p2 p3_ p4 p5 q0 q1 q2 q3 q4 q5 n0 n1 i0 i1 e1 e2
            obtain ⟨p0, p1, p2, p3_, p4, p5, q0, q1, q2, q3, q4, q5⟩ := cz6 HXF.out.q
            obtain ⟨n0, n1⟩ := cz1 HXF.out.n
            obtain ⟨i0, i1⟩ := cz1 HXF.out.i
            obtain ⟨e1, e2⟩ := cz1 HXF.out.e
            refine leaves_cons (f := 15) (args := #[.pointer (some ⟨gq, 0, none⟩), .pointer (some ⟨gn, 0, none⟩), .pointer (some ⟨gi, 0, none⟩), .pointer (some ⟨ge, 0, none⟩)]) (by simp) (by simp [go_sem]) ?_
            refine (catch_idle _ _ _ _ _).mono ?_
            rintro e u' w'' ⟨rfl, rfl, hw9⟩
            rw [hw9]
            simp [Leaves, settle, results, Tryd.results12, go_sem, p0, p1, p2, p3_, p4, p5, n0, i0, e1]
            subst hm hpa hqu
            exact one_done HX3.out.hb.size HXF.out.hb.drew (by rw [hxs]; exact HWF.out.drew) hpt HO2.out rfl
          | succ k =>
            obtain ⟨mv, hmv⟩ : ∃ mv, h.n = some mv := by
              cases hh2 : h.n with
              | none => rw [hh2] at hn0; cases hn0
              | some mv => exact ⟨mv, rfl⟩
            have hk : mv = k + 1 := by rw [hmv] at hn0; exact hn0
            have hmb := hbn mv hmv
            have hnz : Ht.nz h.n = ((k + 1 : Nat) : Int) := by rw [hmv, hk]; rfl
            replace HO2 := am (HO2.out.trans (show _ = (Ht.pbytes (k + 1) (a0.data.toList.drop p3)).bind (fun y => .ok (⟨f.1, f.2.1, f.2.2, h.heads, y.1, h.close⟩, y.2)) by unfold Ht.pbody; rw [if_neg (by rw [hch]; simp), if_neg (by rw [hn0]; simp), hn0]))
            rw [hnz]
            have hz : decide (0 < (((k + 1 : Nat) : Int))) = true := decide_eq_true (by omega)
            have hlen : (a0.data.toList.drop p3).length = a0.size - p3 := by rw [List.length_drop, ← Lib.size_eq]
            generalize hkn : k + 1 = n at *
            by_cases hsh : a0.size - p3 < n
            · replace HO2 := am (HO2.out.trans (show _ = Ht.Out.bad 0 by unfold Ht.pbytes; rw [if_pos (by rw [hlen]; exact hsh)]; rfl))
              have CB := bytes_bad gr n a0 p3 w _ _ HR2.out hp3 hs hsh (by omega)
              generalize hc0 : (0 : Int) = c at CB HO2
              clear hm hpa hqu HW
              go_wp2_with (go_at_call 20; refine CB.mono ?_; rintro e w7 ⟨⟨sh, rfl⟩, hr⟩; replace HX2 := am (HX2.out.keep HR2.out.hc hr.hk hr.hb); clear hr)
              refine leaves_cons (f := 15) (args := #[.pointer (some ⟨gq, 0, none⟩), .pointer (some ⟨gn, 0, none⟩), .pointer (some ⟨gi, 0, none⟩), .pointer (some ⟨ge, 0, none⟩)]) (by simp) (by simp [go_sem]) ?_
              refine (catch_fault gq gn gi ge _ _ _ _ _ _ _ _ _ c sh [] w _ HX2.out).mono ?_
              rintro e u' w'' ⟨rfl, rfl, hx⟩
              obtain ⟨p0, p1, p2, p3, p4, p5, q0, q1, q2, q3, q4, q5⟩ := cz6 hx.q
              obtain ⟨n0, n1⟩ := cz1 hx.n
              obtain ⟨i0, i1⟩ := cz1 hx.i
              obtain ⟨e1, e2⟩ := cz1 hx.e
              simp [Leaves, settle, results, Tryd.results12, go_sem, p0, p1, p2, p3, p4, p5, n0, i0, e1]
              exact one_gives hx HO2.out
            · replace HO2 := am (HO2.out.trans (show _ = Ht.Out.ok (⟨f.1, f.2.1, f.2.2, h.heads, (a0.data.toList.drop p3).take n, h.close⟩, (a0.data.toList.drop p3).drop n) by unfold Ht.pbytes; rw [if_neg (by rw [hlen]; exact hsh)]; rfl))
              rw [List.drop_drop] at HO2
              have CB := bytes_ok gr n a0 p3 w _ _ HR2.out hp3 hs (by omega)
              have hbd0 : (⟨((a0.data.toList.drop p3).take n).toArray⟩ : ByteArray) = a0.extract p3 (p3 + n) := (ba_eq (by rw [Lib.extract_data, Nat.add_sub_cancel_left])).symm
              generalize hbd : a0.extract p3 (p3 + n) = bd at CB hbd0
              clear hbd
              have hbd := hbd0
              have hpt : p3 + n ≤ a0.size := by omega
              generalize p3 + n = pt at *
              go_upto_region 9 with (go_at_call 20; refine CB.mono ?_; rintro e w7 ⟨rfl, hr⟩; replace HX2 := am (HX2.out.keep HR2.out.hc hr.hk hr.hb); replace HW := am (HW.out.keep lr5 hr.hk); replace HR2 := am hr.here; clear hr; obtain ⟨p0, p1, p2, p3_, p4, p5, q0, q1, q2, q3, q4, q5⟩ := cz6 HX2.out.q)
              have HXT := am (show Bx gq gn gi ge #[.string m, .string pa, .string qu, .slice A0 xs.length d0, .string bd, .bool h.close] (.int .i64 0) (.bool false) (.int .i64 0) w (w7.setCell ⟨gq, 4, none⟩ (.string bd)) from ⟨blk_put HX2.out.q 4 _ rfl, blk_far HX2.out.n nqn _, blk_far HX2.out.i nqi _, blk_far HX2.out.e nqe _, below_set HX2.out.hb HX2.out.lq, HX2.out.lq, HX2.out.ln, HX2.out.li, HX2.out.le⟩)
              have HRT := am (show Rd gr a0 pt w (w7.setCell ⟨gq, 4, none⟩ (.string bd)) (w7.setCell ⟨gq, 4, none⟩ (.string bd)) from ⟨blk_far HR2.out.hc neq _, HXT.out.hb, KeepBut.refl _ _ _, HG.out, HR2.out.hl⟩)
              have HWT := am (HW.out.set lq5 4 (.string bd))
              generalize w7.setCell ⟨gq, 4, none⟩ (.string bd) = wt at *
              clear HX2 HR2 HW p0 p1 p2 p3_ p4 p5 q0 q1 q2 q3 q4 q5
              obtain ⟨p0, p1, p2, p3_, p4, p5, q0, q1, q2, q3, q4, q5⟩ := cz6 HXT.out.q
              obtain ⟨n0, n1⟩ := cz1 HXT.out.n
              obtain ⟨i0, i1⟩ := cz1 HXT.out.i
              obtain ⟨e1, e2⟩ := cz1 HXT.out.e
              obtain ⟨c0, c1, f0, f1⟩ := cz2 HRT.out.hc
              have nqn' := Ne.symm nqn
              have nqi' := Ne.symm nqi
              have nqe' := Ne.symm nqe
              have nni : gn ≠ gi := blk_ne HXT.out.n HXT.out.i (by decide)
              have nne : gn ≠ ge := blk_ne HXT.out.n HXT.out.e (by decide)
              have nie : gi ≠ ge := blk_ne HXT.out.i HXT.out.e (by decide)
              go_region
              go_wp2
              clear nqn' nqi' nqe' nni nne nie c0 c1 f0 f1
              have HXF := am (boxr (boxq HXT.out (.string m) (.string pa) (.string qu) (.slice A0 xs.length d0) (.string bd) (.bool h.close)) (.int .i64 (pt : Int)) (.bool true) (.int .i64 0))
              have HWF := am ((((HWT.out.six lq5 (.string m) (.string pa) (.string qu) (.slice A0 xs.length d0) (.string bd) (.bool h.close)).set ln5 0 (.int .i64 (pt : Int))).set li5 0 (.bool true)).set le5 0 (.int .i64 0))
              generalize (((((((((wt.setCell ⟨gq, 0, none⟩ (.string m)).setCell ⟨gq, 1, none⟩ (.string pa)).setCell ⟨gq, 2, none⟩ (.string qu)).setCell ⟨gq, 3, none⟩ (.slice A0 xs.length d0)).setCell ⟨gq, 4, none⟩ (.string bd)).setCell ⟨gq, 5, none⟩ (.bool h.close)).setCell ⟨gn, 0, none⟩ (.int .i64 (pt : Int))).setCell ⟨gi, 0, none⟩ (.bool true)).setCell ⟨ge, 0, none⟩ (.int .i64 0)) = w9 at *
              clear p0 p1 p2 p3_ p4 p5 q0 q1 q2 q3 q4 q5 n0 n1 i0 i1 e1 e2
              obtain ⟨p0, p1, p2, p3_, p4, p5, q0, q1, q2, q3, q4, q5⟩ := cz6 HXF.out.q
              obtain ⟨n0, n1⟩ := cz1 HXF.out.n
              obtain ⟨i0, i1⟩ := cz1 HXF.out.i
              obtain ⟨e1, e2⟩ := cz1 HXF.out.e
              refine leaves_cons (f := 15) (args := #[.pointer (some ⟨gq, 0, none⟩), .pointer (some ⟨gn, 0, none⟩), .pointer (some ⟨gi, 0, none⟩), .pointer (some ⟨ge, 0, none⟩)]) (by simp) (by simp [go_sem]) ?_
              refine (catch_idle _ _ _ _ _).mono ?_
              rintro e u' w'' ⟨rfl, rfl, hw9⟩
              rw [hw9]
              simp [Leaves, settle, results, Tryd.results12, go_sem, p0, p1, p2, p3_, p4, p5, n0, i0, e1]
              subst hm hpa hqu
              exact one_done HX3.out.hb.size HXF.out.hb.drew (by rw [hxs]; exact HWF.out.drew) hpt HO2.out hbd.symm
end Go.Proofs.YtcecdbbomadppaaDoor.Hw
end
