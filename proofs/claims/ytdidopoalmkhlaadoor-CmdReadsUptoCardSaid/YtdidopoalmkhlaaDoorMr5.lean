/- Merged of several texts of this session's by merge.py. -/
import Derived.Test.YtdidopoalmkhlaaDoorMr3
import Derived.Test.YtdidopoalmkhlaaDoorMr4
import Derived.Lib.Hide
import Derived.IntWalk
import Derived.Deep.QuietTactic
import Derived.BigQuiet
import Derived.OwnWalk
import Derived.Lib.Walk
import Derived.Deep.RegionWith
section
namespace Go.Proofs.YtdidopoalmkhlaaDoor.Or
open Go.RowKit Go.Proofs.YtdidopoalmkhlaaDoorW.PrintWords Go.Proofs.YtdidopoalmkhlaaDoorW.PrintLast Go.Proofs.YtdidopoalmkhlaaDoorW.PrintMore
attribute [local go_sem] max2_int min2_int max_two min_two max_three min_three max_four min_four
set_option linter.unusedVariables false
set_option linter.unusedSimpArgs false
def cmd_Digest.f (k : Nat) (a0_0 : Int) (a0_1 : ByteArray) (a0_2 : ByteArray) (a0_3 : ByteArray) (a0_4 : Int) (a0_5 : Int) (a0_6 : ByteArray) (l0_7 : List (S82)) (l0_8 : List (S62)) : Option (ByteArray × Int) := (cmd_Check.f k a0_0 a0_1 a0_2 a0_3 a0_4 a0_5 a0_6 l0_7 l0_8).bind fun t172 => (if t172 = 0 then ((cmd_told.f k a0_0 (⟨#[]⟩ : ByteArray) a0_2 a0_3 a0_4 a0_5 a0_6 l0_7 l0_8).bind fun t173 => ((digest_Tagged.f 67 (([t173] : List ByteArray))).bind fun t177 => ((digest_Hex.f t177).bind fun t178 => (some (t178, 0))))) else (some ((⟨#[]⟩ : ByteArray), 1)))
theorem cmd_Digest.mono : ∀ a0 a1 a2 a3 a4 a5 a6 a7 a8 k, LeO (cmd_Digest.f k a0 a1 a2 a3 a4 a5 a6 a7 a8) (cmd_Digest.f (k + 1) a0 a1 a2 a3 a4 a5 a6 a7 a8) := by
 intro a0 a1 a2 a3 a4 a5 a6 a7 a8 k
 unfold cmd_Digest.f
 repeat' (with_reducible first | exact cmd_Check.mono _ _ _ _ _ _ _ _ _ _ | exact cmd_told.mono _ _ _ _ _ _ _ _ _ _ | exact LeO.refl _ | exact LeO.none _ | refine LeO.ite ?_ ?_ | refine LeO.bind ?_ (fun _ => ?_))
set_option maxHeartbeats 8000000 in
set_option maxRecDepth 100000 in
theorem cmd_Digest.calls (k : Nat) (a0_0 : Int) (a0_1 : ByteArray) (a0_2 : ByteArray) (a0_3 : ByteArray) (a0_4 : Int) (a0_5 : Int) (a0_6 : ByteArray) (A0_7 : Option Addr) (c0_7 : Nat) (l0_7 : List (S82)) (A0_8 : Option Addr) (c0_8 : Nat) (l0_8 : List (S62)) (r1 : ByteArray) (r2 : Int) (w : World) (hr0_7 : Kd.C k82 w A0_7 l0_7.length l0_7) (hc0_7 : l0_7.length ≤ c0_7) (hr0_8 : Kd.C k62 w A0_8 l0_8.length l0_8) (hc0_8 : l0_8.length ≤ c0_8) (h : cmd_Digest.f k a0_0 a0_1 a0_2 a0_3 a0_4 a0_5 a0_6 l0_7 l0_8 = some (r1, r2)) (hG : GG w) :
  Calls Tryd.prog 11 #[.agg #[.int .i64 a0_0, .string a0_1, .string a0_2, .string a0_3, .int .i64 a0_4, .int .i64 a0_5, .string a0_6, .slice A0_7 l0_7.length c0_7, .slice A0_8 l0_8.length c0_8]] w fun e w' => e = .returned (.tuple #[.string r1, .int .i64 r2]) ∧ Below w.heap.size w w' := by
 have HG := am hG
 clear hG
 have hu25 := Tryd.underlying25
 have HR0_7 := am hr0_7
 have HC0_7 := am hc0_7
 clear hr0_7 hc0_7
 have HR0_8 := am hr0_8
 have HC0_8 := am hc0_8
 clear hr0_8 hc0_8
 have HB := am (Below.refl w.heap.size w)
 have H := h
 clear h
 unfold cmd_Digest.f at H
 replace H := obE H
 obtain ⟨t172, A2, H⟩ := H
 by_cases c3 : t172 = 0
 ·
  rw [if_pos c3] at H
  have c3b0 := beq_iff_eq.mpr c3
  have c3b1 := bne_eq_false_iff_eq.mpr c3
  clear c3
  replace H := obE H
  obtain ⟨t173, A4, H⟩ := H
  obtain ⟨y174, hy174⟩ : ∃ y_ : List ByteArray, y_ = (([t173] : List ByteArray)) := ⟨_, rfl⟩
  replace H : ((digest_Tagged.f 67 y174).bind fun t177 => ((digest_Hex.f t177).bind fun t178 => (some (t178, 0)))) = some (r1, r2) := by first | (rw [hy174]; with_reducible exact H) | (have H2_ := (Option.bind_some _ _).symm.trans H; rw [hy174]; with_reducible exact H2_) | (have H2_ := (Option.bind_some _ _).symm.trans H; with_reducible exact H2_) | with_reducible exact H | (rw [hy174]; exact H) | exact H
  have Ny174 := am hy174
  clear hy174
  replace H := obE H
  obtain ⟨t177, A5, H⟩ := H
  replace H := obE H
  obtain ⟨t178, A6, H⟩ := H
  simp only [Option.some.injEq, Prod.mk.injEq] at H
  obtain ⟨rfl, rfl⟩ := H
  go_enter Tryd.func11, Tryd.ntmps11
  go_wp2_with (first | ((with_reducible refine gate_dst (N := 1) rfl ?_); refine bx 1 #[.int .i64 a0_0, .string a0_1, .string a0_2, .string a0_3, .int .i64 a0_4, .int .i64 a0_5, .string a0_6, .slice A0_7 l0_7.length c0_7, .slice A0_8 l0_8.length c0_8] 25 ?_; intro gb171 hg w7 hbox hb; have BK171 := am (hbox); have GW171 := gsz hg HB.out; have GE171 := gsz hg HB.out; replace HB := am (below_step (bw HB.out) hb); clear hb hbox hg; obtain ⟨hcz8_0, hcz8_1, hcz8_2, hcz8_3, hcz8_4, hcz8_5, hcz8_6, hcz8_7, hcz8_8, hfz8_0, hfz8_1, hfz8_2, hfz8_3, hfz8_4, hfz8_5, hfz8_6, hfz8_7, hfz8_8⟩ := cz9 BK171.out) | ((with_reducible refine gate_callee (f := 14) rfl ?_); refine goesL_ (some 5) rfl rfl Tryd.func14 (by kernel_rfl) rfl #[.agg #[.int .i64 a0_0, .string a0_1, .string a0_2, .string a0_3, .int .i64 a0_4, .int .i64 a0_5, .string a0_6, .slice A0_7 l0_7.length c0_7, .slice A0_8 l0_8.length c0_8]] rfl gl ?_; (with_reducible refine (cmd_Check.calls k a0_0 a0_1 a0_2 a0_3 a0_4 a0_5 a0_6 _ _ l0_7 _ _ l0_8 t172 _ ?side1 ?side2 ?side3 ?side4 A2.out ?sideG).mono ?_); (case sideG => first | exact HG.out | exact gg_below HG.out (bws HB.out)); (case side1 => exact kC (Kd.C_below HR0_7.out HB.out)); (case side2 => exact HC0_7.out); (case side3 => exact kC (Kd.C_below HR0_8.out HB.out)); (case side4 => exact HC0_8.out); rintro e w9 ⟨rfl, hb⟩; refine ⟨_, rfl, ?_⟩; replace BK171 := bb BK171.out hb; replace HB := am (below_step (bws HB.out) hb); (try clear hb); obtain ⟨hcz10_0, hcz10_1, hcz10_2, hcz10_3, hcz10_4, hcz10_5, hcz10_6, hcz10_7, hcz10_8, hfz10_0, hfz10_1, hfz10_2, hfz10_3, hfz10_4, hfz10_5, hfz10_6, hfz10_7, hfz10_8⟩ := cz9 BK171.out) | ((with_reducible refine gate_callee (f := 23) rfl ?_); refine goesL_ (some 9) rfl rfl Tryd.func23 (by kernel_rfl) rfl #[.agg #[.int .i64 a0_0, .string (⟨#[]⟩ : ByteArray), .string a0_2, .string a0_3, .int .i64 a0_4, .int .i64 a0_5, .string a0_6, .slice A0_7 l0_7.length c0_7, .slice A0_8 l0_8.length c0_8]] rfl gl ?_; (with_reducible refine (cmd_told.calls k a0_0 (⟨#[]⟩ : ByteArray) a0_2 a0_3 a0_4 a0_5 a0_6 _ _ l0_7 _ _ l0_8 t173 _ ?side1 ?side2 ?side3 ?side4 A4.out).mono ?_); (case side1 => exact Kd.C_below HR0_7.out (bws HB.out)); (case side2 => exact HC0_7.out); (case side3 => exact Kd.C_below HR0_8.out (bws HB.out)); (case side4 => exact HC0_8.out); rintro e w11 ⟨rfl, hb⟩; refine ⟨_, rfl, ?_⟩; replace BK171 := am (blk_below (g := gb171) (o := .cells #[.int .i64 a0_0, .string (⟨#[]⟩ : ByteArray), .string a0_2, .string a0_3, .int .i64 a0_4, .int .i64 a0_5, .string a0_6, .slice A0_7 l0_7.length c0_7, .slice A0_8 l0_8.length c0_8] 25 (0, 0)) (bkp BK171.out) hb); replace HB := am (below_step (bws HB.out) hb); (try clear hb)) | ((with_reducible refine gate_dst (N := 10) rfl ?_); refine Kd.R_lit Kd.string _ 9 ?hg (N := 10) ?hd (xs := ([t173] : List ByteArray)) (inner := [.string t173]) (ok := fun _ => True) (okp := fun _ => True) ?hr ?hp (fun _ hk => hk) trivial (Below.refl _ _) (Nat.le_refl _) (by simp) ?_; (case hd => rfl); (case hg => rfl); (case hr => first | (go_simp; done) | (go_simp; rfl)); (case hp => exact (Reps.one (show Kd.M Kd.string _ _ _ t173 [.string t173] from rfl) (Reps.none _ _))); intro v175 w12 ho13 hb hg_ hnew_; clear hg_ hnew_; (first | rw [← Ny174.out] at ho13 | (simp only [Int.reduceToNat] at ho13; rw [← Ny174.out] at ho13)); have HO176 := am (Kd.R_lower ho13 (below_size (bws HB.out))); replace BK171 := bb BK171.out hb; replace HB := am (below_step (bws HB.out) hb); clear hb ho13; obtain ⟨Ao14, co14, eo14⟩ := Kd.R_slice HO176.out; subst eo14) | ((with_reducible refine gate_callee (f := 27) rfl ?_); refine goesL_ (some 11) rfl rfl Tryd.func27 (by kernel_rfl) rfl #[.int .u8 67, .slice Ao14 y174.length co14] rfl gl ?_; (with_reducible refine (digest_Tagged.calls 67 _ _ y174 t177 _ ?side1 ?side2 A5.out ?sideG).mono ?_); (case sideG => first | exact HG.out | exact gg_below HG.out (bws HB.out)); (case side1 => repeat (first | exact (Kd.R_reads' HO176.out).2.2 | (with_reducible refine Kd.C_alloc ?_ _) | (with_reducible refine Kd.C_drewN ?_ _) | (with_reducible refine Kd.C_drew ?_))); (case side2 => exact (Kd.R_reads' HO176.out).2.1); rintro e w15 ⟨rfl, hb⟩; refine ⟨_, rfl, ?_⟩; replace HO176 := am (Kd.R_below (kR HO176.out) hb); replace BK171 := bb BK171.out hb; replace HB := am (below_step (bws HB.out) hb); (try clear hb)) | ((with_reducible refine gate_callee (f := 26) rfl ?_); refine goesL_ (some 12) rfl rfl Tryd.func26 (by kernel_rfl) rfl #[.string t177] rfl gl ?_; (with_reducible refine (digest_Hex.calls t177 t178 _ A6.out).mono ?_); rintro e w16 ⟨rfl, hb⟩; refine ⟨_, rfl, ?_⟩; replace HO176 := am (Kd.R_below (kR HO176.out) hb); replace BK171 := bb BK171.out hb; replace HB := am (below_step (bws HB.out) hb); (try clear hb)))
  go_ret2
  exact ⟨rf, bws HB.out⟩
 ·
  rw [if_neg c3] at H
  have c3b0 := beq_eq_false_iff_ne.mpr c3
  have c3b1 := bne_iff_ne.mpr c3
  simp only [Option.some.injEq, Prod.mk.injEq] at H
  obtain ⟨rfl, rfl⟩ := H
  go_enter Tryd.func11, Tryd.ntmps11
  go_wp2_with (first | ((with_reducible refine gate_dst (N := 1) rfl ?_); refine bx 1 #[.int .i64 a0_0, .string a0_1, .string a0_2, .string a0_3, .int .i64 a0_4, .int .i64 a0_5, .string a0_6, .slice A0_7 l0_7.length c0_7, .slice A0_8 l0_8.length c0_8] 25 ?_; intro gb171 hg w17 hbox hb; have BK171 := am (hbox); have GW171 := gsz hg HB.out; have GE171 := gsz hg HB.out; replace HB := am (below_step (bw HB.out) hb); clear hb hbox hg; obtain ⟨hcz18_0, hcz18_1, hcz18_2, hcz18_3, hcz18_4, hcz18_5, hcz18_6, hcz18_7, hcz18_8, hfz18_0, hfz18_1, hfz18_2, hfz18_3, hfz18_4, hfz18_5, hfz18_6, hfz18_7, hfz18_8⟩ := cz9 BK171.out) | ((with_reducible refine gate_callee (f := 14) rfl ?_); refine goesL_ (some 5) rfl rfl Tryd.func14 (by kernel_rfl) rfl #[.agg #[.int .i64 a0_0, .string a0_1, .string a0_2, .string a0_3, .int .i64 a0_4, .int .i64 a0_5, .string a0_6, .slice A0_7 l0_7.length c0_7, .slice A0_8 l0_8.length c0_8]] rfl gl ?_; (with_reducible refine (cmd_Check.calls k a0_0 a0_1 a0_2 a0_3 a0_4 a0_5 a0_6 _ _ l0_7 _ _ l0_8 t172 _ ?side1 ?side2 ?side3 ?side4 A2.out ?sideG).mono ?_); (case sideG => first | exact HG.out | exact gg_below HG.out (bws HB.out)); (case side1 => exact kC (Kd.C_below HR0_7.out HB.out)); (case side2 => exact HC0_7.out); (case side3 => exact kC (Kd.C_below HR0_8.out HB.out)); (case side4 => exact HC0_8.out); rintro e w19 ⟨rfl, hb⟩; refine ⟨_, rfl, ?_⟩; replace BK171 := bb BK171.out hb; replace HB := am (below_step (bws HB.out) hb); (try clear hb)))
  go_ret2
  exact ⟨rf, bws HB.out⟩
def IsS119 (w0 W : World) (g : Nat) (f0 : ByteArray) (f1 : Int) (f2 : Int) : Prop := W.heap[g]? = some (.cells #[.string f0, .int .i64 f1, .int .i64 f2] 119 (0, 0)) ∧ w0.heap.size ≤ g
theorem IsS119.grown {w0 W : World} {g : Nat} {f0 : ByteArray} {f1 : Int} {f2 : Int} {W1 : World} {row : Option Nat} (h : IsS119 w0 W g f0 f1 f2) (hw : W.grownBy W1 row) (hne : some g ≠ row) : IsS119 w0 W1 g f0 f1 f2 := by
 obtain ⟨hb, hg⟩ := h
 exact ⟨blk_grown hb hw hne, hg⟩
theorem IsS119.kept {w0 W : World} {g : Nat} {f0 : ByteArray} {f1 : Int} {f2 : Int} {W1 : World} {S : Nat → Prop} (h : IsS119 w0 W g f0 f1 f2) (hk : Kept W W1 S) (hne : ¬ S g) : IsS119 w0 W1 g f0 f1 f2 := by
 obtain ⟨hb, hg⟩ := h
 exact ⟨blk_kept hb hk hne, hg⟩
theorem IsS119.below {w0 W : World} {g : Nat} {f0 : ByteArray} {f1 : Int} {f2 : Int} {W1 : World} (h : IsS119 w0 W g f0 f1 f2) (hw : Below W.heap.size W W1) : IsS119 w0 W1 g f0 f1 f2 := h.grown (grown_of_below hw none) (by simp)
theorem IsS119.alloc {w0 W : World} {g : Nat} {f0 : ByteArray} {f1 : Int} {f2 : Int} (h : IsS119 w0 W g f0 f1 f2) (o : Obj) : IsS119 w0 (W.alloc o) g f0 f1 f2 := h.below (below_alloc (Below.refl _ _) o)
theorem IsS119.drewN {w0 W : World} {g : Nat} {f0 : ByteArray} {f1 : Int} {f2 : Int} (h : IsS119 w0 W g f0 f1 f2) (m : Nat) : IsS119 w0 (W.drewN m) g f0 f1 f2 := h
theorem IsS119.drew {w0 W : World} {g : Nat} {f0 : ByteArray} {f1 : Int} {f2 : Int} (h : IsS119 w0 W g f0 f1 f2) : IsS119 w0 W.drew g f0 f1 f2 := h
theorem IsS119.at_ {w0 W : World} {g : Nat} {f0 : ByteArray} {f1 : Int} {f2 : Int} {w' : World} {m : Nat} (hq : W.drewN m = w') (h : IsS119 w0 W g f0 f1 f2) : IsS119 w0 w' g f0 f1 f2 := by subst hq; exact IsS119.drewN h m
theorem IsS119.apart {w0 W : World} {g : Nat} {f0 : ByteArray} {f1 : Int} {f2 : Int} {α : Type} {d : Kd α} {e : Nat} {base : Nat} {ok : Nat → Prop} {v : Value} {xs : List α} (h : IsS119 w0 W g f0 f1 f2) (ho : d.R e W base ok v xs) (ht : ∀ q, q ∈ e :: d.E → q ≠ 119) : d.R e W base (fun k => ok k ∧ k ≠ g) v xs := by
 obtain ⟨hb, hg⟩ := h
 exact Kd.R_types ho hb ht
theorem IsS119.own_ne {w0 W : World} {g : Nat} {f0 : ByteArray} {f1 : Int} {f2 : Int} {α : Type} {d : Kd α} {e : Nat} {base : Nat} {ok : Nat → Prop} {v : Value} {xs : List α} (h : IsS119 w0 W g f0 f1 f2) (ho : d.R e W base ok v xs) (ht : e ≠ 119) : some g ≠ v.ownBlock := by
 obtain ⟨hb, hg⟩ := h
 exact Kd.R_ne ho hb ht
theorem IsS119.lt {w0 W : World} {g : Nat} {f0 : ByteArray} {f1 : Int} {f2 : Int} (h : IsS119 w0 W g f0 f1 f2) : g < W.heap.size := by
 obtain ⟨hb, hg⟩ := h
 exact blk_lt hb
theorem IsS119.ge {w0 W : World} {g : Nat} {f0 : ByteArray} {f1 : Int} {f2 : Int} (h : IsS119 w0 W g f0 f1 f2) : w0.heap.size ≤ g := by
 obtain ⟨hb, hg⟩ := h
 exact hg
theorem IsS119.far {w0 W : World} {g : Nat} {f0 : ByteArray} {f1 : Int} {f2 : Int} {p : Addr} (h : IsS119 w0 W g f0 f1 f2) (hne : g ≠ p.block) (u : Value) : IsS119 w0 (W.setCell p u) g f0 f1 f2 := by
 obtain ⟨hb, hg⟩ := h
 exact ⟨blk_far hb hne u, hg⟩
theorem cellS119_0 {W : World} {g : Nat} {f0 : ByteArray} {f1 : Int} {f2 : Int} (h : W.heap[g]? = some (.cells #[.string f0, .int .i64 f1, .int .i64 f2] 119 (0, 0))) : W.cell? ⟨g, 0, none⟩ = some (.string f0) := (blk_cell h 0).trans rfl
theorem IsS119.set_0 {w0 W : World} {g : Nat} {f0 : ByteArray} {f1 : Int} {f2 : Int} (h : IsS119 w0 W g f0 f1 f2) (x : ByteArray) : IsS119 w0 (W.setCell ⟨g, 0, none⟩ (.string x)) g x f1 f2 := by
 obtain ⟨hb, hg⟩ := h
 exact ⟨by simpa using blk_set hb 0 (.string x), hg⟩
theorem cellS119_1 {W : World} {g : Nat} {f0 : ByteArray} {f1 : Int} {f2 : Int} (h : W.heap[g]? = some (.cells #[.string f0, .int .i64 f1, .int .i64 f2] 119 (0, 0))) : W.cell? ⟨g, 1, none⟩ = some (.int .i64 f1) := (blk_cell h 1).trans rfl
theorem IsS119.set_1 {w0 W : World} {g : Nat} {f0 : ByteArray} {f1 : Int} {f2 : Int} (h : IsS119 w0 W g f0 f1 f2) (x : Int) : IsS119 w0 (W.setCell ⟨g, 1, none⟩ (.int .i64 x)) g f0 x f2 := by
 obtain ⟨hb, hg⟩ := h
 exact ⟨by simpa using blk_set hb 1 (.int .i64 x), hg⟩
theorem cellS119_2 {W : World} {g : Nat} {f0 : ByteArray} {f1 : Int} {f2 : Int} (h : W.heap[g]? = some (.cells #[.string f0, .int .i64 f1, .int .i64 f2] 119 (0, 0))) : W.cell? ⟨g, 2, none⟩ = some (.int .i64 f2) := (blk_cell h 2).trans rfl
theorem IsS119.set_2 {w0 W : World} {g : Nat} {f0 : ByteArray} {f1 : Int} {f2 : Int} (h : IsS119 w0 W g f0 f1 f2) (x : Int) : IsS119 w0 (W.setCell ⟨g, 2, none⟩ (.int .i64 x)) g f0 f1 x := by
 obtain ⟨hb, hg⟩ := h
 exact ⟨by simpa using blk_set hb 2 (.int .i64 x), hg⟩
def octet_NewReader.f (a0 : ByteArray) : Option (ByteArray × Int × Int) := some (a0, 0, 0)
set_option maxHeartbeats 8000000 in
set_option maxRecDepth 100000 in
theorem octet_NewReader.calls (a0 : ByteArray) (r1 : ByteArray) (r2 : Int) (r3 : Int) (w0 w : World) (hB : Below w0.heap.size w0 w) (h : octet_NewReader.f a0 = some (r1, r2, r3)) :
  Calls Tryd.prog 46 #[.string a0] w fun e w' => ∃ g_ : Nat, e = .returned (.pointer (some ⟨g_, 0, none⟩)) ∧ IsS119 w0 w' g_ r1 r2 r3 ∧ Below w0.heap.size w0 w' ∧ Below w.heap.size w w' := by
 have hu119 := Tryd.underlying119
 have HBW := am (Below.refl w.heap.size w)
 have HW0 := am hB.size
 have HB := am hB
 clear hB
 have H := h
 clear h
 unfold octet_NewReader.f at H
 simp only [Option.some.injEq, Prod.mk.injEq] at H
 obtain ⟨rfl, rfl, rfl⟩ := H
 go_enter Tryd.func46, Tryd.ntmps46
 go_wp2_with (first | ((with_reducible refine gate_dst (N := 5) rfl ?_); refine bx 5 #[.string a0, .int .i64 0, .int .i64 0] 119 ?_; intro gb179 hg w2 hbox hb; have BK179 := am (hbox); have GW179 := gsz hg HBW.out; have GE179 := am ((Nat.le_trans HW0.out (by rw [hg]; exact (below_size (bw HBW.out)) : w.heap.size ≤ gb179) : w0.heap.size ≤ gb179)); replace HBW := am (below_step HBW.out hb); replace HB := am (below_step (bw HB.out) hb); clear hb hbox hg))
 go_ret
 exact ⟨_, rfl, (show IsS119 w0 _ gb179 a0 0 0 from ⟨by (with_reducible repeat (first | refine blk_drewN ?_ _ | refine blk_drew ?_ | refine blk_alloc ?_ _)); exact BK179.out, GE179.out⟩), bws HB.out, by repeat (first | (with_reducible first | exact HBW.out | apply below_alloc | apply pw_below_drewN | apply below_drew1 | refine below_set ?_ GW179.out) | exact HBW.out)⟩
def octet_Reader_Err.f (s0_0 : ByteArray) (s0_1 : Int) (s0_2 : Int) : Option (Int × ByteArray × Int × Int) := some (s0_2, s0_0, s0_1, s0_2)
set_option maxHeartbeats 8000000 in
set_option maxRecDepth 100000 in
theorem octet_Reader_Err.calls (g : Nat) (s0_0 : ByteArray) (s0_1 : Int) (s0_2 : Int) (r1 : Int) (r2 : ByteArray) (r3 : Int) (r4 : Int) (w0 w : World) (hI : IsS119 w0 w g s0_0 s0_1 s0_2) (hB : Below w0.heap.size w0 w) (h : octet_Reader_Err.f s0_0 s0_1 s0_2 = some (r1, r2, r3, r4)) :
  Calls Tryd.prog 77 #[.pointer (some ⟨g, 0, none⟩)] w fun e w' => e = .returned (.int .i64 r1) ∧ IsS119 w0 w' g r2 r3 r4 ∧ Below w0.heap.size w0 w' ∧ KeepBut w w' g none := by
 have HI0 := am hI
 have HK := am (KeepBut.refl w g none)
 have HL := am hB.size
 clear hI
 have HW0 := am hB.size
 have HB := am hB
 clear hB
 have H := h
 clear h
 unfold octet_Reader_Err.f at H
 simp only [Option.some.injEq, Prod.mk.injEq] at H
 obtain ⟨rfl, rfl, rfl, rfl⟩ := H
 obtain ⟨HGz2, hgz2⟩ := HI0.out
 have hcz2_0 := cellS119_0 HGz2
 have hcz2_1 := cellS119_1 HGz2
 have hcz2_2 := cellS119_2 HGz2
 have hfz2_0 := blk_frozen HGz2 0
 have hfz2_1 := blk_frozen HGz2 1
 have hfz2_2 := blk_frozen HGz2 2
 clear HGz2 hgz2
 go_enter Tryd.func77, Tryd.ntmps77
 go_wp2
 go_ret
 exact ⟨rf, by repeat (first | (with_reducible first | exact HI0.out | apply IsS119.alloc | apply IsS119.drewN | apply IsS119.drew | apply IsS119.set_0 | apply IsS119.set_1 | apply IsS119.set_2) | exact HI0.out), by repeat (first | (with_reducible first | exact HB.out | apply below_alloc | apply pw_below_drewN | apply below_drew1 | refine below_set ?_ (IsS119.ge HI0.out)) | exact HB.out), by repeat (first | (with_reducible first | exact HK.out | apply KeepBut.set_ | apply keep_drewN | apply keep_drew | apply keep_alloc) | exact HK.out)⟩
mutual
def octet_ReadNumber.j0 : Nat → ByteArray → Int → Bool → Option (Int × Int × Int)
 | 0, _, _, _ => none
 | k + 1, x0, x1, x17 => if x17 = true then (some (0, 0, 1)) else (octet_ReadNumber.l0 k x0 x1 0 0)
def octet_ReadNumber.l0 : Nat → ByteArray → Int → Int → Int → Option (Int × Int × Int)
 | 0, _, _, _, _ => none
 | k + 1, x0, x1, x7, x18 => if x18 < 10 then (if (wrap64 (x1 + x18)) ≥ (x0.size : Int) then (some (0, 0, 5)) else (if 0 ≤ (wrap64 (x1 + x18)) then (if (wrap64 (x1 + x18)) < (x0.size : Int) then (if x18 = 9 then (if (bt x0 (wrap64 (x1 + x18))) > 1 then (octet_ReadNumber.j2 k x0 x1 x7 x18 (bt x0 (wrap64 (x1 + x18))) x18 true) else (if x18 > 0 then (octet_ReadNumber.j2 k x0 x1 x7 x18 (bt x0 (wrap64 (x1 + x18))) x18 ((bt x0 (wrap64 (x1 + x18))) == 0)) else (octet_ReadNumber.j2 k x0 x1 x7 x18 (bt x0 (wrap64 (x1 + x18))) x18 false))) else (if x18 > 0 then (octet_ReadNumber.j2 k x0 x1 x7 x18 (bt x0 (wrap64 (x1 + x18))) x18 ((bt x0 (wrap64 (x1 + x18))) == 0)) else (octet_ReadNumber.j2 k x0 x1 x7 x18 (bt x0 (wrap64 (x1 + x18))) x18 false))) else (none)) else (none))) else (some (0, 0, 3))
def octet_ReadNumber.j2 : Nat → ByteArray → Int → Int → Int → Int → Int → Bool → Option (Int × Int × Int)
 | 0, _, _, _, _, _, _, _ => none
 | k + 1, x0, x1, x7, x8, x9, x18, x45 => if x45 = true then (some (0, 0, 3)) else (if 0 ≤ (wrap64 (7 * x8)) then (if x9 < 128 then (some (Go.bits .or .u64 x7 (shl .u64 (IntKind.u64.wrap (Go.bits .and .u8 x9 127)) (wrap64 (7 * x8))), wrap64 ((wrap64 (x1 + x8)) + 1), 0)) else (octet_ReadNumber.l0 k x0 x1 (Go.bits .or .u64 x7 (shl .u64 (IntKind.u64.wrap (Go.bits .and .u8 x9 127)) (wrap64 (7 * x8)))) (wrap64 (x18 + 1)))) else (none))
end
def octet_ReadNumber.f (k : Nat) (a0 : ByteArray) (a1 : Int) : Option (Int × Int × Int) := if a1 < 0 then (octet_ReadNumber.j0 k a0 a1 true) else (octet_ReadNumber.j0 k a0 a1 (decide (a1 > (a0.size : Int))))
theorem octet_ReadNumber.mono_l : ∀ k, (∀ y0 y1 y2, LeO (octet_ReadNumber.j0 k y0 y1 y2) (octet_ReadNumber.j0 (k + 1) y0 y1 y2)) ∧ (∀ y0 y1 y2 y3, LeO (octet_ReadNumber.l0 k y0 y1 y2 y3) (octet_ReadNumber.l0 (k + 1) y0 y1 y2 y3)) ∧ (∀ y0 y1 y2 y3 y4 y5 y6, LeO (octet_ReadNumber.j2 k y0 y1 y2 y3 y4 y5 y6) (octet_ReadNumber.j2 (k + 1) y0 y1 y2 y3 y4 y5 y6))
 | 0 => ⟨fun _ _ _ r h => by simp [octet_ReadNumber.j0] at h, fun _ _ _ _ r h => by simp [octet_ReadNumber.l0] at h, fun _ _ _ _ _ _ _ r h => by simp [octet_ReadNumber.j2] at h⟩
 | k + 1 => by
  obtain ⟨ih0, ih1, ih2⟩ := octet_ReadNumber.mono_l k
  refine ⟨?_, ?_, ?_⟩
  all_goals intros
  all_goals first | unfold octet_ReadNumber.j0 | unfold octet_ReadNumber.l0 | unfold octet_ReadNumber.j2
  all_goals repeat' (with_reducible first | exact ih0 _ _ _ | exact ih1 _ _ _ _ | exact ih2 _ _ _ _ _ _ _ | exact LeO.refl _ | exact LeO.none _ | refine LeO.ite ?_ ?_ | refine LeO.bind ?_ (fun _ => ?_))
theorem octet_ReadNumber.mono : ∀ a0 a1 k, LeO (octet_ReadNumber.f k a0 a1) (octet_ReadNumber.f (k + 1) a0 a1) := by
 intro a0 a1 k
 obtain ⟨ih0, ih1, ih2⟩ := octet_ReadNumber.mono_l k
 unfold octet_ReadNumber.f
 repeat' (with_reducible first | exact ih0 _ _ _ | exact ih1 _ _ _ _ | exact ih2 _ _ _ _ _ _ _ | exact LeO.refl _ | exact LeO.none _ | refine LeO.ite ?_ ?_ | refine LeO.bind ?_ (fun _ => ?_))
set_option maxHeartbeats 8000000 in
set_option maxRecDepth 100000 in
theorem octet_ReadNumber.calls (k : Nat) (a0 : ByteArray) (a1 : Int) (r1 : Int) (r2 : Int) (r3 : Int) (w : World) (h : octet_ReadNumber.f k a0 a1 = some (r1, r2, r3)) :
  Calls Tryd.prog 78 #[.string a0, .int .i64 a1] w fun e w' => e = .returned (.tuple #[.int .u64 r1, .int .i64 r2, .int .i64 r3]) ∧ Drawn0 w w' := by
 have H := h
 clear h
 unfold octet_ReadNumber.f at H
 have HC3 := am H
 clear H
 go_enter Tryd.func78, Tryd.ntmps78
 go_upto_region 1 with (fail)
 go_cut [17] (fun v17 wc => ∃ (kq : Nat) (x17_2 : Bool), v17 = .bool x17_2 ∧ Aside0 (octet_ReadNumber.j0 kq a0 a1 x17_2 = some (r1, r2, r3)) ∧ Aside0 (kq ≤ k) ∧ Drawn0 w wc)
 case first =>
  have H := HC3.out
  clear HC3
  replace H := iteD H
  rcases H with ⟨c4b0, H⟩ | ⟨c4b0, H⟩
  ·
   (first | rw [c4b0] | (simp only [i64_w, i32_w]; rw [c4b0]) | skip)
   have H' := am H
   clear H
   go_wp2
   go_meet
   case rel => exact ⟨_, (true), rs, H', ⟨om⟩, by repeat (first | exact Drawn0.refl _ | apply Drawn0.step)⟩
  ·
   (first | rw [c4b0] | (simp only [i64_w, i32_w]; rw [c4b0]) | skip)
   have H' := am H
   clear H
   go_wp2
   go_meet
   case rel => exact ⟨_, (decide (a1 > (a0.size : Int))), rs, H', ⟨om⟩, by repeat (first | exact Drawn0.refl _ | apply Drawn0.step)⟩
 case rest =>
  clear HC3
  obtain ⟨kq, x17_2, rfl, HA, HJ2, ⟨mc2, rfl⟩⟩ := hcut
  cases kq with
  | zero => exact absurd HA.out (by simp [octet_ReadNumber.j0])
  | succ kj2 =>
   have H := HA.out
   clear HA
   simp only [octet_ReadNumber.j0] at H
   by_cases c5 : x17_2 = true
   ·
    subst c5
    rw [if_pos rfl] at H
    simp only [Option.some.injEq, Prod.mk.injEq] at H
    obtain ⟨rfl, rfl, rfl⟩ := H
    go_wp2
    go_ret3
    exact ⟨by first | rfl | (simp; done) | (simp [*]; done), by repeat (first | exact Drawn0.refl _ | apply Drawn0.step)⟩
   ·
    replace c5 := Bool.eq_false_iff.mpr c5
    subst c5
    rw [if_neg (show ¬ (false = true) by decide)] at H
    have H' := am H
    clear H
    go_wp2
    go_loopg [7, 18] kj2 (fun kq v7 v18 w' => ∃ (x7_2 : Int) (x18_2 : Int), v7 = .int .u64 x7_2 ∧ v18 = .int .i64 x18_2 ∧ Aside0 (octet_ReadNumber.l0 kq a0 a1 x7_2 x18_2 = some (r1, r2, r3)) ∧ Aside0 (kq ≤ kj2) ∧ Drawn0 w w')
    case atStart => exact ⟨(0), (0), rs, rs, H', ⟨Nat.le_refl _⟩, by repeat (first | exact Drawn0.refl _ | apply Drawn0.step)⟩
    case round =>
     clear H'
     try clear c5
     obtain ⟨x7_2, x18_2, rfl, rfl, HA, HK2, ⟨m2, rfl⟩⟩ := hrel
     cases gk with
     | zero => exact absurd HA.out (by simp [octet_ReadNumber.l0])
     | succ k2 =>
      have H := HA.out
      clear HA
      simp only [octet_ReadNumber.l0] at H
      replace H := iteD H
      rcases H with ⟨c6b0, H⟩ | ⟨c6b0, H⟩
      ·
       replace H := iteD H
       rcases H with ⟨c7b0, H⟩ | ⟨c7b0, H⟩
       ·
        simp only [Option.some.injEq, Prod.mk.injEq] at H
        obtain ⟨rfl, rfl, rfl⟩ := H
        go_wp2
        go_ret3
        exact ⟨by first | rfl | (simp; done) | (simp [*]; done), by repeat (first | exact Drawn0.refl _ | apply Drawn0.step)⟩
       ·
        obtain ⟨ji8, hji8⟩ : ∃ j_ : Int, (wrap64 (a1 + x18_2)) = j_ := ⟨_, rfl⟩
        replace H : (if 0 ≤ (ji8) then (if (ji8) < (a0.size : Int) then (if x18_2 = 9 then (if (bt a0 (ji8)) > 1 then (octet_ReadNumber.j2 k2 a0 a1 x7_2 x18_2 (bt a0 (ji8)) x18_2 true) else (if x18_2 > 0 then (octet_ReadNumber.j2 k2 a0 a1 x7_2 x18_2 (bt a0 (ji8)) x18_2 ((bt a0 (ji8)) == 0)) else (octet_ReadNumber.j2 k2 a0 a1 x7_2 x18_2 (bt a0 (ji8)) x18_2 false))) else (if x18_2 > 0 then (octet_ReadNumber.j2 k2 a0 a1 x7_2 x18_2 (bt a0 (ji8)) x18_2 ((bt a0 (ji8)) == 0)) else (octet_ReadNumber.j2 k2 a0 a1 x7_2 x18_2 (bt a0 (ji8)) x18_2 false))) else (none)) else (none)) = some (r1, r2, r3) := by first | (rw [hji8] at H; exact H) | (simp only [hji8] at H ⊢; exact H)
        (try rw [hji8] at c7b0)
        have hji8w : (IntKind.i64.wrap (a1 + x18_2)) = ji8 := (i64_w _).trans hji8
        replace H := iteD H
        rcases H with ⟨c9b0, H⟩ | ⟨_, H⟩
        ·
         replace H := iteD H
         rcases H with ⟨c10b0, H⟩ | ⟨_, H⟩
         ·
          have HC12 := am H
          clear H
          have p11 := pz (ji8)
          have q11 := pl (ji8) (a0.size : Int)
          have hx11 := bt_at a0 (ji8)
          go_upto_region 10 with (fail)
          go_cut [45] (fun v45 wc => ∃ (kq : Nat) (x45_11 : Bool), v45 = .bool x45_11 ∧ Aside0 (octet_ReadNumber.j2 kq a0 a1 x7_2 x18_2 (bt a0 (ji8)) x18_2 x45_11 = some (r1, r2, r3)) ∧ Aside0 (kq ≤ k2) ∧ Drawn0 w wc)
          case first =>
           have H := HC12.out
           clear HC12
           by_cases c13 : x18_2 = 9
           ·
            rw [if_pos c13] at H
            have c13b0 := beq_iff_eq.mpr c13
            have c13b1 := bne_eq_false_iff_eq.mpr c13
            clear c13
            (first | rw [c13b0] | (simp only [i64_w, i32_w]; rw [c13b0]) | skip)
            replace H := iteD H
            rcases H with ⟨c14b0, H⟩ | ⟨c14b0, H⟩
            ·
             have H' := am H
             clear H
             go_wp2
             go_meet
             case rel => exact ⟨_, (true), rs, H', ⟨by have := HJ2.out; have := HK2.out; first | omega | exact Nat.le_refl _⟩, by repeat (first | exact Drawn0.refl _ | apply Drawn0.step)⟩
            ·
             replace H := iteD H
             rcases H with ⟨c15b0, H⟩ | ⟨c15b0, H⟩
             ·
              have H' := am H
              clear H
              go_wp2
              go_meet
              case rel => exact ⟨_, (((bt a0 (ji8)) == 0)), (by first | rfl | (simp; done) | (simp only [← hji8] <;> (first | rfl | simp)) | (simp [*]; done)), H', ⟨by have := HJ2.out; have := HK2.out; first | omega | exact Nat.le_refl _⟩, by repeat (first | exact Drawn0.refl _ | apply Drawn0.step)⟩
             ·
              have H' := am H
              clear H
              go_wp2
              go_meet
              case rel => exact ⟨_, (false), rs, H', ⟨by have := HJ2.out; have := HK2.out; first | omega | exact Nat.le_refl _⟩, by repeat (first | exact Drawn0.refl _ | apply Drawn0.step)⟩
           ·
            rw [if_neg c13] at H
            have c13b0 := beq_eq_false_iff_ne.mpr c13
            have c13b1 := bne_iff_ne.mpr c13
            (first | rw [c13b0] | (simp only [i64_w, i32_w]; rw [c13b0]) | skip)
            replace H := iteD H
            rcases H with ⟨c16b0, H⟩ | ⟨c16b0, H⟩
            ·
             have H' := am H
             clear H
             go_wp2
             go_meet
             case rel => exact ⟨_, (((bt a0 (ji8)) == 0)), (by first | rfl | (simp; done) | (simp only [← hji8] <;> (first | rfl | simp)) | (simp [*]; done)), H', ⟨by have := HJ2.out; have := HK2.out; first | omega | exact Nat.le_refl _⟩, by repeat (first | exact Drawn0.refl _ | apply Drawn0.step)⟩
            ·
             have H' := am H
             clear H
             go_wp2
             go_meet
             case rel => exact ⟨_, (false), rs, H', ⟨by have := HJ2.out; have := HK2.out; first | omega | exact Nat.le_refl _⟩, by repeat (first | exact Drawn0.refl _ | apply Drawn0.step)⟩
          case rest =>
           clear HC12
           try clear c5
           try clear c6b0
           try clear c7b0
           try clear c9b0
           try clear c10b0
           try clear p11
           try clear q11
           try clear hx11
           obtain ⟨kq, x45_11, rfl, HA, HJ11, ⟨mc11, rfl⟩⟩ := hcut
           cases kq with
           | zero => exact absurd HA.out (by simp [octet_ReadNumber.j2])
           | succ kj11 =>
            have H := HA.out
            clear HA
            simp only [octet_ReadNumber.j2] at H
            by_cases c17 : x45_11 = true
            ·
             subst c17
             rw [if_pos rfl] at H
             simp only [Option.some.injEq, Prod.mk.injEq] at H
             obtain ⟨rfl, rfl, rfl⟩ := H
             go_wp2
             go_ret3
             exact ⟨by first | rfl | (simp; done) | (simp only [← hji8] <;> (first | rfl | simp)) | (simp [*]; done), by repeat (first | exact Drawn0.refl _ | apply Drawn0.step)⟩
            ·
             replace c17 := Bool.eq_false_iff.mpr c17
             subst c17
             rw [if_neg (show ¬ (false = true) by decide)] at H
             obtain ⟨ji18, hji18⟩ : ∃ j_ : Int, (wrap64 (7 * x18_2)) = j_ := ⟨_, rfl⟩
             replace H : (if 0 ≤ (ji18) then (if (bt a0 (ji8)) < 128 then (some (Go.bits .or .u64 x7_2 (shl .u64 (IntKind.u64.wrap (Go.bits .and .u8 (bt a0 (ji8)) 127)) (ji18)), wrap64 ((wrap64 (a1 + x18_2)) + 1), 0)) else (octet_ReadNumber.l0 kj11 a0 a1 (Go.bits .or .u64 x7_2 (shl .u64 (IntKind.u64.wrap (Go.bits .and .u8 (bt a0 (ji8)) 127)) (ji18))) (wrap64 (x18_2 + 1)))) else (none)) = some (r1, r2, r3) := by first | (rw [hji18] at H; exact H) | (simp only [hji18] at H ⊢; exact H)
             have hji18w : (IntKind.i64.wrap (7 * x18_2)) = ji18 := (i64_w _).trans hji18
             by_cases c19 : 0 ≤ (ji18)
             ·
              rw [if_pos c19] at H
              have c19b0 := eq_true c19
              have c19b1 := decide_eq_true c19
              clear c19
              obtain ⟨ji20, hji20⟩ : ∃ j_ : Int, (shl .u64 (IntKind.u64.wrap (Go.bits .and .u8 (bt a0 (ji8)) 127)) (ji18)) = j_ := ⟨_, rfl⟩
              replace H : (if (bt a0 (ji8)) < 128 then (some (Go.bits .or .u64 x7_2 (ji20), wrap64 ((wrap64 (a1 + x18_2)) + 1), 0)) else (octet_ReadNumber.l0 kj11 a0 a1 (Go.bits .or .u64 x7_2 (ji20)) (wrap64 (x18_2 + 1)))) = some (r1, r2, r3) := by first | (rw [hji20] at H; exact H) | (simp only [hji20] at H ⊢; exact H)
              have hji20_ : (IntKind.u64.wrap ((IntKind.u64.wrap (Go.bits .and .u8 (bt a0 (ji8)) 127)) * 2 ^ min (ji18).toNat 64)) = ji20 := hji20
              have hji20z : (ji18) ≤ 64 → (IntKind.u64.wrap ((IntKind.u64.wrap (Go.bits .and .u8 (bt a0 (ji8)) 127)) * 2 ^ (ji18).toNat)) = ji20 := shl_small hji20
              replace H := iteD H
              rcases H with ⟨c21b0, H⟩ | ⟨c21b0, H⟩
              ·
               simp only [Option.some.injEq, Prod.mk.injEq] at H
               obtain ⟨rfl, rfl, rfl⟩ := H
               go_wp2
               go_ret3
               exact ⟨by first | rfl | (simp; done) | (simp only [← hji8, ← hji18, ← hji20] <;> (first | rfl | simp)) | (simp [*]; done), by repeat (first | exact Drawn0.refl _ | apply Drawn0.step)⟩
              ·
               have H' := am H
               clear H
               go_wp2
               go_roundg kj11
               case measure => have := HJ2.out; have := HK2.out; have := HJ11.out; omega
               case rel => exact ⟨(Go.bits .or .u64 x7_2 (ji20)), (wrap64 (x18_2 + 1)), (by first | rfl | (simp; done) | (simp only [← hji20] <;> (first | rfl | simp)) | (simp [*]; done)), rs, H', ⟨by have := HJ2.out; have := HK2.out; have := HJ11.out; omega⟩, by repeat (first | exact Drawn0.refl _ | apply Drawn0.step)⟩
             ·
              rw [if_neg c19] at H
              exact absurd H (by simp)
         ·
          exact absurd H (by simp)
        ·
         exact absurd H (by simp)
      ·
       simp only [Option.some.injEq, Prod.mk.injEq] at H
       obtain ⟨rfl, rfl, rfl⟩ := H
       go_wp2
       go_ret3
       exact ⟨by first | rfl | (simp; done) | (simp [*]; done), by repeat (first | exact Drawn0.refl _ | apply Drawn0.step)⟩
def octet_Reader_Number.j0 : Nat → Int → Int → Int → Bool → ByteArray → Int → Int → Option (Int × ByteArray × Int × Int)
 | 0, _, _, _, _, _, _, _ => none
 | k + 1, x5, x6, x7, x30, x1000, x1001, x1002 => if x30 = true then (if 2 = 0 then (some (x5, x1000, x6, x1002)) else (some (0, x1000, x1001, 2))) else (if x7 = 0 then (some (x5, x1000, x6, x1002)) else (some (0, x1000, x1001, x7)))
def octet_Reader_Number.f (k : Nat) (s0_0 : ByteArray) (s0_1 : Int) (s0_2 : Int) (a1 : Int) : Option (Int × ByteArray × Int × Int) := (octet_Reader_Err.f s0_0 s0_1 s0_2).bind fun bt180 => (if bt180.1 = 0 then ((octet_ReadNumber.f k bt180.2.1 bt180.2.2.1).bind fun bt184 => (if bt184.2.2 = 0 then (octet_Reader_Number.j0 k bt184.1 bt184.2.1 bt184.2.2 (decide (bt184.1 > a1)) bt180.2.1 bt180.2.2.1 bt180.2.2.2) else (octet_Reader_Number.j0 k bt184.1 bt184.2.1 bt184.2.2 false bt180.2.1 bt180.2.2.1 bt180.2.2.2))) else (some (0, bt180.2.1, bt180.2.2.1, bt180.2.2.2)))
theorem octet_Reader_Number.mono_l : ∀ k, (∀ y0 y1 y2 y3 y4 y5 y6, LeO (octet_Reader_Number.j0 k y0 y1 y2 y3 y4 y5 y6) (octet_Reader_Number.j0 (k + 1) y0 y1 y2 y3 y4 y5 y6))
 | 0 => fun _ _ _ _ _ _ _ r h => by simp [octet_Reader_Number.j0] at h
 | k + 1 => by
  have ih0 := octet_Reader_Number.mono_l k
  ·
   intro y0 y1 y2 y3 y4 y5 y6
   unfold octet_Reader_Number.j0
   repeat' (with_reducible first | exact ih0 _ _ _ _ _ _ _ | exact octet_ReadNumber.mono _ _ _ | exact LeO.refl _ | exact LeO.none _ | refine LeO.ite ?_ ?_ | refine LeO.bind ?_ (fun _ => ?_))
theorem octet_Reader_Number.mono : ∀ a0 a1 a2 a3 k, LeO (octet_Reader_Number.f k a0 a1 a2 a3) (octet_Reader_Number.f (k + 1) a0 a1 a2 a3) := by
 intro a0 a1 a2 a3 k
 have ih0 := octet_Reader_Number.mono_l k
 unfold octet_Reader_Number.f
 repeat' (with_reducible first | exact ih0 _ _ _ _ _ _ _ | exact octet_ReadNumber.mono _ _ _ | exact LeO.refl _ | exact LeO.none _ | refine LeO.ite ?_ ?_ | refine LeO.bind ?_ (fun _ => ?_))
set_option maxHeartbeats 8000000 in
set_option maxRecDepth 100000 in
theorem octet_Reader_Number.calls (k : Nat) (g : Nat) (s0_0 : ByteArray) (s0_1 : Int) (s0_2 : Int) (a1 : Int) (r1 : Int) (r2 : ByteArray) (r3 : Int) (r4 : Int) (w0 w : World) (hI : IsS119 w0 w g s0_0 s0_1 s0_2) (hB : Below w0.heap.size w0 w) (h : octet_Reader_Number.f k s0_0 s0_1 s0_2 a1 = some (r1, r2, r3, r4)) :
  Calls Tryd.prog 79 #[.pointer (some ⟨g, 0, none⟩), .int .u64 a1] w fun e w' => e = .returned (.int .u64 r1) ∧ IsS119 w0 w' g r2 r3 r4 ∧ Below w0.heap.size w0 w' ∧ KeepBut w w' g none := by
 have HI0 := am hI
 have HK := am (KeepBut.refl w g none)
 have HL := am hB.size
 clear hI
 have HW0 := am hB.size
 have HB := am hB
 clear hB
 have H := h
 clear h
 unfold octet_Reader_Number.f at H
 replace H := obE H
 obtain ⟨⟨t180, t181, t182, t183⟩, A3, H⟩ := H
 try dsimp only at H
 by_cases c4 : t180 = 0
 ·
  rw [if_pos c4] at H
  have c4b0 := beq_iff_eq.mpr c4
  have c4b1 := bne_eq_false_iff_eq.mpr c4
  clear c4
  replace H := obE H
  obtain ⟨⟨t184, t185, t186⟩, A5, H⟩ := H
  try dsimp only at H
  have HC6 := am H
  clear H
  go_enter Tryd.func79, Tryd.ntmps79
  go_upto_region 4 with (first | (go_at_call 77; (with_reducible refine (octet_Reader_Err.calls g s0_0 s0_1 s0_2 t180 t181 t182 t183 w0 _ ?side1 ?side2 A3.out).mono ?_); (case side1 => repeat (first | (with_reducible first | exact HI0.out | apply IsS119.alloc | apply IsS119.drewN | apply IsS119.drew | apply IsS119.set_0 | apply IsS119.set_1 | apply IsS119.set_2) | exact HI0.out)); (case side2 => repeat (first | (with_reducible first | exact HB.out | apply below_alloc | apply pw_below_drewN | apply below_drew1 | refine below_set ?_ (IsS119.ge HI0.out)) | exact HB.out)); rintro e w7 ⟨rfl, hi, hb, hk⟩; replace HK := am (KeepBut.trans (by repeat (first | (with_reducible first | exact HK.out | apply KeepBut.set_ | apply keep_drewN | apply keep_drew | apply keep_alloc) | exact HK.out)) hk (.inl rfl)); replace HB := am (hb); replace HI0 := am (hi); (try clear hb); (try clear hk); (try clear hi); obtain ⟨HGz8, hgz8⟩ := HI0.out; have hcz8_0 := cellS119_0 HGz8; have hcz8_1 := cellS119_1 HGz8; have hcz8_2 := cellS119_2 HGz8; have hfz8_0 := blk_frozen HGz8 0; have hfz8_1 := blk_frozen HGz8 1; have hfz8_2 := blk_frozen HGz8 2; clear HGz8 hgz8) | (go_at_call 78; (with_reducible refine (octet_ReadNumber.calls k t181 t182 t184 t185 t186 _ A5.out).mono ?_); rintro e w' ⟨rfl, ⟨nd, rfl⟩⟩; (try first | exact ⟨rfl, _, World.drewN_drewN _ _ _⟩ | exact ⟨rfl, _, Eq.trans (World.drewN_drewN _ _ _) (congrArg (World.drewN _) (Nat.add_assoc _ _ _))⟩)))
  repeat (go_quiet (first | (go_at_call 77; (with_reducible refine (octet_Reader_Err.calls g s0_0 s0_1 s0_2 t180 t181 t182 t183 w0 _ ?side1 ?side2 A3.out).mono ?_); (case side1 => repeat (first | (with_reducible first | exact HI0.out | apply IsS119.alloc | apply IsS119.drewN | apply IsS119.drew | apply IsS119.set_0 | apply IsS119.set_1 | apply IsS119.set_2) | exact HI0.out)); (case side2 => repeat (first | (with_reducible first | exact HB.out | apply below_alloc | apply pw_below_drewN | apply below_drew1 | refine below_set ?_ (IsS119.ge HI0.out)) | exact HB.out)); rintro e w7 ⟨rfl, hi, hb, hk⟩; replace HK := am (KeepBut.trans (by repeat (first | (with_reducible first | exact HK.out | apply KeepBut.set_ | apply keep_drewN | apply keep_drew | apply keep_alloc) | exact HK.out)) hk (.inl rfl)); replace HB := am (hb); replace HI0 := am (hi); (try clear hb); (try clear hk); (try clear hi); obtain ⟨HGz8, hgz8⟩ := HI0.out; have hcz8_0 := cellS119_0 HGz8; have hcz8_1 := cellS119_1 HGz8; have hcz8_2 := cellS119_2 HGz8; have hfz8_0 := blk_frozen HGz8 0; have hfz8_1 := blk_frozen HGz8 1; have hfz8_2 := blk_frozen HGz8 2; clear HGz8 hgz8; clear A3) | (go_at_call 78; (with_reducible refine (octet_ReadNumber.calls k t181 t182 t184 t185 t186 _ A5.out).mono ?_); rintro e w' ⟨rfl, ⟨nd, rfl⟩⟩; (try first | exact ⟨rfl, _, World.drewN_drewN _ _ _⟩ | exact ⟨rfl, _, Eq.trans (World.drewN_drewN _ _ _) (congrArg (World.drewN _) (Nat.add_assoc _ _ _))⟩); clear A5)); go_upto_region 4 with (first | (go_at_call 77; (with_reducible refine (octet_Reader_Err.calls g s0_0 s0_1 s0_2 t180 t181 t182 t183 w0 _ ?side1 ?side2 A3.out).mono ?_); (case side1 => repeat (first | (with_reducible first | exact HI0.out | apply IsS119.alloc | apply IsS119.drewN | apply IsS119.drew | apply IsS119.set_0 | apply IsS119.set_1 | apply IsS119.set_2) | exact HI0.out)); (case side2 => repeat (first | (with_reducible first | exact HB.out | apply below_alloc | apply pw_below_drewN | apply below_drew1 | refine below_set ?_ (IsS119.ge HI0.out)) | exact HB.out)); rintro e w7 ⟨rfl, hi, hb, hk⟩; replace HK := am (KeepBut.trans (by repeat (first | (with_reducible first | exact HK.out | apply KeepBut.set_ | apply keep_drewN | apply keep_drew | apply keep_alloc) | exact HK.out)) hk (.inl rfl)); replace HB := am (hb); replace HI0 := am (hi); (try clear hb); (try clear hk); (try clear hi); obtain ⟨HGz8, hgz8⟩ := HI0.out; have hcz8_0 := cellS119_0 HGz8; have hcz8_1 := cellS119_1 HGz8; have hcz8_2 := cellS119_2 HGz8; have hfz8_0 := blk_frozen HGz8 0; have hfz8_1 := blk_frozen HGz8 1; have hfz8_2 := blk_frozen HGz8 2; clear HGz8 hgz8; clear A3) | (go_at_call 78; (with_reducible refine (octet_ReadNumber.calls k t181 t182 t184 t185 t186 _ A5.out).mono ?_); rintro e w' ⟨rfl, ⟨nd, rfl⟩⟩; (try first | exact ⟨rfl, _, World.drewN_drewN _ _ _⟩ | exact ⟨rfl, _, Eq.trans (World.drewN_drewN _ _ _) (congrArg (World.drewN _) (Nat.add_assoc _ _ _))⟩); clear A5)))
  (try simp only [Act.put, List.setIfInBounds_toArray, List.set_cons_zero, List.set_cons_succ])
  go_cut [30] (fun v30 wc => ∃ (kq : Nat) (x30_5 : Bool), v30 = .bool x30_5 ∧ Aside0 (octet_Reader_Number.j0 kq t184 t185 t186 x30_5 t181 t182 t183 = some (r1, r2, r3, r4)) ∧ Aside0 (kq ≤ k) ∧ Aside0 (IsS119 w0 wc g t181 t182 t183) ∧ Aside0 (KeepBut w wc g none) ∧ Aside0 (Below w0.heap.size w0 wc))
  case first =>
   have H := HC6.out
   clear HC6
   by_cases c9 : t186 = 0
   ·
    rw [if_pos c9] at H
    have c9b0 := beq_iff_eq.mpr c9
    have c9b1 := bne_eq_false_iff_eq.mpr c9
    clear c9
    (first | rw [c9b0] | (simp only [i64_w, i32_w]; rw [c9b0]) | skip)
    have H' := am H
    clear H
    go_wp2
    repeat (go_quiet (fail); try go_wp2)
    go_meet
    case rel => exact ⟨_, (decide (t184 > a1)), rs, H', ⟨om⟩, ⟨by repeat (first | (with_reducible first | exact HI0.out | apply IsS119.alloc | apply IsS119.drewN | apply IsS119.drew | apply IsS119.set_0 | apply IsS119.set_1 | apply IsS119.set_2) | exact HI0.out)⟩, ⟨by repeat (first | (with_reducible first | exact HK.out | apply KeepBut.set_ | apply keep_drewN | apply keep_drew | apply keep_alloc) | exact HK.out)⟩, ⟨by repeat (first | (with_reducible first | exact HB.out | apply below_alloc | apply pw_below_drewN | apply below_drew1 | refine below_set ?_ (IsS119.ge HI0.out)) | exact HB.out)⟩⟩
   ·
    rw [if_neg c9] at H
    have c9b0 := beq_eq_false_iff_ne.mpr c9
    have c9b1 := bne_iff_ne.mpr c9
    (first | rw [c9b0] | (simp only [i64_w, i32_w]; rw [c9b0]) | skip)
    have H' := am H
    clear H
    go_wp2
    repeat (go_quiet (fail); try go_wp2)
    go_meet
    case rel => exact ⟨_, (false), rs, H', ⟨om⟩, ⟨by repeat (first | (with_reducible first | exact HI0.out | apply IsS119.alloc | apply IsS119.drewN | apply IsS119.drew | apply IsS119.set_0 | apply IsS119.set_1 | apply IsS119.set_2) | exact HI0.out)⟩, ⟨by repeat (first | (with_reducible first | exact HK.out | apply KeepBut.set_ | apply keep_drewN | apply keep_drew | apply keep_alloc) | exact HK.out)⟩, ⟨by repeat (first | (with_reducible first | exact HB.out | apply below_alloc | apply pw_below_drewN | apply below_drew1 | refine below_set ?_ (IsS119.ge HI0.out)) | exact HB.out)⟩⟩
  case rest =>
   clear HC6
   try clear c4
   try clear c4b0
   try clear c4b1
   try clear hcz8_0 hcz8_1 hcz8_2 hfz8_0 hfz8_1 hfz8_2
   obtain ⟨kq, x30_5, rfl, HA, HJ5, HI0, HK, HB⟩ := hcut
   cases kq with
   | zero => exact absurd HA.out (by simp [octet_Reader_Number.j0])
   | succ kj5 =>
    have H := HA.out
    clear HA
    simp only [octet_Reader_Number.j0] at H
    by_cases c10 : x30_5 = true
    ·
     subst c10
     rw [if_pos rfl] at H
     by_cases c11 : 2 = 0
     ·
      exact absurd c11 (by decide)
     ·
      rw [if_neg c11] at H
      have c11b0 := beq_eq_false_iff_ne.mpr c11
      have c11b1 := bne_iff_ne.mpr c11
      simp only [Option.some.injEq, Prod.mk.injEq] at H
      obtain ⟨rfl, rfl, rfl, rfl⟩ := H
      obtain ⟨HGz13, hgz13⟩ := HI0.out
      have hcz13_0 := cellS119_0 HGz13
      have hcz13_1 := cellS119_1 HGz13
      have hcz13_2 := cellS119_2 HGz13
      have hfz13_0 := blk_frozen HGz13 0
      have hfz13_1 := blk_frozen HGz13 1
      have hfz13_2 := blk_frozen HGz13 2
      clear HGz13 hgz13
      go_wp2
      repeat (go_quiet (fail); try go_wp2)
      go_ret
      exact ⟨rf, by repeat (first | (with_reducible first | exact HI0.out | apply IsS119.alloc | apply IsS119.drewN | apply IsS119.drew | apply IsS119.set_0 | apply IsS119.set_1 | apply IsS119.set_2) | exact HI0.out), by repeat (first | (with_reducible first | exact HB.out | apply below_alloc | apply pw_below_drewN | apply below_drew1 | refine below_set ?_ (IsS119.ge HI0.out)) | exact HB.out), by repeat (first | (with_reducible first | exact HK.out | apply KeepBut.set_ | apply keep_drewN | apply keep_drew | apply keep_alloc) | exact HK.out)⟩
    ·
     replace c10 := Bool.eq_false_iff.mpr c10
     subst c10
     rw [if_neg (show ¬ (false = true) by decide)] at H
     by_cases c14 : t186 = 0
     ·
      rw [if_pos c14] at H
      have c14b0 := beq_iff_eq.mpr c14
      have c14b1 := bne_eq_false_iff_eq.mpr c14
      clear c14
      simp only [Option.some.injEq, Prod.mk.injEq] at H
      obtain ⟨rfl, rfl, rfl, rfl⟩ := H
      obtain ⟨HGz15, hgz15⟩ := HI0.out
      have hcz15_0 := cellS119_0 HGz15
      have hcz15_1 := cellS119_1 HGz15
      have hcz15_2 := cellS119_2 HGz15
      have hfz15_0 := blk_frozen HGz15 0
      have hfz15_1 := blk_frozen HGz15 1
      have hfz15_2 := blk_frozen HGz15 2
      clear HGz15 hgz15
      go_wp2
      repeat (go_quiet (fail); try go_wp2)
      go_ret
      exact ⟨rf, by repeat (first | (with_reducible first | exact HI0.out | apply IsS119.alloc | apply IsS119.drewN | apply IsS119.drew | apply IsS119.set_0 | apply IsS119.set_1 | apply IsS119.set_2) | exact HI0.out), by repeat (first | (with_reducible first | exact HB.out | apply below_alloc | apply pw_below_drewN | apply below_drew1 | refine below_set ?_ (IsS119.ge HI0.out)) | exact HB.out), by repeat (first | (with_reducible first | exact HK.out | apply KeepBut.set_ | apply keep_drewN | apply keep_drew | apply keep_alloc) | exact HK.out)⟩
     ·
      rw [if_neg c14] at H
      have c14b0 := beq_eq_false_iff_ne.mpr c14
      have c14b1 := bne_iff_ne.mpr c14
      simp only [Option.some.injEq, Prod.mk.injEq] at H
      obtain ⟨rfl, rfl, rfl, rfl⟩ := H
      obtain ⟨HGz16, hgz16⟩ := HI0.out
      have hcz16_0 := cellS119_0 HGz16
      have hcz16_1 := cellS119_1 HGz16
      have hcz16_2 := cellS119_2 HGz16
      have hfz16_0 := blk_frozen HGz16 0
      have hfz16_1 := blk_frozen HGz16 1
      have hfz16_2 := blk_frozen HGz16 2
      clear HGz16 hgz16
      go_wp2
      repeat (go_quiet (fail); try go_wp2)
      go_ret
      exact ⟨rf, by repeat (first | (with_reducible first | exact HI0.out | apply IsS119.alloc | apply IsS119.drewN | apply IsS119.drew | apply IsS119.set_0 | apply IsS119.set_1 | apply IsS119.set_2) | exact HI0.out), by repeat (first | (with_reducible first | exact HB.out | apply below_alloc | apply pw_below_drewN | apply below_drew1 | refine below_set ?_ (IsS119.ge HI0.out)) | exact HB.out), by repeat (first | (with_reducible first | exact HK.out | apply KeepBut.set_ | apply keep_drewN | apply keep_drew | apply keep_alloc) | exact HK.out)⟩
 ·
  rw [if_neg c4] at H
  have c4b0 := beq_eq_false_iff_ne.mpr c4
  have c4b1 := bne_iff_ne.mpr c4
  simp only [Option.some.injEq, Prod.mk.injEq] at H
  obtain ⟨rfl, rfl, rfl, rfl⟩ := H
  go_enter Tryd.func79, Tryd.ntmps79
  go_wp2_with (first | (go_at_call 77; (with_reducible refine (octet_Reader_Err.calls g s0_0 s0_1 s0_2 t180 t181 t182 t183 w0 _ ?side1 ?side2 A3.out).mono ?_); (case side1 => repeat (first | (with_reducible first | exact HI0.out | apply IsS119.alloc | apply IsS119.drewN | apply IsS119.drew | apply IsS119.set_0 | apply IsS119.set_1 | apply IsS119.set_2) | exact HI0.out)); (case side2 => repeat (first | (with_reducible first | exact HB.out | apply below_alloc | apply pw_below_drewN | apply below_drew1 | refine below_set ?_ (IsS119.ge HI0.out)) | exact HB.out)); rintro e w17 ⟨rfl, hi, hb, hk⟩; replace HK := am (KeepBut.trans (by repeat (first | (with_reducible first | exact HK.out | apply KeepBut.set_ | apply keep_drewN | apply keep_drew | apply keep_alloc) | exact HK.out)) hk (.inl rfl)); replace HB := am (hb); replace HI0 := am (hi); (try clear hb); (try clear hk); (try clear hi)))
  repeat (go_quiet (first | (go_at_call 77; (with_reducible refine (octet_Reader_Err.calls g s0_0 s0_1 s0_2 t180 t181 t182 t183 w0 _ ?side1 ?side2 A3.out).mono ?_); (case side1 => repeat (first | (with_reducible first | exact HI0.out | apply IsS119.alloc | apply IsS119.drewN | apply IsS119.drew | apply IsS119.set_0 | apply IsS119.set_1 | apply IsS119.set_2) | exact HI0.out)); (case side2 => repeat (first | (with_reducible first | exact HB.out | apply below_alloc | apply pw_below_drewN | apply below_drew1 | refine below_set ?_ (IsS119.ge HI0.out)) | exact HB.out)); rintro e w17 ⟨rfl, hi, hb, hk⟩; replace HK := am (KeepBut.trans (by repeat (first | (with_reducible first | exact HK.out | apply KeepBut.set_ | apply keep_drewN | apply keep_drew | apply keep_alloc) | exact HK.out)) hk (.inl rfl)); replace HB := am (hb); replace HI0 := am (hi); (try clear hb); (try clear hk); (try clear hi); clear A3)); try go_wp2_with (first | (go_at_call 77; (with_reducible refine (octet_Reader_Err.calls g s0_0 s0_1 s0_2 t180 t181 t182 t183 w0 _ ?side1 ?side2 A3.out).mono ?_); (case side1 => repeat (first | (with_reducible first | exact HI0.out | apply IsS119.alloc | apply IsS119.drewN | apply IsS119.drew | apply IsS119.set_0 | apply IsS119.set_1 | apply IsS119.set_2) | exact HI0.out)); (case side2 => repeat (first | (with_reducible first | exact HB.out | apply below_alloc | apply pw_below_drewN | apply below_drew1 | refine below_set ?_ (IsS119.ge HI0.out)) | exact HB.out)); rintro e w17 ⟨rfl, hi, hb, hk⟩; replace HK := am (KeepBut.trans (by repeat (first | (with_reducible first | exact HK.out | apply KeepBut.set_ | apply keep_drewN | apply keep_drew | apply keep_alloc) | exact HK.out)) hk (.inl rfl)); replace HB := am (hb); replace HI0 := am (hi); (try clear hb); (try clear hk); (try clear hi); clear A3)))
  go_ret
  exact ⟨rf, by repeat (first | (with_reducible first | exact HI0.out | apply IsS119.alloc | apply IsS119.drewN | apply IsS119.drew | apply IsS119.set_0 | apply IsS119.set_1 | apply IsS119.set_2) | exact HI0.out), by repeat (first | (with_reducible first | exact HB.out | apply below_alloc | apply pw_below_drewN | apply below_drew1 | refine below_set ?_ (IsS119.ge HI0.out)) | exact HB.out), by repeat (first | (with_reducible first | exact HK.out | apply KeepBut.set_ | apply keep_drewN | apply keep_drew | apply keep_alloc) | exact HK.out)⟩
def octet_Reader_Int.f (k : Nat) (s0_0 : ByteArray) (s0_1 : Int) (s0_2 : Int) (a1 : Int) : Option (Int × ByteArray × Int × Int) := if a1 < 0 then ((octet_Reader_Err.f s0_0 s0_1 s0_2).bind fun bt187 => (if bt187.1 = 0 then ((octet_ReadNumber.f k bt187.2.1 bt187.2.2.1).bind fun bt191 => (if bt191.2.2 = 0 then (some (0, bt187.2.1, bt187.2.2.1, 2)) else (some (0, bt187.2.1, bt187.2.2.1, bt191.2.2)))) else (some (0, bt187.2.1, bt187.2.2.1, bt187.2.2.2)))) else ((octet_Reader_Number.f k s0_0 s0_1 s0_2 (IntKind.u64.wrap (a1))).bind fun bt194 => (some (wrap64 (bt194.1), bt194.2.1, bt194.2.2.1, bt194.2.2.2)))
theorem octet_Reader_Int.mono : ∀ a0 a1 a2 a3 k, LeO (octet_Reader_Int.f k a0 a1 a2 a3) (octet_Reader_Int.f (k + 1) a0 a1 a2 a3) := by
 intro a0 a1 a2 a3 k
 unfold octet_Reader_Int.f
 repeat' (with_reducible first | exact octet_ReadNumber.mono _ _ _ | exact octet_Reader_Number.mono _ _ _ _ _ | exact LeO.refl _ | exact LeO.none _ | refine LeO.ite ?_ ?_ | refine LeO.bind ?_ (fun _ => ?_))
set_option maxHeartbeats 8000000 in
set_option maxRecDepth 100000 in
theorem octet_Reader_Int.calls (k : Nat) (g : Nat) (s0_0 : ByteArray) (s0_1 : Int) (s0_2 : Int) (a1 : Int) (r1 : Int) (r2 : ByteArray) (r3 : Int) (r4 : Int) (w0 w : World) (hI : IsS119 w0 w g s0_0 s0_1 s0_2) (hB : Below w0.heap.size w0 w) (h : octet_Reader_Int.f k s0_0 s0_1 s0_2 a1 = some (r1, r2, r3, r4)) :
  Calls Tryd.prog 47 #[.pointer (some ⟨g, 0, none⟩), .int .i64 a1] w fun e w' => e = .returned (.int .i64 r1) ∧ IsS119 w0 w' g r2 r3 r4 ∧ Below w0.heap.size w0 w' ∧ KeepBut w w' g none := by
 have HI0 := am hI
 have HK := am (KeepBut.refl w g none)
 have HL := am hB.size
 clear hI
 have HW0 := am hB.size
 have HB := am hB
 clear hB
 have H := h
 clear h
 unfold octet_Reader_Int.f at H
 replace H := iteD H
 rcases H with ⟨c3b0, H⟩ | ⟨c3b0, H⟩
 ·
  replace H := obE H
  obtain ⟨⟨t187, t188, t189, t190⟩, A4, H⟩ := H
  try dsimp only at H
  by_cases c5 : t187 = 0
  ·
   rw [if_pos c5] at H
   have c5b0 := beq_iff_eq.mpr c5
   have c5b1 := bne_eq_false_iff_eq.mpr c5
   clear c5
   replace H := obE H
   obtain ⟨⟨t191, t192, t193⟩, A6, H⟩ := H
   try dsimp only at H
   by_cases c7 : t193 = 0
   ·
    rw [if_pos c7] at H
    have c7b0 := beq_iff_eq.mpr c7
    have c7b1 := bne_eq_false_iff_eq.mpr c7
    clear c7
    simp only [Option.some.injEq, Prod.mk.injEq] at H
    obtain ⟨rfl, rfl, rfl, rfl⟩ := H
    go_enter Tryd.func47, Tryd.ntmps47
    go_wp2_with (first | (go_at_call 77; (with_reducible refine (octet_Reader_Err.calls g s0_0 s0_1 s0_2 t187 t188 t189 t190 w0 _ ?side1 ?side2 A4.out).mono ?_); (case side1 => repeat (first | (with_reducible first | exact HI0.out | apply IsS119.alloc | apply IsS119.drewN | apply IsS119.drew | apply IsS119.set_0 | apply IsS119.set_1 | apply IsS119.set_2) | exact HI0.out)); (case side2 => repeat (first | (with_reducible first | exact HB.out | apply below_alloc | apply pw_below_drewN | apply below_drew1 | refine below_set ?_ (IsS119.ge HI0.out)) | exact HB.out)); rintro e w8 ⟨rfl, hi, hb, hk⟩; replace HK := am (KeepBut.trans (by repeat (first | (with_reducible first | exact HK.out | apply KeepBut.set_ | apply keep_drewN | apply keep_drew | apply keep_alloc) | exact HK.out)) hk (.inl rfl)); replace HB := am (hb); replace HI0 := am (hi); (try clear hb); (try clear hk); (try clear hi); obtain ⟨HGz9, hgz9⟩ := HI0.out; have hcz9_0 := cellS119_0 HGz9; have hcz9_1 := cellS119_1 HGz9; have hcz9_2 := cellS119_2 HGz9; have hfz9_0 := blk_frozen HGz9 0; have hfz9_1 := blk_frozen HGz9 1; have hfz9_2 := blk_frozen HGz9 2; clear HGz9 hgz9) | (go_at_call 78; (with_reducible refine (octet_ReadNumber.calls k t188 t189 t191 t192 t193 _ A6.out).mono ?_); rintro e w' ⟨rfl, ⟨nd, rfl⟩⟩; (try first | exact ⟨rfl, _, World.drewN_drewN _ _ _⟩ | exact ⟨rfl, _, Eq.trans (World.drewN_drewN _ _ _) (congrArg (World.drewN _) (Nat.add_assoc _ _ _))⟩)))
    repeat (go_quiet (first | (go_at_call 77; (with_reducible refine (octet_Reader_Err.calls g s0_0 s0_1 s0_2 t187 t188 t189 t190 w0 _ ?side1 ?side2 A4.out).mono ?_); (case side1 => repeat (first | (with_reducible first | exact HI0.out | apply IsS119.alloc | apply IsS119.drewN | apply IsS119.drew | apply IsS119.set_0 | apply IsS119.set_1 | apply IsS119.set_2) | exact HI0.out)); (case side2 => repeat (first | (with_reducible first | exact HB.out | apply below_alloc | apply pw_below_drewN | apply below_drew1 | refine below_set ?_ (IsS119.ge HI0.out)) | exact HB.out)); rintro e w8 ⟨rfl, hi, hb, hk⟩; replace HK := am (KeepBut.trans (by repeat (first | (with_reducible first | exact HK.out | apply KeepBut.set_ | apply keep_drewN | apply keep_drew | apply keep_alloc) | exact HK.out)) hk (.inl rfl)); replace HB := am (hb); replace HI0 := am (hi); (try clear hb); (try clear hk); (try clear hi); obtain ⟨HGz9, hgz9⟩ := HI0.out; have hcz9_0 := cellS119_0 HGz9; have hcz9_1 := cellS119_1 HGz9; have hcz9_2 := cellS119_2 HGz9; have hfz9_0 := blk_frozen HGz9 0; have hfz9_1 := blk_frozen HGz9 1; have hfz9_2 := blk_frozen HGz9 2; clear HGz9 hgz9; clear A4) | (go_at_call 78; (with_reducible refine (octet_ReadNumber.calls k t188 t189 t191 t192 t193 _ A6.out).mono ?_); rintro e w' ⟨rfl, ⟨nd, rfl⟩⟩; (try first | exact ⟨rfl, _, World.drewN_drewN _ _ _⟩ | exact ⟨rfl, _, Eq.trans (World.drewN_drewN _ _ _) (congrArg (World.drewN _) (Nat.add_assoc _ _ _))⟩); clear A6)); try go_wp2_with (first | (go_at_call 77; (with_reducible refine (octet_Reader_Err.calls g s0_0 s0_1 s0_2 t187 t188 t189 t190 w0 _ ?side1 ?side2 A4.out).mono ?_); (case side1 => repeat (first | (with_reducible first | exact HI0.out | apply IsS119.alloc | apply IsS119.drewN | apply IsS119.drew | apply IsS119.set_0 | apply IsS119.set_1 | apply IsS119.set_2) | exact HI0.out)); (case side2 => repeat (first | (with_reducible first | exact HB.out | apply below_alloc | apply pw_below_drewN | apply below_drew1 | refine below_set ?_ (IsS119.ge HI0.out)) | exact HB.out)); rintro e w8 ⟨rfl, hi, hb, hk⟩; replace HK := am (KeepBut.trans (by repeat (first | (with_reducible first | exact HK.out | apply KeepBut.set_ | apply keep_drewN | apply keep_drew | apply keep_alloc) | exact HK.out)) hk (.inl rfl)); replace HB := am (hb); replace HI0 := am (hi); (try clear hb); (try clear hk); (try clear hi); obtain ⟨HGz9, hgz9⟩ := HI0.out; have hcz9_0 := cellS119_0 HGz9; have hcz9_1 := cellS119_1 HGz9; have hcz9_2 := cellS119_2 HGz9; have hfz9_0 := blk_frozen HGz9 0; have hfz9_1 := blk_frozen HGz9 1; have hfz9_2 := blk_frozen HGz9 2; clear HGz9 hgz9; clear A4) | (go_at_call 78; (with_reducible refine (octet_ReadNumber.calls k t188 t189 t191 t192 t193 _ A6.out).mono ?_); rintro e w' ⟨rfl, ⟨nd, rfl⟩⟩; (try first | exact ⟨rfl, _, World.drewN_drewN _ _ _⟩ | exact ⟨rfl, _, Eq.trans (World.drewN_drewN _ _ _) (congrArg (World.drewN _) (Nat.add_assoc _ _ _))⟩); clear A6)))
    go_ret
    exact ⟨rf, by repeat (first | (with_reducible first | exact HI0.out | apply IsS119.alloc | apply IsS119.drewN | apply IsS119.drew | apply IsS119.set_0 | apply IsS119.set_1 | apply IsS119.set_2) | exact HI0.out), by repeat (first | (with_reducible first | exact HB.out | apply below_alloc | apply pw_below_drewN | apply below_drew1 | refine below_set ?_ (IsS119.ge HI0.out)) | exact HB.out), by repeat (first | (with_reducible first | exact HK.out | apply KeepBut.set_ | apply keep_drewN | apply keep_drew | apply keep_alloc) | exact HK.out)⟩
   ·
    rw [if_neg c7] at H
    have c7b0 := beq_eq_false_iff_ne.mpr c7
    have c7b1 := bne_iff_ne.mpr c7
    simp only [Option.some.injEq, Prod.mk.injEq] at H
    obtain ⟨rfl, rfl, rfl, rfl⟩ := H
    go_enter Tryd.func47, Tryd.ntmps47
    go_wp2_with (first | (go_at_call 77; (with_reducible refine (octet_Reader_Err.calls g s0_0 s0_1 s0_2 t187 t188 t189 t190 w0 _ ?side1 ?side2 A4.out).mono ?_); (case side1 => repeat (first | (with_reducible first | exact HI0.out | apply IsS119.alloc | apply IsS119.drewN | apply IsS119.drew | apply IsS119.set_0 | apply IsS119.set_1 | apply IsS119.set_2) | exact HI0.out)); (case side2 => repeat (first | (with_reducible first | exact HB.out | apply below_alloc | apply pw_below_drewN | apply below_drew1 | refine below_set ?_ (IsS119.ge HI0.out)) | exact HB.out)); rintro e w10 ⟨rfl, hi, hb, hk⟩; replace HK := am (KeepBut.trans (by repeat (first | (with_reducible first | exact HK.out | apply KeepBut.set_ | apply keep_drewN | apply keep_drew | apply keep_alloc) | exact HK.out)) hk (.inl rfl)); replace HB := am (hb); replace HI0 := am (hi); (try clear hb); (try clear hk); (try clear hi); obtain ⟨HGz11, hgz11⟩ := HI0.out; have hcz11_0 := cellS119_0 HGz11; have hcz11_1 := cellS119_1 HGz11; have hcz11_2 := cellS119_2 HGz11; have hfz11_0 := blk_frozen HGz11 0; have hfz11_1 := blk_frozen HGz11 1; have hfz11_2 := blk_frozen HGz11 2; clear HGz11 hgz11) | (go_at_call 78; (with_reducible refine (octet_ReadNumber.calls k t188 t189 t191 t192 t193 _ A6.out).mono ?_); rintro e w' ⟨rfl, ⟨nd, rfl⟩⟩; (try first | exact ⟨rfl, _, World.drewN_drewN _ _ _⟩ | exact ⟨rfl, _, Eq.trans (World.drewN_drewN _ _ _) (congrArg (World.drewN _) (Nat.add_assoc _ _ _))⟩)))
    repeat (go_quiet (first | (go_at_call 77; (with_reducible refine (octet_Reader_Err.calls g s0_0 s0_1 s0_2 t187 t188 t189 t190 w0 _ ?side1 ?side2 A4.out).mono ?_); (case side1 => repeat (first | (with_reducible first | exact HI0.out | apply IsS119.alloc | apply IsS119.drewN | apply IsS119.drew | apply IsS119.set_0 | apply IsS119.set_1 | apply IsS119.set_2) | exact HI0.out)); (case side2 => repeat (first | (with_reducible first | exact HB.out | apply below_alloc | apply pw_below_drewN | apply below_drew1 | refine below_set ?_ (IsS119.ge HI0.out)) | exact HB.out)); rintro e w10 ⟨rfl, hi, hb, hk⟩; replace HK := am (KeepBut.trans (by repeat (first | (with_reducible first | exact HK.out | apply KeepBut.set_ | apply keep_drewN | apply keep_drew | apply keep_alloc) | exact HK.out)) hk (.inl rfl)); replace HB := am (hb); replace HI0 := am (hi); (try clear hb); (try clear hk); (try clear hi); obtain ⟨HGz11, hgz11⟩ := HI0.out; have hcz11_0 := cellS119_0 HGz11; have hcz11_1 := cellS119_1 HGz11; have hcz11_2 := cellS119_2 HGz11; have hfz11_0 := blk_frozen HGz11 0; have hfz11_1 := blk_frozen HGz11 1; have hfz11_2 := blk_frozen HGz11 2; clear HGz11 hgz11; clear A4) | (go_at_call 78; (with_reducible refine (octet_ReadNumber.calls k t188 t189 t191 t192 t193 _ A6.out).mono ?_); rintro e w' ⟨rfl, ⟨nd, rfl⟩⟩; (try first | exact ⟨rfl, _, World.drewN_drewN _ _ _⟩ | exact ⟨rfl, _, Eq.trans (World.drewN_drewN _ _ _) (congrArg (World.drewN _) (Nat.add_assoc _ _ _))⟩); clear A6)); try go_wp2_with (first | (go_at_call 77; (with_reducible refine (octet_Reader_Err.calls g s0_0 s0_1 s0_2 t187 t188 t189 t190 w0 _ ?side1 ?side2 A4.out).mono ?_); (case side1 => repeat (first | (with_reducible first | exact HI0.out | apply IsS119.alloc | apply IsS119.drewN | apply IsS119.drew | apply IsS119.set_0 | apply IsS119.set_1 | apply IsS119.set_2) | exact HI0.out)); (case side2 => repeat (first | (with_reducible first | exact HB.out | apply below_alloc | apply pw_below_drewN | apply below_drew1 | refine below_set ?_ (IsS119.ge HI0.out)) | exact HB.out)); rintro e w10 ⟨rfl, hi, hb, hk⟩; replace HK := am (KeepBut.trans (by repeat (first | (with_reducible first | exact HK.out | apply KeepBut.set_ | apply keep_drewN | apply keep_drew | apply keep_alloc) | exact HK.out)) hk (.inl rfl)); replace HB := am (hb); replace HI0 := am (hi); (try clear hb); (try clear hk); (try clear hi); obtain ⟨HGz11, hgz11⟩ := HI0.out; have hcz11_0 := cellS119_0 HGz11; have hcz11_1 := cellS119_1 HGz11; have hcz11_2 := cellS119_2 HGz11; have hfz11_0 := blk_frozen HGz11 0; have hfz11_1 := blk_frozen HGz11 1; have hfz11_2 := blk_frozen HGz11 2; clear HGz11 hgz11; clear A4) | (go_at_call 78; (with_reducible refine (octet_ReadNumber.calls k t188 t189 t191 t192 t193 _ A6.out).mono ?_); rintro e w' ⟨rfl, ⟨nd, rfl⟩⟩; (try first | exact ⟨rfl, _, World.drewN_drewN _ _ _⟩ | exact ⟨rfl, _, Eq.trans (World.drewN_drewN _ _ _) (congrArg (World.drewN _) (Nat.add_assoc _ _ _))⟩); clear A6)))
    go_ret
    exact ⟨rf, by repeat (first | (with_reducible first | exact HI0.out | apply IsS119.alloc | apply IsS119.drewN | apply IsS119.drew | apply IsS119.set_0 | apply IsS119.set_1 | apply IsS119.set_2) | exact HI0.out), by repeat (first | (with_reducible first | exact HB.out | apply below_alloc | apply pw_below_drewN | apply below_drew1 | refine below_set ?_ (IsS119.ge HI0.out)) | exact HB.out), by repeat (first | (with_reducible first | exact HK.out | apply KeepBut.set_ | apply keep_drewN | apply keep_drew | apply keep_alloc) | exact HK.out)⟩
  ·
   rw [if_neg c5] at H
   have c5b0 := beq_eq_false_iff_ne.mpr c5
   have c5b1 := bne_iff_ne.mpr c5
   simp only [Option.some.injEq, Prod.mk.injEq] at H
   obtain ⟨rfl, rfl, rfl, rfl⟩ := H
   go_enter Tryd.func47, Tryd.ntmps47
   go_wp2_with (first | (go_at_call 77; (with_reducible refine (octet_Reader_Err.calls g s0_0 s0_1 s0_2 t187 t188 t189 t190 w0 _ ?side1 ?side2 A4.out).mono ?_); (case side1 => repeat (first | (with_reducible first | exact HI0.out | apply IsS119.alloc | apply IsS119.drewN | apply IsS119.drew | apply IsS119.set_0 | apply IsS119.set_1 | apply IsS119.set_2) | exact HI0.out)); (case side2 => repeat (first | (with_reducible first | exact HB.out | apply below_alloc | apply pw_below_drewN | apply below_drew1 | refine below_set ?_ (IsS119.ge HI0.out)) | exact HB.out)); rintro e w12 ⟨rfl, hi, hb, hk⟩; replace HK := am (KeepBut.trans (by repeat (first | (with_reducible first | exact HK.out | apply KeepBut.set_ | apply keep_drewN | apply keep_drew | apply keep_alloc) | exact HK.out)) hk (.inl rfl)); replace HB := am (hb); replace HI0 := am (hi); (try clear hb); (try clear hk); (try clear hi)))
   repeat (go_quiet (first | (go_at_call 77; (with_reducible refine (octet_Reader_Err.calls g s0_0 s0_1 s0_2 t187 t188 t189 t190 w0 _ ?side1 ?side2 A4.out).mono ?_); (case side1 => repeat (first | (with_reducible first | exact HI0.out | apply IsS119.alloc | apply IsS119.drewN | apply IsS119.drew | apply IsS119.set_0 | apply IsS119.set_1 | apply IsS119.set_2) | exact HI0.out)); (case side2 => repeat (first | (with_reducible first | exact HB.out | apply below_alloc | apply pw_below_drewN | apply below_drew1 | refine below_set ?_ (IsS119.ge HI0.out)) | exact HB.out)); rintro e w12 ⟨rfl, hi, hb, hk⟩; replace HK := am (KeepBut.trans (by repeat (first | (with_reducible first | exact HK.out | apply KeepBut.set_ | apply keep_drewN | apply keep_drew | apply keep_alloc) | exact HK.out)) hk (.inl rfl)); replace HB := am (hb); replace HI0 := am (hi); (try clear hb); (try clear hk); (try clear hi); clear A4)); try go_wp2_with (first | (go_at_call 77; (with_reducible refine (octet_Reader_Err.calls g s0_0 s0_1 s0_2 t187 t188 t189 t190 w0 _ ?side1 ?side2 A4.out).mono ?_); (case side1 => repeat (first | (with_reducible first | exact HI0.out | apply IsS119.alloc | apply IsS119.drewN | apply IsS119.drew | apply IsS119.set_0 | apply IsS119.set_1 | apply IsS119.set_2) | exact HI0.out)); (case side2 => repeat (first | (with_reducible first | exact HB.out | apply below_alloc | apply pw_below_drewN | apply below_drew1 | refine below_set ?_ (IsS119.ge HI0.out)) | exact HB.out)); rintro e w12 ⟨rfl, hi, hb, hk⟩; replace HK := am (KeepBut.trans (by repeat (first | (with_reducible first | exact HK.out | apply KeepBut.set_ | apply keep_drewN | apply keep_drew | apply keep_alloc) | exact HK.out)) hk (.inl rfl)); replace HB := am (hb); replace HI0 := am (hi); (try clear hb); (try clear hk); (try clear hi); clear A4)))
   go_ret
   exact ⟨rf, by repeat (first | (with_reducible first | exact HI0.out | apply IsS119.alloc | apply IsS119.drewN | apply IsS119.drew | apply IsS119.set_0 | apply IsS119.set_1 | apply IsS119.set_2) | exact HI0.out), by repeat (first | (with_reducible first | exact HB.out | apply below_alloc | apply pw_below_drewN | apply below_drew1 | refine below_set ?_ (IsS119.ge HI0.out)) | exact HB.out), by repeat (first | (with_reducible first | exact HK.out | apply KeepBut.set_ | apply keep_drewN | apply keep_drew | apply keep_alloc) | exact HK.out)⟩
 ·
  replace H := obE H
  obtain ⟨⟨t194, t195, t196, t197⟩, A13, H⟩ := H
  try dsimp only at H
  simp only [Option.some.injEq, Prod.mk.injEq] at H
  obtain ⟨rfl, rfl, rfl, rfl⟩ := H
  go_enter Tryd.func47, Tryd.ntmps47
  go_wp2_with (first | (go_at_call 79; (with_reducible refine (octet_Reader_Number.calls k g s0_0 s0_1 s0_2 (IntKind.u64.wrap (a1)) t194 t195 t196 t197 w0 _ ?side1 ?side2 A13.out).mono ?_); (case side1 => repeat (first | (with_reducible first | exact HI0.out | apply IsS119.alloc | apply IsS119.drewN | apply IsS119.drew | apply IsS119.set_0 | apply IsS119.set_1 | apply IsS119.set_2) | exact HI0.out)); (case side2 => repeat (first | (with_reducible first | exact HB.out | apply below_alloc | apply pw_below_drewN | apply below_drew1 | refine below_set ?_ (IsS119.ge HI0.out)) | exact HB.out)); rintro e w14 ⟨rfl, hi, hb, hk⟩; replace HK := am (KeepBut.trans (by repeat (first | (with_reducible first | exact HK.out | apply KeepBut.set_ | apply keep_drewN | apply keep_drew | apply keep_alloc) | exact HK.out)) hk (.inl rfl)); replace HB := am (hb); replace HI0 := am (hi); (try clear hb); (try clear hk); (try clear hi)))
  repeat (go_quiet (first | (go_at_call 79; (with_reducible refine (octet_Reader_Number.calls k g s0_0 s0_1 s0_2 (IntKind.u64.wrap (a1)) t194 t195 t196 t197 w0 _ ?side1 ?side2 A13.out).mono ?_); (case side1 => repeat (first | (with_reducible first | exact HI0.out | apply IsS119.alloc | apply IsS119.drewN | apply IsS119.drew | apply IsS119.set_0 | apply IsS119.set_1 | apply IsS119.set_2) | exact HI0.out)); (case side2 => repeat (first | (with_reducible first | exact HB.out | apply below_alloc | apply pw_below_drewN | apply below_drew1 | refine below_set ?_ (IsS119.ge HI0.out)) | exact HB.out)); rintro e w14 ⟨rfl, hi, hb, hk⟩; replace HK := am (KeepBut.trans (by repeat (first | (with_reducible first | exact HK.out | apply KeepBut.set_ | apply keep_drewN | apply keep_drew | apply keep_alloc) | exact HK.out)) hk (.inl rfl)); replace HB := am (hb); replace HI0 := am (hi); (try clear hb); (try clear hk); (try clear hi); clear A13)); try go_wp2_with (first | (go_at_call 79; (with_reducible refine (octet_Reader_Number.calls k g s0_0 s0_1 s0_2 (IntKind.u64.wrap (a1)) t194 t195 t196 t197 w0 _ ?side1 ?side2 A13.out).mono ?_); (case side1 => repeat (first | (with_reducible first | exact HI0.out | apply IsS119.alloc | apply IsS119.drewN | apply IsS119.drew | apply IsS119.set_0 | apply IsS119.set_1 | apply IsS119.set_2) | exact HI0.out)); (case side2 => repeat (first | (with_reducible first | exact HB.out | apply below_alloc | apply pw_below_drewN | apply below_drew1 | refine below_set ?_ (IsS119.ge HI0.out)) | exact HB.out)); rintro e w14 ⟨rfl, hi, hb, hk⟩; replace HK := am (KeepBut.trans (by repeat (first | (with_reducible first | exact HK.out | apply KeepBut.set_ | apply keep_drewN | apply keep_drew | apply keep_alloc) | exact HK.out)) hk (.inl rfl)); replace HB := am (hb); replace HI0 := am (hi); (try clear hb); (try clear hk); (try clear hi); clear A13)))
  go_ret
  exact ⟨rf, by repeat (first | (with_reducible first | exact HI0.out | apply IsS119.alloc | apply IsS119.drewN | apply IsS119.drew | apply IsS119.set_0 | apply IsS119.set_1 | apply IsS119.set_2) | exact HI0.out), by repeat (first | (with_reducible first | exact HB.out | apply below_alloc | apply pw_below_drewN | apply below_drew1 | refine below_set ?_ (IsS119.ge HI0.out)) | exact HB.out), by repeat (first | (with_reducible first | exact HK.out | apply KeepBut.set_ | apply keep_drewN | apply keep_drew | apply keep_alloc) | exact HK.out)⟩
end Go.Proofs.YtdidopoalmkhlaaDoor.Or
end
section
namespace Go.Proofs.YtdidopoalmkhlaaDoor.Or
open Go.RowKit Go.Proofs.YtdidopoalmkhlaaDoorW.PrintWords Go.Proofs.YtdidopoalmkhlaaDoorW.PrintLast Go.Proofs.YtdidopoalmkhlaaDoorW.PrintMore
attribute [local go_sem] max2_int min2_int max_two min_two max_three min_three max_four min_four
set_option linter.unusedVariables false
set_option linter.unusedSimpArgs false
def octet_ReadText.f (k : Nat) (a0 : ByteArray) (a1 : Int) : Option (ByteArray × Int × Int) := (octet_ReadNumber.f k a0 a1).bind fun bt198 => (if bt198.2.2 = 0 then (if bt198.1 > (IntKind.u64.wrap (wrap64 ((a0.size : Int) - bt198.2.1))) then (some ((⟨#[]⟩ : ByteArray), 0, 5)) else (if 0 ≤ bt198.2.1 then (if bt198.2.1 ≤ (wrap64 (bt198.2.1 + (wrap64 (bt198.1)))) then (if (wrap64 (bt198.2.1 + (wrap64 (bt198.1)))) ≤ (a0.size : Int) then (some (a0.extract (bt198.2.1 : Int).toNat ((wrap64 (bt198.2.1 + (wrap64 (bt198.1)))) : Int).toNat, wrap64 (bt198.2.1 + (wrap64 (bt198.1))), 0)) else (none)) else (none)) else (none))) else (some ((⟨#[]⟩ : ByteArray), 0, bt198.2.2)))
theorem octet_ReadText.mono : ∀ a0 a1 k, LeO (octet_ReadText.f k a0 a1) (octet_ReadText.f (k + 1) a0 a1) := by
 intro a0 a1 k
 unfold octet_ReadText.f
 repeat' (with_reducible first | exact octet_ReadNumber.mono _ _ _ | exact LeO.refl _ | exact LeO.none _ | refine LeO.ite ?_ ?_ | refine LeO.bind ?_ (fun _ => ?_))
set_option maxHeartbeats 8000000 in
set_option maxRecDepth 100000 in
theorem octet_ReadText.calls (k : Nat) (a0 : ByteArray) (a1 : Int) (r1 : ByteArray) (r2 : Int) (r3 : Int) (w : World) (h : octet_ReadText.f k a0 a1 = some (r1, r2, r3)) :
  Calls Tryd.prog 80 #[.string a0, .int .i64 a1] w fun e w' => e = .returned (.tuple #[.string r1, .int .i64 r2, .int .i64 r3]) ∧ Drawn0 w w' := by
 have H := h
 clear h
 unfold octet_ReadText.f at H
 replace H := obE H
 obtain ⟨⟨t198, t199, t200⟩, A3, H⟩ := H
 try dsimp only at H
 by_cases c4 : t200 = 0
 ·
  rw [if_pos c4] at H
  have c4b0 := beq_iff_eq.mpr c4
  have c4b1 := bne_eq_false_iff_eq.mpr c4
  clear c4
  replace H := iteD H
  rcases H with ⟨c5b0, H⟩ | ⟨c5b0, H⟩
  ·
   simp only [Option.some.injEq, Prod.mk.injEq] at H
   obtain ⟨rfl, rfl, rfl⟩ := H
   go_enter Tryd.func80, Tryd.ntmps80
   go_wp2_with (first | ((with_reducible refine gate_callee (f := 78) rfl ?_); refine goesL_ (some 13) rfl rfl Tryd.func78 (by kernel_rfl) rfl #[.string a0, .int .i64 a1] rfl gl ?_; (with_reducible refine (octet_ReadNumber.calls k a0 a1 t198 t199 t200 _ A3.out).mono ?_); rintro e w' ⟨rfl, ⟨nd, rfl⟩⟩; refine ⟨_, rfl, ?_⟩))
   go_ret3
   exact ⟨by first | rfl | (simp; done) | (simp [*]; done), by repeat (first | exact Drawn0.refl _ | apply Drawn0.step)⟩
  ·
   by_cases c6 : 0 ≤ t199
   ·
    rw [if_pos c6] at H
    have c6b0 := eq_true c6
    have c6b1 := decide_eq_true c6
    clear c6
    by_cases c7 : t199 ≤ (wrap64 (t199 + (wrap64 (t198))))
    ·
     rw [if_pos c7] at H
     have c7b0 := eq_true c7
     have c7b1 := decide_eq_true c7
     by_cases c8 : (wrap64 (t199 + (wrap64 (t198)))) ≤ (a0.size : Int)
     ·
      rw [if_pos c8] at H
      have c8b0 := eq_true c8
      have c8b1 := decide_eq_true c8
      simp only [Option.some.injEq, Prod.mk.injEq] at H
      obtain ⟨rfl, rfl, rfl⟩ := H
      go_enter Tryd.func80, Tryd.ntmps80
      go_wp2_with (first | ((with_reducible refine gate_callee (f := 78) rfl ?_); refine goesL_ (some 13) rfl rfl Tryd.func78 (by kernel_rfl) rfl #[.string a0, .int .i64 a1] rfl gl ?_; (with_reducible refine (octet_ReadNumber.calls k a0 a1 t198 t199 t200 _ A3.out).mono ?_); rintro e w' ⟨rfl, ⟨nd, rfl⟩⟩; refine ⟨_, rfl, ?_⟩))
      go_ret3
      exact ⟨by first | rfl | (simp; done) | (simp [*]; done), by repeat (first | exact Drawn0.refl _ | apply Drawn0.step)⟩
     ·
      rw [if_neg c8] at H
      exact absurd H (by simp)
    ·
     rw [if_neg c7] at H
     exact absurd H (by simp)
   ·
    rw [if_neg c6] at H
    exact absurd H (by simp)
 ·
  rw [if_neg c4] at H
  have c4b0 := beq_eq_false_iff_ne.mpr c4
  have c4b1 := bne_iff_ne.mpr c4
  simp only [Option.some.injEq, Prod.mk.injEq] at H
  obtain ⟨rfl, rfl, rfl⟩ := H
  go_enter Tryd.func80, Tryd.ntmps80
  go_wp2_with (first | ((with_reducible refine gate_callee (f := 78) rfl ?_); refine goesL_ (some 13) rfl rfl Tryd.func78 (by kernel_rfl) rfl #[.string a0, .int .i64 a1] rfl gl ?_; (with_reducible refine (octet_ReadNumber.calls k a0 a1 t198 t199 t200 _ A3.out).mono ?_); rintro e w' ⟨rfl, ⟨nd, rfl⟩⟩; refine ⟨_, rfl, ?_⟩))
  go_ret3
  exact ⟨by first | rfl | (simp; done) | (simp [*]; done), by repeat (first | exact Drawn0.refl _ | apply Drawn0.step)⟩
def octet_Reader_Text.j0 : Nat → ByteArray → Int → Int → Bool → ByteArray → Int → Int → Option (ByteArray × ByteArray × Int × Int)
 | 0, _, _, _, _, _, _, _ => none
 | k + 1, x5, x6, x7, x31, x1000, x1001, x1002 => if x31 = true then (if 2 = 0 then (some (x5, x1000, x6, x1002)) else (some ((⟨#[]⟩ : ByteArray), x1000, x1001, 2))) else (if x7 = 0 then (some (x5, x1000, x6, x1002)) else (some ((⟨#[]⟩ : ByteArray), x1000, x1001, x7)))
def octet_Reader_Text.f (k : Nat) (s0_0 : ByteArray) (s0_1 : Int) (s0_2 : Int) (a1 : Int) : Option (ByteArray × ByteArray × Int × Int) := (octet_Reader_Err.f s0_0 s0_1 s0_2).bind fun bt201 => (if bt201.1 = 0 then ((octet_ReadText.f k bt201.2.1 bt201.2.2.1).bind fun bt205 => (if bt205.2.2 = 0 then (octet_Reader_Text.j0 k bt205.1 bt205.2.1 bt205.2.2 (decide ((bt205.1.size : Int) > a1)) bt201.2.1 bt201.2.2.1 bt201.2.2.2) else (octet_Reader_Text.j0 k bt205.1 bt205.2.1 bt205.2.2 false bt201.2.1 bt201.2.2.1 bt201.2.2.2))) else (some ((⟨#[]⟩ : ByteArray), bt201.2.1, bt201.2.2.1, bt201.2.2.2)))
theorem octet_Reader_Text.mono_l : ∀ k, (∀ y0 y1 y2 y3 y4 y5 y6, LeO (octet_Reader_Text.j0 k y0 y1 y2 y3 y4 y5 y6) (octet_Reader_Text.j0 (k + 1) y0 y1 y2 y3 y4 y5 y6))
 | 0 => fun _ _ _ _ _ _ _ r h => by simp [octet_Reader_Text.j0] at h
 | k + 1 => by
  have ih0 := octet_Reader_Text.mono_l k
  ·
   intro y0 y1 y2 y3 y4 y5 y6
   unfold octet_Reader_Text.j0
   repeat' (with_reducible first | exact ih0 _ _ _ _ _ _ _ | exact octet_ReadText.mono _ _ _ | exact LeO.refl _ | exact LeO.none _ | refine LeO.ite ?_ ?_ | refine LeO.bind ?_ (fun _ => ?_))
theorem octet_Reader_Text.mono : ∀ a0 a1 a2 a3 k, LeO (octet_Reader_Text.f k a0 a1 a2 a3) (octet_Reader_Text.f (k + 1) a0 a1 a2 a3) := by
 intro a0 a1 a2 a3 k
 have ih0 := octet_Reader_Text.mono_l k
 unfold octet_Reader_Text.f
 repeat' (with_reducible first | exact ih0 _ _ _ _ _ _ _ | exact octet_ReadText.mono _ _ _ | exact LeO.refl _ | exact LeO.none _ | refine LeO.ite ?_ ?_ | refine LeO.bind ?_ (fun _ => ?_))
set_option maxHeartbeats 8000000 in
set_option maxRecDepth 100000 in
theorem octet_Reader_Text.calls (k : Nat) (g : Nat) (s0_0 : ByteArray) (s0_1 : Int) (s0_2 : Int) (a1 : Int) (r1 : ByteArray) (r2 : ByteArray) (r3 : Int) (r4 : Int) (w0 w : World) (hI : IsS119 w0 w g s0_0 s0_1 s0_2) (hB : Below w0.heap.size w0 w) (h : octet_Reader_Text.f k s0_0 s0_1 s0_2 a1 = some (r1, r2, r3, r4)) :
  Calls Tryd.prog 49 #[.pointer (some ⟨g, 0, none⟩), .int .i64 a1] w fun e w' => e = .returned (.string r1) ∧ IsS119 w0 w' g r2 r3 r4 ∧ Below w0.heap.size w0 w' ∧ KeepBut w w' g none := by
 have HI0 := am hI
 have HK := am (KeepBut.refl w g none)
 have HL := am hB.size
 clear hI
 have HW0 := am hB.size
 have HB := am hB
 clear hB
 have H := h
 clear h
 unfold octet_Reader_Text.f at H
 replace H := obE H
 obtain ⟨⟨t201, t202, t203, t204⟩, A3, H⟩ := H
 try dsimp only at H
 by_cases c4 : t201 = 0
 ·
  rw [if_pos c4] at H
  have c4b0 := beq_iff_eq.mpr c4
  have c4b1 := bne_eq_false_iff_eq.mpr c4
  clear c4
  replace H := obE H
  obtain ⟨⟨t205, t206, t207⟩, A5, H⟩ := H
  try dsimp only at H
  have HC6 := am H
  clear H
  go_enter Tryd.func49, Tryd.ntmps49
  go_upto_region 4 with (first | (go_at_call 77; (with_reducible refine (octet_Reader_Err.calls g s0_0 s0_1 s0_2 t201 t202 t203 t204 w0 _ ?side1 ?side2 A3.out).mono ?_); (case side1 => repeat (first | (with_reducible first | exact HI0.out | apply IsS119.alloc | apply IsS119.drewN | apply IsS119.drew | apply IsS119.set_0 | apply IsS119.set_1 | apply IsS119.set_2) | exact HI0.out)); (case side2 => repeat (first | (with_reducible first | exact HB.out | apply below_alloc | apply pw_below_drewN | apply below_drew1 | refine below_set ?_ (IsS119.ge HI0.out)) | exact HB.out)); rintro e w7 ⟨rfl, hi, hb, hk⟩; replace HK := am (KeepBut.trans (by repeat (first | (with_reducible first | exact HK.out | apply KeepBut.set_ | apply keep_drewN | apply keep_drew | apply keep_alloc) | exact HK.out)) hk (.inl rfl)); replace HB := am (hb); replace HI0 := am (hi); (try clear hb); (try clear hk); (try clear hi); obtain ⟨HGz8, hgz8⟩ := HI0.out; have hcz8_0 := cellS119_0 HGz8; have hcz8_1 := cellS119_1 HGz8; have hcz8_2 := cellS119_2 HGz8; have hfz8_0 := blk_frozen HGz8 0; have hfz8_1 := blk_frozen HGz8 1; have hfz8_2 := blk_frozen HGz8 2; clear HGz8 hgz8) | (go_at_call 80; (with_reducible refine (octet_ReadText.calls k t202 t203 t205 t206 t207 _ A5.out).mono ?_); rintro e w' ⟨rfl, ⟨nd, rfl⟩⟩; (try first | exact ⟨rfl, _, World.drewN_drewN _ _ _⟩ | exact ⟨rfl, _, Eq.trans (World.drewN_drewN _ _ _) (congrArg (World.drewN _) (Nat.add_assoc _ _ _))⟩)))
  repeat (go_quiet (first | (go_at_call 77; (with_reducible refine (octet_Reader_Err.calls g s0_0 s0_1 s0_2 t201 t202 t203 t204 w0 _ ?side1 ?side2 A3.out).mono ?_); (case side1 => repeat (first | (with_reducible first | exact HI0.out | apply IsS119.alloc | apply IsS119.drewN | apply IsS119.drew | apply IsS119.set_0 | apply IsS119.set_1 | apply IsS119.set_2) | exact HI0.out)); (case side2 => repeat (first | (with_reducible first | exact HB.out | apply below_alloc | apply pw_below_drewN | apply below_drew1 | refine below_set ?_ (IsS119.ge HI0.out)) | exact HB.out)); rintro e w7 ⟨rfl, hi, hb, hk⟩; replace HK := am (KeepBut.trans (by repeat (first | (with_reducible first | exact HK.out | apply KeepBut.set_ | apply keep_drewN | apply keep_drew | apply keep_alloc) | exact HK.out)) hk (.inl rfl)); replace HB := am (hb); replace HI0 := am (hi); (try clear hb); (try clear hk); (try clear hi); obtain ⟨HGz8, hgz8⟩ := HI0.out; have hcz8_0 := cellS119_0 HGz8; have hcz8_1 := cellS119_1 HGz8; have hcz8_2 := cellS119_2 HGz8; have hfz8_0 := blk_frozen HGz8 0; have hfz8_1 := blk_frozen HGz8 1; have hfz8_2 := blk_frozen HGz8 2; clear HGz8 hgz8; clear A3) | (go_at_call 80; (with_reducible refine (octet_ReadText.calls k t202 t203 t205 t206 t207 _ A5.out).mono ?_); rintro e w' ⟨rfl, ⟨nd, rfl⟩⟩; (try first | exact ⟨rfl, _, World.drewN_drewN _ _ _⟩ | exact ⟨rfl, _, Eq.trans (World.drewN_drewN _ _ _) (congrArg (World.drewN _) (Nat.add_assoc _ _ _))⟩); clear A5)); go_upto_region 4 with (first | (go_at_call 77; (with_reducible refine (octet_Reader_Err.calls g s0_0 s0_1 s0_2 t201 t202 t203 t204 w0 _ ?side1 ?side2 A3.out).mono ?_); (case side1 => repeat (first | (with_reducible first | exact HI0.out | apply IsS119.alloc | apply IsS119.drewN | apply IsS119.drew | apply IsS119.set_0 | apply IsS119.set_1 | apply IsS119.set_2) | exact HI0.out)); (case side2 => repeat (first | (with_reducible first | exact HB.out | apply below_alloc | apply pw_below_drewN | apply below_drew1 | refine below_set ?_ (IsS119.ge HI0.out)) | exact HB.out)); rintro e w7 ⟨rfl, hi, hb, hk⟩; replace HK := am (KeepBut.trans (by repeat (first | (with_reducible first | exact HK.out | apply KeepBut.set_ | apply keep_drewN | apply keep_drew | apply keep_alloc) | exact HK.out)) hk (.inl rfl)); replace HB := am (hb); replace HI0 := am (hi); (try clear hb); (try clear hk); (try clear hi); obtain ⟨HGz8, hgz8⟩ := HI0.out; have hcz8_0 := cellS119_0 HGz8; have hcz8_1 := cellS119_1 HGz8; have hcz8_2 := cellS119_2 HGz8; have hfz8_0 := blk_frozen HGz8 0; have hfz8_1 := blk_frozen HGz8 1; have hfz8_2 := blk_frozen HGz8 2; clear HGz8 hgz8; clear A3) | (go_at_call 80; (with_reducible refine (octet_ReadText.calls k t202 t203 t205 t206 t207 _ A5.out).mono ?_); rintro e w' ⟨rfl, ⟨nd, rfl⟩⟩; (try first | exact ⟨rfl, _, World.drewN_drewN _ _ _⟩ | exact ⟨rfl, _, Eq.trans (World.drewN_drewN _ _ _) (congrArg (World.drewN _) (Nat.add_assoc _ _ _))⟩); clear A5)))
  (try simp only [Act.put, List.setIfInBounds_toArray, List.set_cons_zero, List.set_cons_succ])
  go_cut [31] (fun v31 wc => ∃ (kq : Nat) (x31_5 : Bool), v31 = .bool x31_5 ∧ Aside0 (octet_Reader_Text.j0 kq t205 t206 t207 x31_5 t202 t203 t204 = some (r1, r2, r3, r4)) ∧ Aside0 (kq ≤ k) ∧ Aside0 (IsS119 w0 wc g t202 t203 t204) ∧ Aside0 (KeepBut w wc g none) ∧ Aside0 (Below w0.heap.size w0 wc))
  case first =>
   have H := HC6.out
   clear HC6
   by_cases c9 : t207 = 0
   ·
    rw [if_pos c9] at H
    have c9b0 := beq_iff_eq.mpr c9
    have c9b1 := bne_eq_false_iff_eq.mpr c9
    clear c9
    (first | rw [c9b0] | (simp only [i64_w, i32_w]; rw [c9b0]) | skip)
    have H' := am H
    clear H
    go_wp2
    repeat (go_quiet (fail); try go_wp2)
    go_meet
    case rel => exact ⟨_, (decide ((t205.size : Int) > a1)), rs, H', ⟨om⟩, ⟨by repeat (first | (with_reducible first | exact HI0.out | apply IsS119.alloc | apply IsS119.drewN | apply IsS119.drew | apply IsS119.set_0 | apply IsS119.set_1 | apply IsS119.set_2) | exact HI0.out)⟩, ⟨by repeat (first | (with_reducible first | exact HK.out | apply KeepBut.set_ | apply keep_drewN | apply keep_drew | apply keep_alloc) | exact HK.out)⟩, ⟨by repeat (first | (with_reducible first | exact HB.out | apply below_alloc | apply pw_below_drewN | apply below_drew1 | refine below_set ?_ (IsS119.ge HI0.out)) | exact HB.out)⟩⟩
   ·
    rw [if_neg c9] at H
    have c9b0 := beq_eq_false_iff_ne.mpr c9
    have c9b1 := bne_iff_ne.mpr c9
    (first | rw [c9b0] | (simp only [i64_w, i32_w]; rw [c9b0]) | skip)
    have H' := am H
    clear H
    go_wp2
    repeat (go_quiet (fail); try go_wp2)
    go_meet
    case rel => exact ⟨_, (false), rs, H', ⟨om⟩, ⟨by repeat (first | (with_reducible first | exact HI0.out | apply IsS119.alloc | apply IsS119.drewN | apply IsS119.drew | apply IsS119.set_0 | apply IsS119.set_1 | apply IsS119.set_2) | exact HI0.out)⟩, ⟨by repeat (first | (with_reducible first | exact HK.out | apply KeepBut.set_ | apply keep_drewN | apply keep_drew | apply keep_alloc) | exact HK.out)⟩, ⟨by repeat (first | (with_reducible first | exact HB.out | apply below_alloc | apply pw_below_drewN | apply below_drew1 | refine below_set ?_ (IsS119.ge HI0.out)) | exact HB.out)⟩⟩
  case rest =>
   clear HC6
   try clear c4
   try clear c4b0
   try clear c4b1
   try clear hcz8_0 hcz8_1 hcz8_2 hfz8_0 hfz8_1 hfz8_2
   obtain ⟨kq, x31_5, rfl, HA, HJ5, HI0, HK, HB⟩ := hcut
   cases kq with
   | zero => exact absurd HA.out (by simp [octet_Reader_Text.j0])
   | succ kj5 =>
    have H := HA.out
    clear HA
    simp only [octet_Reader_Text.j0] at H
    by_cases c10 : x31_5 = true
    ·
     subst c10
     rw [if_pos rfl] at H
     by_cases c11 : 2 = 0
     ·
      exact absurd c11 (by decide)
     ·
      rw [if_neg c11] at H
      have c11b0 := beq_eq_false_iff_ne.mpr c11
      have c11b1 := bne_iff_ne.mpr c11
      simp only [Option.some.injEq, Prod.mk.injEq] at H
      obtain ⟨rfl, rfl, rfl, rfl⟩ := H
      obtain ⟨HGz13, hgz13⟩ := HI0.out
      have hcz13_0 := cellS119_0 HGz13
      have hcz13_1 := cellS119_1 HGz13
      have hcz13_2 := cellS119_2 HGz13
      have hfz13_0 := blk_frozen HGz13 0
      have hfz13_1 := blk_frozen HGz13 1
      have hfz13_2 := blk_frozen HGz13 2
      clear HGz13 hgz13
      go_wp2
      repeat (go_quiet (fail); try go_wp2)
      go_ret
      exact ⟨rf, by repeat (first | (with_reducible first | exact HI0.out | apply IsS119.alloc | apply IsS119.drewN | apply IsS119.drew | apply IsS119.set_0 | apply IsS119.set_1 | apply IsS119.set_2) | exact HI0.out), by repeat (first | (with_reducible first | exact HB.out | apply below_alloc | apply pw_below_drewN | apply below_drew1 | refine below_set ?_ (IsS119.ge HI0.out)) | exact HB.out), by repeat (first | (with_reducible first | exact HK.out | apply KeepBut.set_ | apply keep_drewN | apply keep_drew | apply keep_alloc) | exact HK.out)⟩
    ·
     replace c10 := Bool.eq_false_iff.mpr c10
     subst c10
     rw [if_neg (show ¬ (false = true) by decide)] at H
     by_cases c14 : t207 = 0
     ·
      rw [if_pos c14] at H
      have c14b0 := beq_iff_eq.mpr c14
      have c14b1 := bne_eq_false_iff_eq.mpr c14
      clear c14
      simp only [Option.some.injEq, Prod.mk.injEq] at H
      obtain ⟨rfl, rfl, rfl, rfl⟩ := H
      obtain ⟨HGz15, hgz15⟩ := HI0.out
      have hcz15_0 := cellS119_0 HGz15
      have hcz15_1 := cellS119_1 HGz15
      have hcz15_2 := cellS119_2 HGz15
      have hfz15_0 := blk_frozen HGz15 0
      have hfz15_1 := blk_frozen HGz15 1
      have hfz15_2 := blk_frozen HGz15 2
      clear HGz15 hgz15
      go_wp2
      repeat (go_quiet (fail); try go_wp2)
      go_ret
      exact ⟨rf, by repeat (first | (with_reducible first | exact HI0.out | apply IsS119.alloc | apply IsS119.drewN | apply IsS119.drew | apply IsS119.set_0 | apply IsS119.set_1 | apply IsS119.set_2) | exact HI0.out), by repeat (first | (with_reducible first | exact HB.out | apply below_alloc | apply pw_below_drewN | apply below_drew1 | refine below_set ?_ (IsS119.ge HI0.out)) | exact HB.out), by repeat (first | (with_reducible first | exact HK.out | apply KeepBut.set_ | apply keep_drewN | apply keep_drew | apply keep_alloc) | exact HK.out)⟩
     ·
      rw [if_neg c14] at H
      have c14b0 := beq_eq_false_iff_ne.mpr c14
      have c14b1 := bne_iff_ne.mpr c14
      simp only [Option.some.injEq, Prod.mk.injEq] at H
      obtain ⟨rfl, rfl, rfl, rfl⟩ := H
      obtain ⟨HGz16, hgz16⟩ := HI0.out
      have hcz16_0 := cellS119_0 HGz16
      have hcz16_1 := cellS119_1 HGz16
      have hcz16_2 := cellS119_2 HGz16
      have hfz16_0 := blk_frozen HGz16 0
      have hfz16_1 := blk_frozen HGz16 1
      have hfz16_2 := blk_frozen HGz16 2
      clear HGz16 hgz16
      go_wp2
      repeat (go_quiet (fail); try go_wp2)
      go_ret
      exact ⟨rf, by repeat (first | (with_reducible first | exact HI0.out | apply IsS119.alloc | apply IsS119.drewN | apply IsS119.drew | apply IsS119.set_0 | apply IsS119.set_1 | apply IsS119.set_2) | exact HI0.out), by repeat (first | (with_reducible first | exact HB.out | apply below_alloc | apply pw_below_drewN | apply below_drew1 | refine below_set ?_ (IsS119.ge HI0.out)) | exact HB.out), by repeat (first | (with_reducible first | exact HK.out | apply KeepBut.set_ | apply keep_drewN | apply keep_drew | apply keep_alloc) | exact HK.out)⟩
 ·
  rw [if_neg c4] at H
  have c4b0 := beq_eq_false_iff_ne.mpr c4
  have c4b1 := bne_iff_ne.mpr c4
  simp only [Option.some.injEq, Prod.mk.injEq] at H
  obtain ⟨rfl, rfl, rfl, rfl⟩ := H
  go_enter Tryd.func49, Tryd.ntmps49
  go_wp2_with (first | (go_at_call 77; (with_reducible refine (octet_Reader_Err.calls g s0_0 s0_1 s0_2 t201 t202 t203 t204 w0 _ ?side1 ?side2 A3.out).mono ?_); (case side1 => repeat (first | (with_reducible first | exact HI0.out | apply IsS119.alloc | apply IsS119.drewN | apply IsS119.drew | apply IsS119.set_0 | apply IsS119.set_1 | apply IsS119.set_2) | exact HI0.out)); (case side2 => repeat (first | (with_reducible first | exact HB.out | apply below_alloc | apply pw_below_drewN | apply below_drew1 | refine below_set ?_ (IsS119.ge HI0.out)) | exact HB.out)); rintro e w17 ⟨rfl, hi, hb, hk⟩; replace HK := am (KeepBut.trans (by repeat (first | (with_reducible first | exact HK.out | apply KeepBut.set_ | apply keep_drewN | apply keep_drew | apply keep_alloc) | exact HK.out)) hk (.inl rfl)); replace HB := am (hb); replace HI0 := am (hi); (try clear hb); (try clear hk); (try clear hi)))
  repeat (go_quiet (first | (go_at_call 77; (with_reducible refine (octet_Reader_Err.calls g s0_0 s0_1 s0_2 t201 t202 t203 t204 w0 _ ?side1 ?side2 A3.out).mono ?_); (case side1 => repeat (first | (with_reducible first | exact HI0.out | apply IsS119.alloc | apply IsS119.drewN | apply IsS119.drew | apply IsS119.set_0 | apply IsS119.set_1 | apply IsS119.set_2) | exact HI0.out)); (case side2 => repeat (first | (with_reducible first | exact HB.out | apply below_alloc | apply pw_below_drewN | apply below_drew1 | refine below_set ?_ (IsS119.ge HI0.out)) | exact HB.out)); rintro e w17 ⟨rfl, hi, hb, hk⟩; replace HK := am (KeepBut.trans (by repeat (first | (with_reducible first | exact HK.out | apply KeepBut.set_ | apply keep_drewN | apply keep_drew | apply keep_alloc) | exact HK.out)) hk (.inl rfl)); replace HB := am (hb); replace HI0 := am (hi); (try clear hb); (try clear hk); (try clear hi); clear A3)); try go_wp2_with (first | (go_at_call 77; (with_reducible refine (octet_Reader_Err.calls g s0_0 s0_1 s0_2 t201 t202 t203 t204 w0 _ ?side1 ?side2 A3.out).mono ?_); (case side1 => repeat (first | (with_reducible first | exact HI0.out | apply IsS119.alloc | apply IsS119.drewN | apply IsS119.drew | apply IsS119.set_0 | apply IsS119.set_1 | apply IsS119.set_2) | exact HI0.out)); (case side2 => repeat (first | (with_reducible first | exact HB.out | apply below_alloc | apply pw_below_drewN | apply below_drew1 | refine below_set ?_ (IsS119.ge HI0.out)) | exact HB.out)); rintro e w17 ⟨rfl, hi, hb, hk⟩; replace HK := am (KeepBut.trans (by repeat (first | (with_reducible first | exact HK.out | apply KeepBut.set_ | apply keep_drewN | apply keep_drew | apply keep_alloc) | exact HK.out)) hk (.inl rfl)); replace HB := am (hb); replace HI0 := am (hi); (try clear hb); (try clear hk); (try clear hi); clear A3)))
  go_ret
  exact ⟨rf, by repeat (first | (with_reducible first | exact HI0.out | apply IsS119.alloc | apply IsS119.drewN | apply IsS119.drew | apply IsS119.set_0 | apply IsS119.set_1 | apply IsS119.set_2) | exact HI0.out), by repeat (first | (with_reducible first | exact HB.out | apply below_alloc | apply pw_below_drewN | apply below_drew1 | refine below_set ?_ (IsS119.ge HI0.out)) | exact HB.out), by repeat (first | (with_reducible first | exact HK.out | apply KeepBut.set_ | apply keep_drewN | apply keep_drew | apply keep_alloc) | exact HK.out)⟩
def octet_Reader_End.f (s0_0 : ByteArray) (s0_1 : Int) (s0_2 : Int) : Option (Int × ByteArray × Int × Int) := if s0_2 = 0 then (if s0_1 < (s0_0.size : Int) then some (2, s0_0, s0_1, 2) else some (0, s0_0, s0_1, 0)) else some (s0_2, s0_0, s0_1, s0_2)
set_option maxRecDepth 100000 in
set_option maxHeartbeats 1000000 in
theorem octet_Reader_End_err (g : Nat) (e0 : Int) (w : World) (h2 : w.cell? ⟨g, 2, none⟩ = some (.int .i64 e0)) :
  Calls Tryd.prog 77 #[.pointer (some ⟨g, 0, none⟩)] w fun e w' => e = .returned (.int .i64 e0) ∧ w' = w := by
 go_enter Tryd.func77, Tryd.ntmps77
 go_wp2
 go_ret
 exact ⟨rfl, rfl⟩
set_option maxRecDepth 100000 in
set_option maxHeartbeats 1000000 in
theorem octet_Reader_End_no (g : Nat) (e0 : Int) (w : World) (he : ¬ e0 = 0) (h2 : w.cell? ⟨g, 2, none⟩ = some (.int .i64 e0)) :
  Calls Tryd.prog 51 #[.pointer (some ⟨g, 0, none⟩)] w fun e w' => e = .returned (.int .i64 e0) ∧ ∃ n, w' = w.drewN n := by
 have mixed : Tryd.prog.follows Departure.mixedOrders = true := by kernel_rfl
 have hne : (e0 == 0) = false := beq_eq_false_iff_ne.2 he
 go_enter Tryd.func51, Tryd.ntmps51
 go_wp2
 go_quiet (first | (go_at_call 77; exact Calls.quiet_of_same (octet_Reader_End_err g e0 _ h2)))
 go_wp2_with (go_at_call 77; refine (octet_Reader_End_err g e0 _ (by exact h2)).mono ?_; rintro e w' ⟨rfl, rfl⟩)
 go_ret
 exact ⟨rfl, _, rfl⟩
set_option maxRecDepth 100000 in
set_option maxHeartbeats 1000000 in
theorem octet_Reader_End_end (g : Nat) (s : ByteArray) (a : Int) (w : World) (ha : ¬ a < (s.size : Int)) (h0 : w.cell? ⟨g, 0, none⟩ = some (.string s)) (h1 : w.cell? ⟨g, 1, none⟩ = some (.int .i64 a)) (h2 : w.cell? ⟨g, 2, none⟩ = some (.int .i64 0)) :
  Calls Tryd.prog 51 #[.pointer (some ⟨g, 0, none⟩)] w fun e w' => e = .returned (.int .i64 0) ∧ ∃ n, w' = w.drewN n := by
 have mixed : Tryd.prog.follows Departure.mixedOrders = true := by kernel_rfl
 have hne : decide (a < (s.size : Int)) = false := decide_eq_false ha
 go_enter Tryd.func51, Tryd.ntmps51
 go_wp2
 go_quiet (first | (go_at_call 77; exact Calls.quiet_of_same (octet_Reader_End_err g 0 _ h2)))
 go_wp2_with (go_at_call 77; refine (octet_Reader_End_err g 0 _ (by exact h2)).mono ?_; rintro e w' ⟨rfl, rfl⟩)
 go_ret
 exact ⟨rfl, _, rfl⟩
set_option maxRecDepth 100000 in
set_option maxHeartbeats 1000000 in
theorem octet_Reader_End_long (g : Nat) (s : ByteArray) (a : Int) (w : World) (ha : a < (s.size : Int)) (h0 : w.cell? ⟨g, 0, none⟩ = some (.string s)) (h1 : w.cell? ⟨g, 1, none⟩ = some (.int .i64 a)) (h2 : w.cell? ⟨g, 2, none⟩ = some (.int .i64 0)) (hz : w.frozen? ⟨g, 2, none⟩ = false) :
  Calls Tryd.prog 51 #[.pointer (some ⟨g, 0, none⟩)] w fun e w' => e = .returned (.int .i64 2) ∧ ∃ n, w' = (w.drewN n).setCell ⟨g, 2, none⟩ (.int .i64 2) := by
 have mixed : Tryd.prog.follows Departure.mixedOrders = true := by kernel_rfl
 have hne : decide (a < (s.size : Int)) = true := decide_eq_true ha
 go_enter Tryd.func51, Tryd.ntmps51
 go_wp2
 go_quiet (first | (go_at_call 77; exact Calls.quiet_of_same (octet_Reader_End_err g 0 _ h2)))
 go_wp2_with (go_at_call 77; refine (octet_Reader_End_err g 2 _ ?_).mono ?_; rotate_left; rintro e w' ⟨rfl, rfl⟩)
 ·
  go_ret
  exact ⟨rfl, _, rfl⟩
 ·
  exact World.cell?_setCell_same _ _ _ (u := .int .i64 0) (by exact h2)
theorem octet_Reader_End.calls (g : Nat) (s0_0 : ByteArray) (s0_1 : Int) (s0_2 : Int) (r1 : Int) (r2 : ByteArray) (r3 : Int) (r4 : Int) (w0 w : World) (hI : IsS119 w0 w g s0_0 s0_1 s0_2) (hB : Below w0.heap.size w0 w) (h : octet_Reader_End.f s0_0 s0_1 s0_2 = some (r1, r2, r3, r4)) :
  Calls Tryd.prog 51 #[.pointer (some ⟨g, 0, none⟩)] w fun e w' => e = .returned (.int .i64 r1) ∧ IsS119 w0 w' g r2 r3 r4 ∧ Below w0.heap.size w0 w' ∧ KeepBut w w' g none := by
 have c0 := cellS119_0 hI.1
 have c1 := cellS119_1 hI.1
 have c2 := cellS119_2 hI.1
 have cz := blk_frozen hI.1 2
 unfold octet_Reader_End.f at h
 split at h
 ·
  rename_i he
  subst he
  split at h
  ·
   rename_i ha
   cases h
   exact (octet_Reader_End_long g _ _ w ha c0 c1 c2 cz).mono fun e w' ⟨h1, n, h2⟩ => ⟨h1, by rw [h2]; exact (hI.drewN n).set_2 2, by rw [h2]; exact (pw_below_drewN hB n).setCell hI.2 _, by rw [h2]; exact (keep_drewN (KeepBut.refl _ _ _) n).set_ 2 _⟩
  ·
   rename_i ha
   cases h
   exact (octet_Reader_End_end g _ _ w ha c0 c1 c2).mono fun e w' ⟨h1, n, h2⟩ => ⟨h1, by rw [h2]; exact hI.drewN n, by rw [h2]; exact pw_below_drewN hB n, by rw [h2]; exact keep_drewN (KeepBut.refl _ _ _) n⟩
 ·
  rename_i he
  cases h
  exact (octet_Reader_End_no g _ w he c2).mono fun e w' ⟨h1, n, h2⟩ => ⟨h1, by rw [h2]; exact hI.drewN n, by rw [h2]; exact pw_below_drewN hB n, by rw [h2]; exact keep_drewN (KeepBut.refl _ _ _) n⟩
def cmd_Decode_txt (k : Nat) (b : Bool) (s : ByteArray) (a e most : Int) : Option (ByteArray × ByteArray × Int × Int) := if b = true then some (⟨#[]⟩, s, a, e) else octet_Reader_Text.f k s a e most
def cmd_Decode_num (k : Nat) (b : Bool) (s : ByteArray) (a e most : Int) : Option (Int × ByteArray × Int × Int) := if b = true then some (0, s, a, e) else octet_Reader_Int.f k s a e most
theorem cmd_Decode_d1 (k gf gr g : Nat) (f bit most : Int) (s : ByteArray) (a e : Int) (r1 : ByteArray) (r2 : ByteArray) (r3 r4 : Int) (w0 W : World) (hB : Below w0.heap.size w0 W) (hI : IsS119 w0 W g s a e) (hf : W.heap[gf]? = some (.cells #[.int .i64 f] 3 (0, 0))) (hr : W.heap[gr]? = some (.cells #[.pointer (some ⟨g, 0, none⟩)] 76 (0, 0))) (h : cmd_Decode_txt k (Go.bits .and .i64 f bit == 0) s a e most = some (r1, r2, r3, r4)) :
  Calls Tryd.prog 48 #[.int .i64 bit, .int .i64 most, .pointer (some ⟨gf, 0, none⟩), .pointer (some ⟨gr, 0, none⟩)] W fun z W' => z = .returned (.string r1) ∧ IsS119 w0 W' g r2 r3 r4 ∧ Below w0.heap.size w0 W' ∧ KeepBut W W' g none := by
 have HI := am hI
 have HB := am hB
 obtain ⟨cf, ff⟩ := cz1 hf
 obtain ⟨cr, fr⟩ := cz1 hr
 clear hf hr hB hI
 unfold cmd_Decode_txt at h
 by_cases hb : (Go.bits .and .i64 f bit == 0) = true
 ·
  rw [if_pos hb] at h
  cases h
  go_enter Tryd.func48, Tryd.ntmps48
  go_wp2
  go_ret
  exact ⟨rfl, HI.out, HB.out, KeepBut.refl _ _ _⟩
 ·
  rw [if_neg hb] at h
  replace hb := Bool.eq_false_iff.mpr hb
  have HA := am h
  clear h
  go_enter Tryd.func48, Tryd.ntmps48
  go_wp2_with (go_at_call 49; (with_reducible refine (octet_Reader_Text.calls k g s a e most r1 r2 r3 r4 w0 _ HI.out HB.out HA.out).mono ?_); rintro z w1 ⟨rfl, hi, hbb, hk⟩; have HR := am (And.intro hi (And.intro hbb hk)); clear hi hbb hk)
  go_ret
  exact ⟨rfl, HR.out⟩
theorem cmd_Decode_d2 (k gf gr g : Nat) (f bit most : Int) (s : ByteArray) (a e : Int) (r1 : Int) (r2 : ByteArray) (r3 r4 : Int) (w0 W : World) (hB : Below w0.heap.size w0 W) (hI : IsS119 w0 W g s a e) (hf : W.heap[gf]? = some (.cells #[.int .i64 f] 3 (0, 0))) (hr : W.heap[gr]? = some (.cells #[.pointer (some ⟨g, 0, none⟩)] 76 (0, 0))) (h : cmd_Decode_num k (Go.bits .and .i64 f bit == 0) s a e most = some (r1, r2, r3, r4)) :
  Calls Tryd.prog 50 #[.int .i64 bit, .int .i64 most, .pointer (some ⟨gf, 0, none⟩), .pointer (some ⟨gr, 0, none⟩)] W fun z W' => z = .returned (.int .i64 r1) ∧ IsS119 w0 W' g r2 r3 r4 ∧ Below w0.heap.size w0 W' ∧ KeepBut W W' g none := by
 have HI := am hI
 have HB := am hB
 obtain ⟨cf, ff⟩ := cz1 hf
 obtain ⟨cr, fr⟩ := cz1 hr
 clear hf hr hB hI
 unfold cmd_Decode_num at h
 by_cases hb : (Go.bits .and .i64 f bit == 0) = true
 ·
  rw [if_pos hb] at h
  cases h
  go_enter Tryd.func50, Tryd.ntmps50
  go_wp2
  go_ret
  exact ⟨rfl, HI.out, HB.out, KeepBut.refl _ _ _⟩
 ·
  rw [if_neg hb] at h
  replace hb := Bool.eq_false_iff.mpr hb
  have HA := am h
  clear h
  go_enter Tryd.func50, Tryd.ntmps50
  go_wp2_with (go_at_call 47; (with_reducible refine (octet_Reader_Int.calls k g s a e most r1 r2 r3 r4 w0 _ HI.out HB.out HA.out).mono ?_); rintro z w1 ⟨rfl, hi, hbb, hk⟩; have HR := am (And.intro hi (And.intro hbb hk)); clear hi hbb hk)
  go_ret
  exact ⟨rfl, HR.out⟩
-- MAIN
def cmd_Decode_l0 (k : Nat) : Nat → ByteArray → Int → Int → List (S82) → Option (ByteArray × Int × Int × List (S82))
 | 0, s, a, e, acc => some (s, a, e, acc)
 | n + 1, s, a, e, acc => (octet_Reader_Text.f k s a e 64).bind fun t => (octet_Reader_Int.f k t.2.1 t.2.2.1 t.2.2.2 4096).bind fun m => if acc.length < 5864062014805 then cmd_Decode_l0 k n m.2.1 m.2.2.1 m.2.2.2 (acc ++ [⟨t.1, m.1⟩]) else none
def cmd_Decode_l1 (k : Nat) : Nat → ByteArray → Int → Int → List (S62) → Option (ByteArray × Int × Int × List (S62))
 | 0, s, a, e, acc => some (s, a, e, acc)
 | n + 1, s, a, e, acc => (octet_Reader_Int.f k s a e 100).bind fun m => (octet_Reader_Text.f k m.2.1 m.2.2.1 m.2.2.2 64).bind fun t => if acc.length < 5864062014805 then cmd_Decode_l1 k n t.2.1 t.2.2.1 t.2.2.2 (acc ++ [⟨m.1, t.1⟩]) else none
abbrev cmd_Decode_Res := Int × ByteArray × ByteArray × ByteArray × Int × Int × ByteArray × List (S82) × List (S62) × Int
def cmd_Decode_none : cmd_Decode_Res := (0, ⟨#[]⟩, ⟨#[]⟩, ⟨#[]⟩, 0, 0, ⟨#[]⟩, [], [], 3)
def cmd_Decode.f (k : Nat) (a0 : ByteArray) : Option cmd_Decode_Res :=
 (octet_NewReader.f a0).bind fun b0 => (octet_Reader_Int.f k b0.1 b0.2.1 b0.2.2 10).bind fun b1 => (cmd_fields.f k b1.1).bind fun f => (cmd_Decode_txt k (Go.bits .and .i64 f 1 == 0) b1.2.1 b1.2.2.1 b1.2.2.2 64).bind fun b2 => (cmd_Decode_txt k (Go.bits .and .i64 f 2 == 0) b2.2.1 b2.2.2.1 b2.2.2.2 63).bind fun b3 => (cmd_Decode_txt k (Go.bits .and .i64 f 4 == 0) b3.2.1 b3.2.2.1 b3.2.2.2 1024).bind fun b4 => (cmd_Decode_num k (Go.bits .and .i64 f 8 == 0) b4.2.1 b4.2.2.1 b4.2.2.2 1099511627776).bind fun b5 => (cmd_Decode_num k (Go.bits .and .i64 f 16 == 0) b5.2.1 b5.2.2.1 b5.2.2.2 100).bind fun b6 => (cmd_Decode_txt k (Go.bits .and .i64 f 32 == 0) b6.2.1 b6.2.2.1 b6.2.2.2 64).bind fun b7 => (cmd_Decode_num k (Go.bits .and .i64 f 64 == 0) b7.2.1 b7.2.2.1 b7.2.2.2 512).bind fun b8 => (if b8.1 ≤ 512 then cmd_Decode_l0 k b8.1.toNat b8.2.1 b8.2.2.1 b8.2.2.2 [] else none).bind fun b9 => (cmd_Decode_num k (Go.bits .and .i64 f 128 == 0) b9.1 b9.2.1 b9.2.2.1 100).bind fun b10 => (if b10.1 ≤ 100 then cmd_Decode_l1 k b10.1.toNat b10.2.1 b10.2.2.1 b10.2.2.2 [] else none).bind fun b11 => (octet_Reader_End.f b11.1 b11.2.1 b11.2.2.1).bind fun b12 => if b12.1 = 0 then ((cmd_Check.f k b1.1 b2.1 b3.1 b4.1 b5.1 b6.1 b7.1 b9.2.2.2 b11.2.2.2).bind fun c => if c = 0 then some (b1.1, b2.1, b3.1, b4.1, b5.1, b6.1, b7.1, b9.2.2.2, b11.2.2.2, 0) else some cmd_Decode_none) else some cmd_Decode_none
theorem cmd_Decode_txt_mono (k : Nat) (b : Bool) (s : ByteArray) (a e m : Int) : LeO (cmd_Decode_txt k b s a e m) (cmd_Decode_txt (k + 1) b s a e m) := by
 unfold cmd_Decode_txt
 exact LeO.ite (LeO.refl _) (octet_Reader_Text.mono _ _ _ _ _)
theorem cmd_Decode_num_mono (k : Nat) (b : Bool) (s : ByteArray) (a e m : Int) : LeO (cmd_Decode_num k b s a e m) (cmd_Decode_num (k + 1) b s a e m) := by
 unfold cmd_Decode_num
 exact LeO.ite (LeO.refl _) (octet_Reader_Int.mono _ _ _ _ _)
theorem cmd_Decode_l0_mono (k : Nat) : ∀ n s a e l, LeO (cmd_Decode_l0 k n s a e l) (cmd_Decode_l0 (k + 1) n s a e l)
 | 0, _, _, _, _ => LeO.refl _
 | n + 1, s, a, e, l => by
  rw [cmd_Decode_l0, cmd_Decode_l0]
  exact LeO.bind (octet_Reader_Text.mono _ _ _ _ _) fun _ => LeO.bind (octet_Reader_Int.mono _ _ _ _ _) fun _ => LeO.ite (cmd_Decode_l0_mono k n _ _ _ _) (LeO.refl _)
theorem cmd_Decode_l1_mono (k : Nat) : ∀ n s a e l, LeO (cmd_Decode_l1 k n s a e l) (cmd_Decode_l1 (k + 1) n s a e l)
 | 0, _, _, _, _ => LeO.refl _
 | n + 1, s, a, e, l => by
  rw [cmd_Decode_l1, cmd_Decode_l1]
  exact LeO.bind (octet_Reader_Int.mono _ _ _ _ _) fun _ => LeO.bind (octet_Reader_Text.mono _ _ _ _ _) fun _ => LeO.ite (cmd_Decode_l1_mono k n _ _ _ _) (LeO.refl _)
theorem cmd_Decode.mono : ∀ a0 k, LeO (cmd_Decode.f k a0) (cmd_Decode.f (k + 1) a0) := by
 intro a0 k
 unfold cmd_Decode.f
 repeat' (with_reducible first | exact octet_Reader_Int.mono _ _ _ _ _ | exact cmd_fields.mono _ _ | exact cmd_Check.mono _ _ _ _ _ _ _ _ _ _ | exact cmd_Decode_txt_mono _ _ _ _ _ _ | exact cmd_Decode_num_mono _ _ _ _ _ _ | exact cmd_Decode_l0_mono _ _ _ _ _ _ | exact cmd_Decode_l1_mono _ _ _ _ _ _ | exact LeO.refl _ | refine LeO.ite ?_ ?_ | refine LeO.bind ?_ (fun _ => ?_))
set_option maxHeartbeats 1000000 in
theorem cmd_Decode_all9 {W : World} {g t : Nat} {a0 a1 a2 a3 a4 a5 a6 a7 a8 : Value} (h : W.heap[g]? = some (.cells #[a0, a1, a2, a3, a4, a5, a6, a7, a8] t (0, 0))) (u0 u1 u2 u3 u4 u5 u6 u7 u8 : Value) :
  (((((((((W.setCell ⟨g, 0, none⟩ u0).setCell ⟨g, 1, none⟩ u1).setCell ⟨g, 2, none⟩ u2).setCell ⟨g, 3, none⟩ u3).setCell ⟨g, 4, none⟩ u4).setCell ⟨g, 5, none⟩ u5).setCell ⟨g, 6, none⟩ u6).setCell ⟨g, 7, none⟩ u7).setCell ⟨g, 8, none⟩ u8).heap[g]? = some (.cells #[u0, u1, u2, u3, u4, u5, u6, u7, u8] t (0, 0)) ∧ (∀ g', g' ≠ g → (((((((((W.setCell ⟨g, 0, none⟩ u0).setCell ⟨g, 1, none⟩ u1).setCell ⟨g, 2, none⟩ u2).setCell ⟨g, 3, none⟩ u3).setCell ⟨g, 4, none⟩ u4).setCell ⟨g, 5, none⟩ u5).setCell ⟨g, 6, none⟩ u6).setCell ⟨g, 7, none⟩ u7).setCell ⟨g, 8, none⟩ u8).heap[g']? = W.heap[g']?) ∧ ∀ w : World, Below w.heap.size w W → w.heap.size ≤ g → Below w.heap.size w (((((((((W.setCell ⟨g, 0, none⟩ u0).setCell ⟨g, 1, none⟩ u1).setCell ⟨g, 2, none⟩ u2).setCell ⟨g, 3, none⟩ u3).setCell ⟨g, 4, none⟩ u4).setCell ⟨g, 5, none⟩ u5).setCell ⟨g, 6, none⟩ u6).setCell ⟨g, 7, none⟩ u7).setCell ⟨g, 8, none⟩ u8) := by
 have b0 := blk_put (cs' := #[u0, a1, a2, a3, a4, a5, a6, a7, a8]) h 0 u0 rfl
 have b1 := blk_put (cs' := #[u0, u1, a2, a3, a4, a5, a6, a7, a8]) b0 1 u1 rfl
 have b2 := blk_put (cs' := #[u0, u1, u2, a3, a4, a5, a6, a7, a8]) b1 2 u2 rfl
 have b3 := blk_put (cs' := #[u0, u1, u2, u3, a4, a5, a6, a7, a8]) b2 3 u3 rfl
 have b4 := blk_put (cs' := #[u0, u1, u2, u3, u4, a5, a6, a7, a8]) b3 4 u4 rfl
 have b5 := blk_put (cs' := #[u0, u1, u2, u3, u4, u5, a6, a7, a8]) b4 5 u5 rfl
 have b6 := blk_put (cs' := #[u0, u1, u2, u3, u4, u5, u6, a7, a8]) b5 6 u6 rfl
 have b7 := blk_put (cs' := #[u0, u1, u2, u3, u4, u5, u6, u7, a8]) b6 7 u7 rfl
 have b8 := blk_put (cs' := #[u0, u1, u2, u3, u4, u5, u6, u7, u8]) b7 8 u8 rfl
 refine ⟨b8, ?_, ?_⟩
 ·
  intro g' hg'
  exact (Below.heap_setCell ((((((((W.setCell ⟨g, 0, none⟩ u0).setCell ⟨g, 1, none⟩ u1).setCell ⟨g, 2, none⟩ u2).setCell ⟨g, 3, none⟩ u3).setCell ⟨g, 4, none⟩ u4).setCell ⟨g, 5, none⟩ u5).setCell ⟨g, 6, none⟩ u6).setCell ⟨g, 7, none⟩ u7) ⟨g, 8, none⟩ u8 g' hg').trans ((Below.heap_setCell (((((((W.setCell ⟨g, 0, none⟩ u0).setCell ⟨g, 1, none⟩ u1).setCell ⟨g, 2, none⟩ u2).setCell ⟨g, 3, none⟩ u3).setCell ⟨g, 4, none⟩ u4).setCell ⟨g, 5, none⟩ u5).setCell ⟨g, 6, none⟩ u6) ⟨g, 7, none⟩ u7 g' hg').trans ((Below.heap_setCell ((((((W.setCell ⟨g, 0, none⟩ u0).setCell ⟨g, 1, none⟩ u1).setCell ⟨g, 2, none⟩ u2).setCell ⟨g, 3, none⟩ u3).setCell ⟨g, 4, none⟩ u4).setCell ⟨g, 5, none⟩ u5) ⟨g, 6, none⟩ u6 g' hg').trans ((Below.heap_setCell (((((W.setCell ⟨g, 0, none⟩ u0).setCell ⟨g, 1, none⟩ u1).setCell ⟨g, 2, none⟩ u2).setCell ⟨g, 3, none⟩ u3).setCell ⟨g, 4, none⟩ u4) ⟨g, 5, none⟩ u5 g' hg').trans ((Below.heap_setCell ((((W.setCell ⟨g, 0, none⟩ u0).setCell ⟨g, 1, none⟩ u1).setCell ⟨g, 2, none⟩ u2).setCell ⟨g, 3, none⟩ u3) ⟨g, 4, none⟩ u4 g' hg').trans ((Below.heap_setCell (((W.setCell ⟨g, 0, none⟩ u0).setCell ⟨g, 1, none⟩ u1).setCell ⟨g, 2, none⟩ u2) ⟨g, 3, none⟩ u3 g' hg').trans ((Below.heap_setCell ((W.setCell ⟨g, 0, none⟩ u0).setCell ⟨g, 1, none⟩ u1) ⟨g, 2, none⟩ u2 g' hg').trans ((Below.heap_setCell (W.setCell ⟨g, 0, none⟩ u0) ⟨g, 1, none⟩ u1 g' hg').trans (Below.heap_setCell W ⟨g, 0, none⟩ u0 g' hg'))))))))
 ·
  exact fun w hb hl => (below_set (below_set (below_set (below_set (below_set (below_set (below_set (below_set (below_set hb hl) hl) hl) hl) hl) hl) hl) hl) hl)
structure cmd_Decode_D (w : World) (gz gr gc gf g : Nat) (f : Int) (CS : Array Value) (s : ByteArray) (a e : Int) (W : World) : Prop where
 z : W.heap[gz]? = some (.cells #[.int .i64 0, .string ⟨#[]⟩, .string ⟨#[]⟩, .string ⟨#[]⟩, .int .i64 0, .int .i64 0, .string ⟨#[]⟩, .slice none 0 0, .slice none 0 0] 25 (0, 0))
 r : W.heap[gr]? = some (.cells #[.pointer (some ⟨g, 0, none⟩)] 76 (0, 0))
 c : W.heap[gc]? = some (.cells CS 25 (0, 0))
 f : W.heap[gf]? = some (.cells #[.int .i64 f] 3 (0, 0))
 i : IsS119 w W g s a e
 b : Below w.heap.size w W
 lz : w.heap.size ≤ gz
 lc : w.heap.size ≤ gc
 nzc : gz ≠ gc
theorem cmd_Decode_D.step {w W : World} {gz gr gc gf g : Nat} {f : Int} {CS : Array Value} {s : ByteArray} {a e : Int} (h : cmd_Decode_D w gz gr gc gf g f CS s a e W) {W' : World} {s' : ByteArray} {a' e' : Int} (hi : IsS119 w W' g s' a' e') (hb : Below w.heap.size w W') (hk : KeepBut W W' g none) : cmd_Decode_D w gz gr gc gf g f CS s' a' e' W' :=
 ⟨hk.blk h.z (blk_ne h.z h.i.1 (by decide)) (by simp), hk.blk h.r (blk_ne h.r h.i.1 (by decide)) (by simp), hk.blk h.c (blk_ne h.c h.i.1 (by decide)) (by simp), hk.blk h.f (blk_ne h.f h.i.1 (by decide)) (by simp), hi, hb, h.lz, h.lc, h.nzc⟩
theorem cmd_Decode_D.put {w W : World} {gz gr gc gf g : Nat} {f : Int} {CS : Array Value} {s : ByteArray} {a e : Int} (h : cmd_Decode_D w gz gr gc gf g f CS s a e W) {CS' : Array Value} (i : Nat) (u : Value) (q : CS.setIfInBounds i u = CS') : cmd_Decode_D w gz gr gc gf g f CS' s a e (W.setCell ⟨gc, i, none⟩ u) :=
 ⟨blk_far h.z h.nzc _, blk_far h.r (blk_ne h.r h.c (by decide)) _, blk_put h.c i u q, blk_far h.f (blk_ne h.f h.c (by decide)) _, ⟨blk_far h.i.1 (blk_ne h.i.1 h.c (by decide)) _, h.i.2⟩, below_set h.b h.lc, h.lz, h.lc, h.nzc⟩
theorem cmd_Decode_D.below {w W : World} {gz gr gc gf g : Nat} {f : Int} {CS : Array Value} {s : ByteArray} {a e : Int} (h : cmd_Decode_D w gz gr gc gf g f CS s a e W) {W' : World} (hb : Below W.heap.size W W') : cmd_Decode_D w gz gr gc gf g f CS s a e W' :=
 ⟨blk_below h.z hb, blk_below h.r hb, blk_below h.c hb, blk_below h.f hb, ⟨blk_below h.i.1 hb, h.i.2⟩, below_step h.b hb, h.lz, h.lc, h.nzc⟩
theorem cmd_Decode_D.drew {w W : World} {gz gr gc gf g : Nat} {f : Int} {CS : Array Value} {s : ByteArray} {a e : Int} (h : cmd_Decode_D w gz gr gc gf g f CS s a e W) : cmd_Decode_D w gz gr gc gf g f CS s a e W.drew := ⟨blk_drew h.z, blk_drew h.r, blk_drew h.c, blk_drew h.f, ⟨blk_drew h.i.1, h.i.2⟩, h.b.drew, h.lz, h.lc, h.nzc⟩
theorem cmd_Decode_D.grown {w W : World} {gz gr gc gf g : Nat} {f : Int} {CS : Array Value} {s : ByteArray} {a e : Int} (h : cmd_Decode_D w gz gr gc gf g f CS s a e W) {W' : World} {α : Type} {d : Kd α} {t : Nat} {v : Value} {xs : List α} (hv : d.R t W w.heap.size (fun _ => True) v xs) (hg : W.grownBy W' v.ownBlock) (hb : Below w.heap.size w W') (t1 : t ≠ 25) (t2 : t ≠ 76) (t3 : t ≠ 3) (t4 : t ≠ 119) : cmd_Decode_D w gz gr gc gf g f CS s a e W' :=
 ⟨blk_grown h.z hg (Kd.R_ne hv h.z t1), blk_grown h.r hg (Kd.R_ne hv h.r t2), blk_grown h.c hg (Kd.R_ne hv h.c t1), blk_grown h.f hg (Kd.R_ne hv h.f t3), ⟨blk_grown h.i.1 hg (Kd.R_ne hv h.i.1 t4), h.i.2⟩, hb, h.lz, h.lc, h.nzc⟩
theorem cmd_Decode_two {W W' : World} {α β : Type} {d : Kd α} {d' : Kd β} {t t' base : Nat} {v v' : Value} {xs : List α} {ys : List β} (h : d.R t W base (fun _ => True) v xs) (h' : d'.R t' W base (fun _ => True) v' ys) (hg : W.grownBy W' v'.ownBlock) (ht : ∀ q, q ∈ t :: d.E → q ≠ t') : d.R t W' base (fun _ => True) v xs :=
 Kd.R_mono (Kd.R_grown (Kd.R_bound h) hg (fun k hk => by
  obtain ⟨_, _, _, q, hq, cells, hc⟩ := hk
  exact Kd.R_ne h' hc (fun e => ht q hq e.symm))) (fun _ _ => trivial)
theorem cmd_Decode_e1 {w W : World} {gz gr gc gf g : Nat} {f : Int} {CS : Array Value} {s : ByteArray} {a e : Int} (h : cmd_Decode_D w gz gr gc gf g f CS s a e W) (k : Nat) (bit most : Int) (r1 r2 : ByteArray) (r3 r4 : Int) (q : cmd_Decode_txt k (Go.bits .and .i64 f bit == 0) s a e most = some (r1, r2, r3, r4)) :
  Calls Tryd.prog 48 #[.int .i64 bit, .int .i64 most, .pointer (some ⟨gf, 0, none⟩), .pointer (some ⟨gr, 0, none⟩)] W fun z W' => z = .returned (.string r1) ∧ cmd_Decode_D w gz gr gc gf g f CS r2 r3 r4 W' ∧ KeepBut W W' g none :=
 (cmd_Decode_d1 k gf gr g f bit most s a e r1 r2 r3 r4 w W h.b h.i h.f h.r q).mono fun _ _ ⟨x1, x2, x3, x4⟩ => ⟨x1, h.step x2 x3 x4, x4⟩
theorem cmd_Decode_e2 {w W : World} {gz gr gc gf g : Nat} {f : Int} {CS : Array Value} {s : ByteArray} {a e : Int} (h : cmd_Decode_D w gz gr gc gf g f CS s a e W) (k : Nat) (bit most : Int) (r1 : Int) (r2 : ByteArray) (r3 r4 : Int) (q : cmd_Decode_num k (Go.bits .and .i64 f bit == 0) s a e most = some (r1, r2, r3, r4)) :
  Calls Tryd.prog 50 #[.int .i64 bit, .int .i64 most, .pointer (some ⟨gf, 0, none⟩), .pointer (some ⟨gr, 0, none⟩)] W fun z W' => z = .returned (.int .i64 r1) ∧ cmd_Decode_D w gz gr gc gf g f CS r2 r3 r4 W' ∧ KeepBut W W' g none :=
 (cmd_Decode_d2 k gf gr g f bit most s a e r1 r2 r3 r4 w W h.b h.i h.f h.r q).mono fun _ _ ⟨x1, x2, x3, x4⟩ => ⟨x1, h.step x2 x3 x4, x4⟩
theorem cmd_Decode_c9 {W : World} {g : Nat} {t : TypeId} {a0 a1 a2 a3 a4 a5 a6 a7 a8 : Value} (h : W.heap[g]? = some (.cells #[a0, a1, a2, a3, a4, a5, a6, a7, a8] t (0, 0))) : W.cell? ⟨g, 0, none⟩ = some a0 ∧ W.cell? ⟨g, 1, none⟩ = some a1 ∧ W.cell? ⟨g, 2, none⟩ = some a2 ∧ W.cell? ⟨g, 3, none⟩ = some a3 ∧ W.cell? ⟨g, 4, none⟩ = some a4 ∧ W.cell? ⟨g, 5, none⟩ = some a5 ∧ W.cell? ⟨g, 6, none⟩ = some a6 ∧ W.cell? ⟨g, 7, none⟩ = some a7 ∧ W.cell? ⟨g, 8, none⟩ = some a8 :=
 ⟨(blk_cell h 0).trans rfl, (blk_cell h 1).trans rfl, (blk_cell h 2).trans rfl, (blk_cell h 3).trans rfl, (blk_cell h 4).trans rfl, (blk_cell h 5).trans rfl, (blk_cell h 6).trans rfl, (blk_cell h 7).trans rfl, (blk_cell h 8).trans rfl⟩
theorem cmd_Decode_f9 {W : World} {g : Nat} {t : TypeId} {CS : Array Value} (h : W.heap[g]? = some (.cells CS t (0, 0))) : W.frozen? ⟨g, 0, none⟩ = false ∧ W.frozen? ⟨g, 1, none⟩ = false ∧ W.frozen? ⟨g, 2, none⟩ = false ∧ W.frozen? ⟨g, 3, none⟩ = false ∧ W.frozen? ⟨g, 4, none⟩ = false ∧ W.frozen? ⟨g, 5, none⟩ = false ∧ W.frozen? ⟨g, 6, none⟩ = false ∧ W.frozen? ⟨g, 7, none⟩ = false ∧ W.frozen? ⟨g, 8, none⟩ = false :=
 ⟨blk_frozen h 0, blk_frozen h 1, blk_frozen h 2, blk_frozen h 3, blk_frozen h 4, blk_frozen h 5, blk_frozen h 6, blk_frozen h 7, blk_frozen h 8⟩
set_option maxHeartbeats 16000000 in
set_option maxRecDepth 100000 in
theorem cmd_Decode.calls (k : Nat) (a0 : ByteArray) (r1 : Int) (r2 : ByteArray) (r3 : ByteArray) (r4 : ByteArray) (r5 : Int) (r6 : Int) (r7 : ByteArray) (r8 : List (S82)) (r9 : List (S62)) (r10 : Int) (w : World) (h : cmd_Decode.f k a0 = some (r1, r2, r3, r4, r5, r6, r7, r8, r9, r10)) (hG : GG w) :
  Calls Tryd.prog 16 #[.string a0] w fun e w' => ∃ v7_ v8_ : Value, e = .returned (.tuple #[.agg #[.int .i64 r1, .string r2, .string r3, .string r4, .int .i64 r5, .int .i64 r6, .string r7, v7_, v8_], .int .i64 r10]) ∧ Kd.R k82 82 w' w.heap.size (fun _ => True) v7_ r8 ∧ Kd.R k62 62 w' w.heap.size (fun _ => True) v8_ r9 ∧ Below w.heap.size w w' := by
 have HG := am hG
 clear hG
 have HB := am (Below.refl w.heap.size w)
 unfold cmd_Decode.f at h
 replace h := obE h
 obtain ⟨⟨x0, s0, p0⟩, A0, h⟩ := h
 try dsimp only at h
 try dsimp only at A0
 replace h := obE h
 obtain ⟨⟨n1, x1, s1, p1⟩, A1, h⟩ := h
 try dsimp only at h
 try dsimp only at A1
 replace h := obE h
 obtain ⟨f, A2, h⟩ := h
 try dsimp only at A2
 replace h := obE h
 obtain ⟨⟨t2, x2, s2, p2⟩, A3, h⟩ := h
 try dsimp only at h
 try dsimp only at A3
 replace h := obE h
 obtain ⟨⟨t3, x3, s3, p3⟩, A4, h⟩ := h
 try dsimp only at h
 try dsimp only at A4
 replace h := obE h
 obtain ⟨⟨t4, x4, s4, p4⟩, A5, h⟩ := h
 try dsimp only at h
 try dsimp only at A5
 replace h := obE h
 obtain ⟨⟨n5, x5, s5, p5⟩, A6, h⟩ := h
 try dsimp only at h
 try dsimp only at A6
 replace h := obE h
 obtain ⟨⟨n6, x6, s6, p6⟩, A7, h⟩ := h
 try dsimp only at h
 try dsimp only at A7
 replace h := obE h
 obtain ⟨⟨t7, x7, s7, p7⟩, A8, h⟩ := h
 try dsimp only at h
 try dsimp only at A8
 replace h := obE h
 obtain ⟨⟨n8, x8, s8, p8⟩, A9, h⟩ := h
 try dsimp only at h
 try dsimp only at A9
 replace h := obE h
 obtain ⟨⟨x9, s9, p9, l9⟩, A10, h⟩ := h
 try dsimp only at h
 try dsimp only at A10
 replace h := obE h
 obtain ⟨⟨n10, x10, s10, p10⟩, A11, h⟩ := h
 try dsimp only at h
 try dsimp only at A11
 replace h := obE h
 obtain ⟨⟨x11, s11, p11, l11⟩, A12, h⟩ := h
 try dsimp only at h
 try dsimp only at A12
 replace h := obE h
 obtain ⟨⟨n12, x12, s12, p12⟩, A13, h⟩ := h
 try dsimp only at h
 try dsimp only at A13
 have HF := am h
 clear h
 have hmf : ∀ (fn : Fn) (first cap : Array Value) (w : World), (Instr.makeFunc fn first cap).run Tryd.prog w = .ok (.func fn first cap) w := fun _ _ _ _ => rfl
 go_enter Tryd.func16, Tryd.ntmps16
 go_wp2_with (first
  | ((with_reducible refine gate_dst (N := 2) rfl ?_); refine bx 2 #[.int .i64 0, .string ⟨#[]⟩, .string ⟨#[]⟩, .string ⟨#[]⟩, .int .i64 0, .int .i64 0, .string ⟨#[]⟩, .slice none 0 0, .slice none 0 0] 25 ?_; intro gz hg w1 hbox hb; have BZ := am hbox; have GZ := gsz hg HB.out; replace HB := am (below_step HB.out hb); clear hb hbox hg)
  | (go_at_call 46; (with_reducible refine (octet_NewReader.calls a0 x0 s0 p0 w _ HB.out A0.out).mono ?_); rintro e w2 ⟨g, rfl, hi, hb, hb2⟩; have HI := am hi; replace BZ := bb BZ.out hb2; replace HB := am hb; clear hi hb hb2)
  | ((with_reducible refine gate_dst (N := 4) rfl ?_); refine bx 4 #[.pointer none] 76 ?_; intro gr hg w3 hbox hb; have BR := am hbox; replace BZ := bb BZ.out hb; replace HI := am (show IsS119 w w3 g x0 s0 p0 from ⟨blk_below HI.out.1 hb, HI.out.2⟩); have GR := gsz hg HB.out; replace HB := am (below_step HB.out hb); clear hb hbox hg; obtain ⟨cr, fr⟩ := cz1 BR.out; have ner := blk_ne BZ.out BR.out (by decide); have nir := blk_ne HI.out.1 BR.out (by decide))
  | (go_at_call 47; (with_reducible refine (octet_Reader_Int.calls k g x0 s0 p0 10 n1 x1 s1 p1 w _ (IsS119.far HI.out nir _) (below_set HB.out GR.out) A1.out).mono ?_); rintro e w4 ⟨rfl, hi, hb, hk⟩; replace BZ := am (hk.blk (g' := gz) (o := .cells #[.int .i64 0, .string ⟨#[]⟩, .string ⟨#[]⟩, .string ⟨#[]⟩, .int .i64 0, .int .i64 0, .string ⟨#[]⟩, .slice none 0 0, .slice none 0 0] 25 (0, 0)) (blk_far BZ.out ner _) (blk_ne BZ.out HI.out.1 (by decide)) (by simp)); replace BR := am (hk.blk (g' := gr) (o := .cells #[.pointer (some ⟨g, 0, none⟩)] 76 (0, 0)) (bkp BR.out) (blk_ne BR.out HI.out.1 (by decide)) (by simp)); replace HI := am hi; replace HB := am hb; clear hi hb hk cr fr ner nir)
  | ((with_reducible refine gate_dst (N := 5) rfl ?_); refine bx 5 #[.int .i64 0, .string ⟨#[]⟩, .string ⟨#[]⟩, .string ⟨#[]⟩, .int .i64 0, .int .i64 0, .string ⟨#[]⟩, .slice none 0 0, .slice none 0 0] 25 ?_; intro gc hg wc hbox hb; have BC := am hbox; have GC := gsz hg HB.out; have NZC := nlt (g := gz) hg BZ.out; replace BZ := bb BZ.out hb; replace BR := bb BR.out hb; replace HI := am (show IsS119 w wc g x1 s1 p1 from ⟨blk_below HI.out.1 hb, HI.out.2⟩); replace HB := am (below_step HB.out hb); clear hb hbox hg; obtain ⟨c0, c1, c2, c3, c4, c5, c6, c7, c8⟩ := cmd_Decode_c9 BC.out; obtain ⟨y0, y1, y2, y3, y4, y5, y6, y7, y8⟩ := cmd_Decode_f9 BC.out)
  | (go_at_call 30; (with_reducible refine (cmd_fields.calls k n1 f _ A2.out).mono ?_); rintro e w5 ⟨rfl, hd⟩; obtain ⟨nd, rfl⟩ := hd.out; have hx := cmd_Decode_all9 BC.out (.int .i64 n1) (.string ⟨#[]⟩) (.string ⟨#[]⟩) (.string ⟨#[]⟩) (.int .i64 0) (.int .i64 0) (.string ⟨#[]⟩) (.slice none 0 0) (.slice none 0 0); have q1 := hx.1; have q2 := hx.2.1; have q3 := hx.2.2 w HB.out GC.out; clear hd hx c0 c1 c2 c3 c4 c5 c6 c7 c8 y0 y1 y2 y3 y4 y5 y6 y7 y8; generalize ((((((((wc.setCell ⟨gc, 0, none⟩ (.int .i64 n1)).setCell ⟨gc, 1, none⟩ (.string ⟨#[]⟩)).setCell ⟨gc, 2, none⟩ (.string ⟨#[]⟩)).setCell ⟨gc, 3, none⟩ (.string ⟨#[]⟩)).setCell ⟨gc, 4, none⟩ (.int .i64 0)).setCell ⟨gc, 5, none⟩ (.int .i64 0)).setCell ⟨gc, 6, none⟩ (.string ⟨#[]⟩)).setCell ⟨gc, 7, none⟩ (.slice none 0 0)).setCell ⟨gc, 8, none⟩ (.slice none 0 0) = w6 at q1 q2 q3 ⊢; replace BZ := am (blk_drewN ((q2 gz NZC.out).trans BZ.out) nd); replace BR := am (blk_drewN ((q2 gr (blk_ne BR.out BC.out (by decide))).trans BR.out) nd); replace HI := am (IsS119.drewN (show IsS119 w w6 g x1 s1 p1 from ⟨(q2 g (blk_ne HI.out.1 BC.out (by decide))).trans HI.out.1, HI.out.2⟩) nd); replace BC := am (blk_drewN q1 nd); replace HB := am (pw_below_drewN q3 nd); clear q1 q2 q3; generalize w6.drewN nd = w7 at BC BZ BR HI HB ⊢)
  | ((with_reducible refine gate_dst (N := 6) rfl ?_); refine bx 6 #[.int .i64 0] 3 ?_; intro gf hg w8 hbox hb; have GF := gsz hg HB.out; have BF := am hbox; replace BZ := bb BZ.out hb; replace BR := bb BR.out hb; replace BC := bb BC.out hb; replace HI := am (show IsS119 w w8 g x1 s1 p1 from ⟨blk_below HI.out.1 hb, HI.out.2⟩); replace HB := am (below_step HB.out hb); clear hb hbox hg; obtain ⟨cf, ff⟩ := cz1 BF.out; have HD := am (show cmd_Decode_D w gz gr gc gf g f #[.int .i64 n1, .string ⟨#[]⟩, .string ⟨#[]⟩, .string ⟨#[]⟩, .int .i64 0, .int .i64 0, .string ⟨#[]⟩, .slice none 0 0, .slice none 0 0] x1 s1 p1 (w8.setCell ⟨gf, 0, none⟩ (.int .i64 f)) from ⟨blk_far BZ.out (blk_ne BZ.out BF.out (by decide)) _, blk_far BR.out (blk_ne BR.out BF.out (by decide)) _, blk_far BC.out (blk_ne BC.out BF.out (by decide)) _, blk_put BF.out 0 _ rfl, ⟨blk_far HI.out.1 (blk_ne HI.out.1 BF.out (by decide)) _, HI.out.2⟩, below_set HB.out GF.out, GZ.out, GC.out, NZC.out⟩); clear BZ BR BC BF HI HB GZ GR GC NZC GF)
  | (go_at_call 48; have hd := HD.out; (with_reducible refine (cmd_Decode_e1 hd k 1 64 t2 x2 s2 p2 A3.out).mono ?_); rintro e w9 ⟨rfl, hd2, hkk⟩; replace HD := am hd2; clear hd hd2 hkk cf ff A3)
  | (go_at_call 48; have hd := HD.out; (with_reducible refine (cmd_Decode_e1 hd k 2 63 t3 x3 s3 p3 A4.out).mono ?_); rintro e w10 ⟨rfl, hd2, hkk⟩; replace HD := am hd2; clear hd hd2 hkk A4)
  | (go_at_call 48; have hd := HD.out; (with_reducible refine (cmd_Decode_e1 hd k 4 1024 t4 x4 s4 p4 A5.out).mono ?_); rintro e w11 ⟨rfl, hd2, hkk⟩; replace HD := am hd2; clear hd hd2 hkk A5; obtain ⟨c0, c1, c2, c3, c4, c5, c6, c7, c8⟩ := cmd_Decode_c9 HD.out.c; obtain ⟨y0, y1, y2, y3, y4, y5, y6, y7, y8⟩ := cmd_Decode_f9 HD.out.c)
  | (go_at_call 50; have hd := (((HD.out.put (CS' := #[.int .i64 n1, .string t2, .string ⟨#[]⟩, .string ⟨#[]⟩, .int .i64 0, .int .i64 0, .string ⟨#[]⟩, .slice none 0 0, .slice none 0 0]) 1 (.string t2) rfl).put (CS' := #[.int .i64 n1, .string t2, .string t3, .string ⟨#[]⟩, .int .i64 0, .int .i64 0, .string ⟨#[]⟩, .slice none 0 0, .slice none 0 0]) 2 (.string t3) rfl).put (CS' := #[.int .i64 n1, .string t2, .string t3, .string t4, .int .i64 0, .int .i64 0, .string ⟨#[]⟩, .slice none 0 0, .slice none 0 0]) 3 (.string t4) rfl); (with_reducible refine (cmd_Decode_e2 hd k 8 1099511627776 n5 x5 s5 p5 A6.out).mono ?_); rintro e w12 ⟨rfl, hd2, hkk⟩; replace HD := am hd2; clear hd hd2 hkk A6 c0 c1 c2 c3 c4 c5 c6 c7 c8 y0 y1 y2 y3 y4 y5 y6 y7 y8)
  | (go_at_call 50; have hd := HD.out; (with_reducible refine (cmd_Decode_e2 hd k 16 100 n6 x6 s6 p6 A7.out).mono ?_); rintro e w13 ⟨rfl, hd2, hkk⟩; replace HD := am hd2; clear hd hd2 hkk A7; obtain ⟨c0, c1, c2, c3, c4, c5, c6, c7, c8⟩ := cmd_Decode_c9 HD.out.c; obtain ⟨y0, y1, y2, y3, y4, y5, y6, y7, y8⟩ := cmd_Decode_f9 HD.out.c)
  | (go_at_call 48; have hd := ((HD.out.put (CS' := #[.int .i64 n1, .string t2, .string t3, .string t4, .int .i64 n5, .int .i64 0, .string ⟨#[]⟩, .slice none 0 0, .slice none 0 0]) 4 (.int .i64 n5) rfl).put (CS' := #[.int .i64 n1, .string t2, .string t3, .string t4, .int .i64 n5, .int .i64 n6, .string ⟨#[]⟩, .slice none 0 0, .slice none 0 0]) 5 (.int .i64 n6) rfl); (with_reducible refine (cmd_Decode_e1 hd k 32 64 t7 x7 s7 p7 A8.out).mono ?_); rintro e w14 ⟨rfl, hd2, hkk⟩; replace HD := am hd2; clear hd hd2 hkk A8 c0 c1 c2 c3 c4 c5 c6 c7 c8 y0 y1 y2 y3 y4 y5 y6 y7 y8; obtain ⟨c0, c1, c2, c3, c4, c5, c6, c7, c8⟩ := cmd_Decode_c9 HD.out.c; obtain ⟨y0, y1, y2, y3, y4, y5, y6, y7, y8⟩ := cmd_Decode_f9 HD.out.c)
  | (go_at_call 50; have hd := (HD.out.put (CS' := #[.int .i64 n1, .string t2, .string t3, .string t4, .int .i64 n5, .int .i64 n6, .string t7, .slice none 0 0, .slice none 0 0]) 6 (.string t7) rfl); (with_reducible refine (cmd_Decode_e2 hd k 64 512 n8 x8 s8 p8 A9.out).mono ?_); rintro e w15 ⟨rfl, hd2, hkk⟩; replace HD := am hd2; clear hd hd2 hkk A9 c0 c1 c2 c3 c4 c5 c6 c7 c8 y0 y1 y2 y3 y4 y5 y6 y7 y8))
 by_cases hn : n8 ≤ 512
 rotate_left
 ·
  exact absurd A10.out (by rw [if_neg hn]; simp)
 replace A10 := am (by have h := A10.out; rw [if_pos hn] at h; exact h)
 go_loopg [39] n8.toNat (fun n v39 w' => ∃ (x : Int) (xs : ByteArray) (ss pp : Int) (acc : List (S82)) (u7 : Value), v39 = .int .i64 x ∧ Aside0 (0 ≤ x ∧ x + (n : Int) = (n8.toNat : Int)) ∧ Aside0 (cmd_Decode_l0 k n xs ss pp acc = some (x9, s9, p9, l9)) ∧ Aside0 (cmd_Decode_D w gz gr gc gf g f #[.int .i64 n1, .string t2, .string t3, .string t4, .int .i64 n5, .int .i64 n6, .string t7, u7, .slice none 0 0] xs ss pp w') ∧ Aside0 (Kd.R k82 82 w' w.heap.size (fun _ => True) u7 acc))
 case atStart => exact ⟨0, x8, s8, p8, [], .slice none 0 0, rfl, am ⟨Int.le_refl _, Int.zero_add _⟩, A10, HD, am (Kd.R_nil _ _ _ _ _)⟩
 case round =>
  clear HD A10
  obtain ⟨x, xs, ss, pp, acc, u7, rfl, HN, HL, HD, HV⟩ := hrel
  obtain ⟨B7, d7, e7⟩ := Kd.R_slice HV.out
  subst e7
  cases gk with
  | zero =>
   have q1 : decide (x < n8) = false := decide_eq_false (by have := HN.out; omega)
   have hl := HL.out
   simp only [cmd_Decode_l0, Option.some.injEq, Prod.mk.injEq] at hl
   obtain ⟨h1, h2, h3, h4⟩ := hl
   replace h1 := h1.symm
   replace h2 := h2.symm
   replace h3 := h3.symm
   replace h4 := h4.symm
   subst h1 h2 h3 h4
   clear HN HL hn
   obtain ⟨B9, d9, e9⟩ : ∃ (B9 : Option Addr) (d9 : Nat), (.slice B7 l9.length d7 : Value) = .slice B9 l9.length d9 := ⟨_, _, rfl⟩
   rw [e9] at HD HV
   have HP := HV
   clear e9 HV
   go_wp2_with (go_at_call 50; (with_reducible refine (cmd_Decode_d2 k gf gr g f 128 100 x9 s9 p9 n10 x10 s10 p10 w _ HD.out.b HD.out.i HD.out.f HD.out.r A11.out).mono ?_); rintro e w16 ⟨rfl, hi, hb, hk⟩; replace HP := am (Kd.R_mono (Kd.R_keep (Kd.R_types HP.out HD.out.i.1 (by decide)) hk (fun _ h => h.2)) (fun _ _ => trivial)); replace HD := am (HD.out.step hi hb hk); clear hi hb hk)
   by_cases hn : n10 ≤ 100
   rotate_left
   ·
    exact absurd A12.out (by rw [if_neg hn]; simp)
   replace A12 := am (by have h := A12.out; rw [if_pos hn] at h; exact h)
   go_loopg [54] n10.toNat (fun n v54 w' => ∃ (x : Int) (xs : ByteArray) (ss pp : Int) (acc : List (S62)) (u8 : Value), v54 = .int .i64 x ∧ Aside0 (0 ≤ x ∧ x + (n : Int) = (n10.toNat : Int)) ∧ Aside0 (cmd_Decode_l1 k n xs ss pp acc = some (x11, s11, p11, l11)) ∧ Aside0 (cmd_Decode_D w gz gr gc gf g f #[.int .i64 n1, .string t2, .string t3, .string t4, .int .i64 n5, .int .i64 n6, .string t7, .slice B9 l9.length d9, u8] xs ss pp w') ∧ Aside0 (Kd.R k62 62 w' w.heap.size (fun _ => True) u8 acc) ∧ Aside0 (Kd.R k82 82 w' w.heap.size (fun _ => True) (.slice B9 l9.length d9) l9))
   case atStart => exact ⟨0, x10, s10, p10, [], .slice none 0 0, rfl, am ⟨Int.le_refl _, Int.zero_add _⟩, A12, HD, am (Kd.R_nil _ _ _ _ _), HP⟩
   case round =>
    clear HD A12 HP
    obtain ⟨x, xs, ss, pp, acc, u8, rfl, HN, HL, HD, HV, HP⟩ := hrel
    obtain ⟨B7, d7, e7⟩ := Kd.R_slice HV.out
    subst e7
    cases gk with
    | zero =>
     have q1 : decide (x < n10) = false := decide_eq_false (by have := HN.out; omega)
     have hl := HL.out
     simp only [cmd_Decode_l1, Option.some.injEq, Prod.mk.injEq] at hl
     obtain ⟨h1, h2, h3, h4⟩ := hl
     replace h1 := h1.symm
     replace h2 := h2.symm
     replace h3 := h3.symm
     replace h4 := h4.symm
     subst h1 h2 h3 h4
     clear HN HL hn
     have hf := HF.out
     have cr := (cz1 HD.out.r).1
     by_cases hc : n12 = 0
     ·
      subst hc
      rw [if_pos rfl] at hf
      replace hf := obE hf
      obtain ⟨c, B1, hf⟩ := hf
      by_cases hc : c = 0
      ·
       subst hc
       rw [if_pos rfl] at hf
       simp only [cmd_Decode_none, Option.some.injEq, Prod.mk.injEq] at hf
       obtain ⟨rfl, rfl, rfl, rfl, rfl, rfl, rfl, rfl, rfl, rfl⟩ := hf
       go_wp2_with (first | (go_at_call 51; (with_reducible refine (octet_Reader_End.calls g x11 s11 p11 0 x12 s12 p12 w _ HD.out.i HD.out.b A13.out).mono ?_); rintro e w17 ⟨rfl, hi, hb, hk⟩; replace HP := am (Kd.R_mono (Kd.R_keep (Kd.R_types HP.out HD.out.i.1 (by decide)) hk (fun _ h => h.2)) (fun _ _ => trivial)); replace HV := am (Kd.R_mono (Kd.R_keep (Kd.R_types HV.out HD.out.i.1 (by decide)) hk (fun _ h => h.2)) (fun _ _ => trivial)); replace HD := am (HD.out.step hi hb hk); clear hi hb hk; clear cr; obtain ⟨c0, c1, c2, c3, c4, c5, c6, c7, c8⟩ := cmd_Decode_c9 HD.out.c) | (go_at_call 14; (with_reducible refine (cmd_Check.calls k n1 t2 t3 t4 n5 n6 t7 B9 d9 l9 B7 d7 l11 0 _ (Kd.R_reads' HP.out).2.2 (Kd.R_reads' HP.out).2.1 (Kd.R_reads' HV.out).2.2 (Kd.R_reads' HV.out).2.1 B1.out (gg_below HG.out HD.out.b)).mono ?_); rintro e w18 ⟨rfl, hb⟩; replace HP := am (Kd.R_below HP.out hb); replace HV := am (Kd.R_below HV.out hb); replace HD := am (HD.out.below hb); clear hb c0 c1 c2 c3 c4 c5 c6 c7 c8; obtain ⟨c0, c1, c2, c3, c4, c5, c6, c7, c8⟩ := cmd_Decode_c9 HD.out.c; obtain ⟨z0, z1, z2, z3, z4, z5, z6, z7, z8⟩ := cmd_Decode_c9 HD.out.z; obtain ⟨y0, y1, y2, y3, y4, y5, y6, y7, y8⟩ := cmd_Decode_f9 HD.out.z))
       have hx := cmd_Decode_all9 HD.out.z (.int .i64 n1) (.string t2) (.string t3) (.string t4) (.int .i64 n5) (.int .i64 n6) (.string t7) (.slice B9 l9.length d9) (.slice B7 l11.length d7)
       have q1 := hx.1
       have q2 := hx.2.1
       have q3 := hx.2.2 w HD.out.b HD.out.lz
       have q4 : Aside0 (Kd.R k82 82 (((((((((w18.setCell ⟨gz, 0, none⟩ (.int .i64 n1)).setCell ⟨gz, 1, none⟩ (.string t2)).setCell ⟨gz, 2, none⟩ (.string t3)).setCell ⟨gz, 3, none⟩ (.string t4)).setCell ⟨gz, 4, none⟩ (.int .i64 n5)).setCell ⟨gz, 5, none⟩ (.int .i64 n6)).setCell ⟨gz, 6, none⟩ (.string t7)).setCell ⟨gz, 7, none⟩ (.slice B9 l9.length d9)).setCell ⟨gz, 8, none⟩ (.slice B7 l11.length d7)) w.heap.size (fun _ => True) (.slice B9 l9.length d9) l9) := am (Kd.R_mono (Kd.R_step (Kd.R_types HP.out HD.out.z (by decide)) (fun k_ hk_ _ => q2 k_ hk_.2)) (fun _ _ => trivial))
       have q5 : Aside0 (Kd.R k62 62 (((((((((w18.setCell ⟨gz, 0, none⟩ (.int .i64 n1)).setCell ⟨gz, 1, none⟩ (.string t2)).setCell ⟨gz, 2, none⟩ (.string t3)).setCell ⟨gz, 3, none⟩ (.string t4)).setCell ⟨gz, 4, none⟩ (.int .i64 n5)).setCell ⟨gz, 5, none⟩ (.int .i64 n6)).setCell ⟨gz, 6, none⟩ (.string t7)).setCell ⟨gz, 7, none⟩ (.slice B9 l9.length d9)).setCell ⟨gz, 8, none⟩ (.slice B7 l11.length d7)) w.heap.size (fun _ => True) (.slice B7 l11.length d7) l11) := am (Kd.R_mono (Kd.R_step (Kd.R_types HV.out HD.out.z (by decide)) (fun k_ hk_ _ => q2 k_ hk_.2)) (fun _ _ => trivial))
       clear hx q2 HD HP HV
       generalize ((((((((w18.setCell ⟨gz, 0, none⟩ (.int .i64 n1)).setCell ⟨gz, 1, none⟩ (.string t2)).setCell ⟨gz, 2, none⟩ (.string t3)).setCell ⟨gz, 3, none⟩ (.string t4)).setCell ⟨gz, 4, none⟩ (.int .i64 n5)).setCell ⟨gz, 5, none⟩ (.int .i64 n6)).setCell ⟨gz, 6, none⟩ (.string t7)).setCell ⟨gz, 7, none⟩ (.slice B9 l9.length d9)).setCell ⟨gz, 8, none⟩ (.slice B7 l11.length d7) = Z9 at q1 q3 q4 q5 ⊢
       refine bodyPost_ret (results_ct rfl _ _ gz 25 #[.int .i64 n1, .string t2, .string t3, .string t4, .int .i64 n5, .int .i64 n6, .string t7, .slice B9 l9.length d9, .slice B7 l11.length d7] (0, 0) _ rfl q1 Tryd.underlying25 rfl (by kernel_rfl)) rfl ?_
       exact ⟨_, _, rfl, q4.out, q5.out, q3⟩
      ·
       rw [if_neg hc] at hf
       have hcb : (c != 0) = true := bne_iff_ne.mpr hc
       clear hc
       simp only [cmd_Decode_none, Option.some.injEq, Prod.mk.injEq] at hf
       obtain ⟨rfl, rfl, rfl, rfl, rfl, rfl, rfl, rfl, rfl, rfl⟩ := hf
       go_wp2_with (first | (go_at_call 51; (with_reducible refine (octet_Reader_End.calls g x11 s11 p11 0 x12 s12 p12 w _ HD.out.i HD.out.b A13.out).mono ?_); rintro e w17 ⟨rfl, hi, hb, hk⟩; replace HP := am (Kd.R_mono (Kd.R_keep (Kd.R_types HP.out HD.out.i.1 (by decide)) hk (fun _ h => h.2)) (fun _ _ => trivial)); replace HV := am (Kd.R_mono (Kd.R_keep (Kd.R_types HV.out HD.out.i.1 (by decide)) hk (fun _ h => h.2)) (fun _ _ => trivial)); replace HD := am (HD.out.step hi hb hk); clear hi hb hk; clear cr; obtain ⟨c0, c1, c2, c3, c4, c5, c6, c7, c8⟩ := cmd_Decode_c9 HD.out.c) | (go_at_call 14; (with_reducible refine (cmd_Check.calls k n1 t2 t3 t4 n5 n6 t7 B9 d9 l9 B7 d7 l11 c _ (Kd.R_reads' HP.out).2.2 (Kd.R_reads' HP.out).2.1 (Kd.R_reads' HV.out).2.2 (Kd.R_reads' HV.out).2.1 B1.out (gg_below HG.out HD.out.b)).mono ?_); rintro e w18 ⟨rfl, hb⟩; replace HP := am (Kd.R_below HP.out hb); replace HV := am (Kd.R_below HV.out hb); replace HD := am (HD.out.below hb); clear hb c0 c1 c2 c3 c4 c5 c6 c7 c8; obtain ⟨c0, c1, c2, c3, c4, c5, c6, c7, c8⟩ := cmd_Decode_c9 HD.out.c; obtain ⟨z0, z1, z2, z3, z4, z5, z6, z7, z8⟩ := cmd_Decode_c9 HD.out.z; obtain ⟨y0, y1, y2, y3, y4, y5, y6, y7, y8⟩ := cmd_Decode_f9 HD.out.z))
       have hx := cmd_Decode_all9 HD.out.z (.int .i64 0) (.string ⟨#[]⟩) (.string ⟨#[]⟩) (.string ⟨#[]⟩) (.int .i64 0) (.int .i64 0) (.string ⟨#[]⟩) (.slice none 0 0) (.slice none 0 0)
       have q1 := hx.1
       have q2 := hx.2.1
       have q3 := hx.2.2 w HD.out.b HD.out.lz
       have q4 : Aside0 (Kd.R k82 82 (((((((((w18.setCell ⟨gz, 0, none⟩ (.int .i64 0)).setCell ⟨gz, 1, none⟩ (.string ⟨#[]⟩)).setCell ⟨gz, 2, none⟩ (.string ⟨#[]⟩)).setCell ⟨gz, 3, none⟩ (.string ⟨#[]⟩)).setCell ⟨gz, 4, none⟩ (.int .i64 0)).setCell ⟨gz, 5, none⟩ (.int .i64 0)).setCell ⟨gz, 6, none⟩ (.string ⟨#[]⟩)).setCell ⟨gz, 7, none⟩ (.slice none 0 0)).setCell ⟨gz, 8, none⟩ (.slice none 0 0)) w.heap.size (fun _ => True) (.slice B9 l9.length d9) l9) := am (Kd.R_mono (Kd.R_step (Kd.R_types HP.out HD.out.z (by decide)) (fun k_ hk_ _ => q2 k_ hk_.2)) (fun _ _ => trivial))
       have q5 : Aside0 (Kd.R k62 62 (((((((((w18.setCell ⟨gz, 0, none⟩ (.int .i64 0)).setCell ⟨gz, 1, none⟩ (.string ⟨#[]⟩)).setCell ⟨gz, 2, none⟩ (.string ⟨#[]⟩)).setCell ⟨gz, 3, none⟩ (.string ⟨#[]⟩)).setCell ⟨gz, 4, none⟩ (.int .i64 0)).setCell ⟨gz, 5, none⟩ (.int .i64 0)).setCell ⟨gz, 6, none⟩ (.string ⟨#[]⟩)).setCell ⟨gz, 7, none⟩ (.slice none 0 0)).setCell ⟨gz, 8, none⟩ (.slice none 0 0)) w.heap.size (fun _ => True) (.slice B7 l11.length d7) l11) := am (Kd.R_mono (Kd.R_step (Kd.R_types HV.out HD.out.z (by decide)) (fun k_ hk_ _ => q2 k_ hk_.2)) (fun _ _ => trivial))
       clear hx q2 HD HP HV
       generalize ((((((((w18.setCell ⟨gz, 0, none⟩ (.int .i64 0)).setCell ⟨gz, 1, none⟩ (.string ⟨#[]⟩)).setCell ⟨gz, 2, none⟩ (.string ⟨#[]⟩)).setCell ⟨gz, 3, none⟩ (.string ⟨#[]⟩)).setCell ⟨gz, 4, none⟩ (.int .i64 0)).setCell ⟨gz, 5, none⟩ (.int .i64 0)).setCell ⟨gz, 6, none⟩ (.string ⟨#[]⟩)).setCell ⟨gz, 7, none⟩ (.slice none 0 0)).setCell ⟨gz, 8, none⟩ (.slice none 0 0) = Z9 at q1 q3 q4 q5 ⊢
       refine bodyPost_ret (results_ct rfl _ _ gz 25 #[.int .i64 0, .string ⟨#[]⟩, .string ⟨#[]⟩, .string ⟨#[]⟩, .int .i64 0, .int .i64 0, .string ⟨#[]⟩, .slice none 0 0, .slice none 0 0] (0, 0) _ rfl q1 Tryd.underlying25 rfl (by kernel_rfl)) rfl ?_
       exact ⟨_, _, rfl, Kd.R_nil _ _ _ _ _, Kd.R_nil _ _ _ _ _, q3⟩
     ·
      rw [if_neg hc] at hf
      have hcb : (n12 != 0) = true := bne_iff_ne.mpr hc
      clear hc
      simp only [cmd_Decode_none, Option.some.injEq, Prod.mk.injEq] at hf
      obtain ⟨rfl, rfl, rfl, rfl, rfl, rfl, rfl, rfl, rfl, rfl⟩ := hf
      go_wp2_with (go_at_call 51; (with_reducible refine (octet_Reader_End.calls g x11 s11 p11 n12 x12 s12 p12 w _ HD.out.i HD.out.b A13.out).mono ?_); rintro e w17 ⟨rfl, hi, hb, hk⟩; replace HP := am (Kd.R_mono (Kd.R_keep (Kd.R_types HP.out HD.out.i.1 (by decide)) hk (fun _ h => h.2)) (fun _ _ => trivial)); replace HV := am (Kd.R_mono (Kd.R_keep (Kd.R_types HV.out HD.out.i.1 (by decide)) hk (fun _ h => h.2)) (fun _ _ => trivial)); replace HD := am (HD.out.step hi hb hk); clear hi hb hk; clear cr; obtain ⟨z0, z1, z2, z3, z4, z5, z6, z7, z8⟩ := cmd_Decode_c9 HD.out.z; obtain ⟨y0, y1, y2, y3, y4, y5, y6, y7, y8⟩ := cmd_Decode_f9 HD.out.z)
      have hx := cmd_Decode_all9 HD.out.z (.int .i64 0) (.string ⟨#[]⟩) (.string ⟨#[]⟩) (.string ⟨#[]⟩) (.int .i64 0) (.int .i64 0) (.string ⟨#[]⟩) (.slice none 0 0) (.slice none 0 0)
      have q1 := hx.1
      have q2 := hx.2.1
      have q3 := hx.2.2 w HD.out.b HD.out.lz
      have q4 : Aside0 (Kd.R k82 82 (((((((((w17.setCell ⟨gz, 0, none⟩ (.int .i64 0)).setCell ⟨gz, 1, none⟩ (.string ⟨#[]⟩)).setCell ⟨gz, 2, none⟩ (.string ⟨#[]⟩)).setCell ⟨gz, 3, none⟩ (.string ⟨#[]⟩)).setCell ⟨gz, 4, none⟩ (.int .i64 0)).setCell ⟨gz, 5, none⟩ (.int .i64 0)).setCell ⟨gz, 6, none⟩ (.string ⟨#[]⟩)).setCell ⟨gz, 7, none⟩ (.slice none 0 0)).setCell ⟨gz, 8, none⟩ (.slice none 0 0)) w.heap.size (fun _ => True) (.slice B9 l9.length d9) l9) := am (Kd.R_mono (Kd.R_step (Kd.R_types HP.out HD.out.z (by decide)) (fun k_ hk_ _ => q2 k_ hk_.2)) (fun _ _ => trivial))
      have q5 : Aside0 (Kd.R k62 62 (((((((((w17.setCell ⟨gz, 0, none⟩ (.int .i64 0)).setCell ⟨gz, 1, none⟩ (.string ⟨#[]⟩)).setCell ⟨gz, 2, none⟩ (.string ⟨#[]⟩)).setCell ⟨gz, 3, none⟩ (.string ⟨#[]⟩)).setCell ⟨gz, 4, none⟩ (.int .i64 0)).setCell ⟨gz, 5, none⟩ (.int .i64 0)).setCell ⟨gz, 6, none⟩ (.string ⟨#[]⟩)).setCell ⟨gz, 7, none⟩ (.slice none 0 0)).setCell ⟨gz, 8, none⟩ (.slice none 0 0)) w.heap.size (fun _ => True) (.slice B7 l11.length d7) l11) := am (Kd.R_mono (Kd.R_step (Kd.R_types HV.out HD.out.z (by decide)) (fun k_ hk_ _ => q2 k_ hk_.2)) (fun _ _ => trivial))
      clear hx q2 HD HP HV
      generalize ((((((((w17.setCell ⟨gz, 0, none⟩ (.int .i64 0)).setCell ⟨gz, 1, none⟩ (.string ⟨#[]⟩)).setCell ⟨gz, 2, none⟩ (.string ⟨#[]⟩)).setCell ⟨gz, 3, none⟩ (.string ⟨#[]⟩)).setCell ⟨gz, 4, none⟩ (.int .i64 0)).setCell ⟨gz, 5, none⟩ (.int .i64 0)).setCell ⟨gz, 6, none⟩ (.string ⟨#[]⟩)).setCell ⟨gz, 7, none⟩ (.slice none 0 0)).setCell ⟨gz, 8, none⟩ (.slice none 0 0) = Z9 at q1 q3 q4 q5 ⊢
      refine bodyPost_ret (results_ct rfl _ _ gz 25 #[.int .i64 0, .string ⟨#[]⟩, .string ⟨#[]⟩, .string ⟨#[]⟩, .int .i64 0, .int .i64 0, .string ⟨#[]⟩, .slice none 0 0, .slice none 0 0] (0, 0) _ rfl q1 Tryd.underlying25 rfl (by kernel_rfl)) rfl ?_
      exact ⟨_, _, rfl, Kd.R_nil _ _ _ _ _, Kd.R_nil _ _ _ _ _, q3⟩
    | succ m =>
     have q1 : decide (x < n10) = true := decide_eq_true (by have := HN.out; omega)
     have HX : Aside0 (wrap64 (x + 1) = x + 1) := am (IntWalk.wrap64_in _ (by have := HN.out; omega))
     have hl := HL.out
     rw [cmd_Decode_l1] at hl
     clear HL
     replace hl := obE hl
     obtain ⟨⟨m_, y1, z1, e1⟩, B1, hl⟩ := hl
     try dsimp only at hl
     replace hl := obE hl
     obtain ⟨⟨b, y2, z2, e2⟩, B2, hl⟩ := hl
     try dsimp only at hl
     try dsimp only at B2
     by_cases hlen : acc.length < 5864062014805
     rotate_left
     ·
      rw [if_neg hlen] at hl
      cases hl
     rw [if_pos hlen] at hl
     have HL := am hl
     have HE := am hlen
     clear hl hlen hn
     go_wp2
     have cc := (blk_cell HD.out.c 8).trans rfl
     have cr := (cz1 HD.out.r).1
     refine start_ (n := 11) (S := fun w' => w'.cell? ⟨gc, 8, none⟩ = some (.slice B7 acc.length d7) ∧ w'.cell? ⟨gr, 0, none⟩ = some (.pointer (some ⟨g, 0, none⟩))) (ds := [10]) #[false, false, false, false, false, false, false, false, false, false, false] (by kernel_rfl) rfl rfl ⟨cc, cr⟩ (fun hHeld => ?_)
     replace HD := am HD.out.drew
     replace HV := am (Kd.R_drew HV.out)
     replace HP := am (Kd.R_drew HP.out)
     clear cc cr
     generalize wr.drew = V1 at HD HV HP hHeld ⊢
     refine hp 0 (some 56) ?_
     refine ht 1 (some 57) hHeld ?_
     refine ht 2 (some 58) hHeld ?_
     refine ht 4 (some 60) hHeld ?_
     refine hcall 3 (some 59) 47 #[.pointer (some ⟨g, 0, none⟩), .int .i64 100] (octet_Reader_Int.calls k g xs ss pp 100 m_ y1 z1 e1 w _ HD.out.i HD.out.b B1.out) ?_
     rintro e V2 ⟨rfl, hi, hb, hk⟩
     replace HV := am (Kd.R_mono (Kd.R_keep (Kd.R_types HV.out HD.out.i.1 (by decide)) hk (fun _ h => h.2)) (fun _ _ => trivial)); replace HP := am (Kd.R_mono (Kd.R_keep (Kd.R_types HP.out HD.out.i.1 (by decide)) hk (fun _ h => h.2)) (fun _ _ => trivial))
     replace HD := am (HD.out.step hi hb hk)
     clear hi hb hk hHeld
     have hHeld := And.intro (show V2.cell? ⟨gc, 8, none⟩ = some (.slice B7 acc.length d7) from (blk_cell HD.out.c 8).trans rfl) (cz1 HD.out.r).1
     refine ⟨_, _, rfl, hHeld, by simp only [Act.put, List.setIfInBounds_toArray, List.set_cons_zero, List.set_cons_succ]; rfl, ?_⟩
     refine hcall 5 (some 61) 49 #[.pointer (some ⟨g, 0, none⟩), .int .i64 64] (octet_Reader_Text.calls k g y1 z1 e1 64 b y2 z2 e2 w _ HD.out.i HD.out.b B2.out) ?_
     rintro e V3 ⟨rfl, hi, hb, hk⟩
     replace HV := am (Kd.R_mono (Kd.R_keep (Kd.R_types HV.out HD.out.i.1 (by decide)) hk (fun _ h => h.2)) (fun _ _ => trivial)); replace HP := am (Kd.R_mono (Kd.R_keep (Kd.R_types HP.out HD.out.i.1 (by decide)) hk (fun _ h => h.2)) (fun _ _ => trivial))
     replace HD := am (HD.out.step hi hb hk)
     clear hi hb hk hHeld
     have hHeld := And.intro (show V3.cell? ⟨gc, 8, none⟩ = some (.slice B7 acc.length d7) from (blk_cell HD.out.c 8).trans rfl) (cz1 HD.out.r).1
     refine ⟨_, _, rfl, hHeld, by simp only [Act.put, List.setIfInBounds_toArray, List.set_cons_zero, List.set_cons_succ]; rfl, ?_⟩
     refine hp 6 (some 62) ?_
     have HD4 := am (HD.out.below (below_alloc (Below.refl _ _) (.cells #[.int .i64 m_, .string b] 62 (0, 0))))
     refine hval 7 (some 63) (.slice (some ⟨V3.heap.size, 0, none⟩) 1 1) (V3.alloc (.cells #[.int .i64 m_, .string b] 62 (0, 0))) ⟨(blk_cell HD4.out.c 8).trans rfl, (cz1 HD4.out.r).1⟩ ?_
     refine one_ (i := 8) (N := some 64) #[true, true, true, true, true, true, true, true, true, false, false] rfl rfl (by kernel_rfl) (by decide) (fun K hK => ?_)
     refine Kd.R_append_step k62 (w0 := w) w.heap.size (by rfl) (.tmp 57) (.tmp 63) 23 62 (.agg #[(.int .i64 0), (.string ⟨#[]⟩)]) 24 rfl Tryd.underlying23 (by kernel_rfl) rfl (by decide) (by omega) (.slice B7 acc.length d7) acc (⟨m_, b⟩ : S62) [.int .i64 m_, .string b] (fun _ => True) (fun _ => False) rfl rfl ?aP (fun _ hk => hk.elim) ?aF ?aO ?aB ?aS ?aL ?_
     (case aP => exact k62_mkM _ _ _ (⟨m_, b⟩ : S62))
     (case aB => exact HD.out.b)
     (case aF => exact (fun _ _ => trivial))
     (case aO => exact HV.out)
     (case aS => exact HD.out.b.size)
     (case aL => have := HE.out; omega)
     intro v2 V5 ho hb hg hat
     replace HD := am (HD.out.grown HV.out hg hb (by decide) (by decide) (by decide) (by decide))
     replace HP := am (cmd_Decode_two HP.out HV.out hg (by decide))
     replace HV := am ho
     clear ho hb hg hat HD4 hHeld
     obtain ⟨B8, d8, e8⟩ := Kd.R_slice HV.out
     rw [show (acc ++ [(⟨m_, b⟩ : S62)]).length = acc.length + 1 by simp] at e8
     subst e8
     refine hK.out _ _ ⟨(blk_cell HD.out.c 8).trans rfl, (cz1 HD.out.r).1⟩ (fun hHeld => ?_)
     clear hK K
     refine norm_ (a' := ?_) ?_ ?_
     rotate_left
     ·
      show Act.put _ (some 64) _ = _
      simp only [Act.put, List.setIfInBounds_toArray, List.set_cons_zero, List.set_cons_succ, i64_w, i32_w]
      rfl
     refine hp 9 (some 65) ?_
     have co : V5.cell? ⟨gc, 8, none⟩ = some (.slice B7 acc.length d7) := (blk_cell HD.out.c 8).trans rfl
     have fo := blk_frozen HD.out.c 8
     refine hstore 10 ?_
     refine done_ (by kernel_rfl) ?_
     clear co fo hHeld
     go_wp2
     go_roundg m
     case measure => omega
     case rel => exact ⟨_, _, _, _, _, _, rfl, am (by rw [HX.out]; have := HN.out; omega), HL, am (HD.out.put (CS' := #[.int .i64 n1, .string t2, .string t3, .string t4, .int .i64 n5, .int .i64 n6, .string t7, .slice B9 l9.length d9, .slice B8 (acc.length + 1) d8]) 8 _ rfl), am (Kd.R_mono (Kd.R_far (p := ⟨gc, 8, none⟩) (Kd.R_types HV.out HD.out.c (by decide)) (fun _ hk => hk.2) _) (fun _ _ => trivial)), am (Kd.R_mono (Kd.R_far (p := ⟨gc, 8, none⟩) (Kd.R_types HP.out HD.out.c (by decide)) (fun _ hk => hk.2) _) (fun _ _ => trivial))⟩
  | succ m =>
   have q1 : decide (x < n8) = true := decide_eq_true (by have := HN.out; omega)
   have HX : Aside0 (wrap64 (x + 1) = x + 1) := am (IntWalk.wrap64_in _ (by have := HN.out; omega))
   have hl := HL.out
   rw [cmd_Decode_l0] at hl
   clear HL
   replace hl := obE hl
   obtain ⟨⟨b, y1, z1, e1⟩, B1, hl⟩ := hl
   try dsimp only at hl
   replace hl := obE hl
   obtain ⟨⟨m_, y2, z2, e2⟩, B2, hl⟩ := hl
   try dsimp only at hl
   try dsimp only at B2
   by_cases hlen : acc.length < 5864062014805
   rotate_left
   ·
    rw [if_neg hlen] at hl
    cases hl
   rw [if_pos hlen] at hl
   have HL := am hl
   have HE := am hlen
   clear hl hlen hn
   go_wp2
   have cc := (blk_cell HD.out.c 7).trans rfl
   have cr := (cz1 HD.out.r).1
   refine start_ (n := 11) (S := fun w' => w'.cell? ⟨gc, 7, none⟩ = some (.slice B7 acc.length d7) ∧ w'.cell? ⟨gr, 0, none⟩ = some (.pointer (some ⟨g, 0, none⟩))) (ds := [10]) #[false, false, false, false, false, false, false, false, false, false, false] (by kernel_rfl) rfl rfl ⟨cc, cr⟩ (fun hHeld => ?_)
   replace HD := am HD.out.drew
   replace HV := am (Kd.R_drew HV.out)
   clear cc cr
   generalize wr.drew = V1 at HD HV hHeld ⊢
   refine hp 0 (some 41) ?_
   refine ht 1 (some 42) hHeld ?_
   refine ht 2 (some 43) hHeld ?_
   refine ht 4 (some 45) hHeld ?_
   refine hcall 3 (some 44) 49 #[.pointer (some ⟨g, 0, none⟩), .int .i64 64] (octet_Reader_Text.calls k g xs ss pp 64 b y1 z1 e1 w _ HD.out.i HD.out.b B1.out) ?_
   rintro e V2 ⟨rfl, hi, hb, hk⟩
   replace HV := am (Kd.R_mono (Kd.R_keep (Kd.R_types HV.out HD.out.i.1 (by decide)) hk (fun _ h => h.2)) (fun _ _ => trivial))
   replace HD := am (HD.out.step hi hb hk)
   clear hi hb hk hHeld
   have hHeld := And.intro (show V2.cell? ⟨gc, 7, none⟩ = some (.slice B7 acc.length d7) from (blk_cell HD.out.c 7).trans rfl) (cz1 HD.out.r).1
   refine ⟨_, _, rfl, hHeld, by simp only [Act.put, List.setIfInBounds_toArray, List.set_cons_zero, List.set_cons_succ]; rfl, ?_⟩
   refine hcall 5 (some 46) 47 #[.pointer (some ⟨g, 0, none⟩), .int .i64 4096] (octet_Reader_Int.calls k g y1 z1 e1 4096 m_ y2 z2 e2 w _ HD.out.i HD.out.b B2.out) ?_
   rintro e V3 ⟨rfl, hi, hb, hk⟩
   replace HV := am (Kd.R_mono (Kd.R_keep (Kd.R_types HV.out HD.out.i.1 (by decide)) hk (fun _ h => h.2)) (fun _ _ => trivial))
   replace HD := am (HD.out.step hi hb hk)
   clear hi hb hk hHeld
   have hHeld := And.intro (show V3.cell? ⟨gc, 7, none⟩ = some (.slice B7 acc.length d7) from (blk_cell HD.out.c 7).trans rfl) (cz1 HD.out.r).1
   refine ⟨_, _, rfl, hHeld, by simp only [Act.put, List.setIfInBounds_toArray, List.set_cons_zero, List.set_cons_succ]; rfl, ?_⟩
   refine hp 6 (some 47) ?_
   have HD4 := am (HD.out.below (below_alloc (Below.refl _ _) (.cells #[.string b, .int .i64 m_] 82 (0, 0))))
   refine hval 7 (some 48) (.slice (some ⟨V3.heap.size, 0, none⟩) 1 1) (V3.alloc (.cells #[.string b, .int .i64 m_] 82 (0, 0))) ⟨(blk_cell HD4.out.c 7).trans rfl, (cz1 HD4.out.r).1⟩ ?_
   refine one_ (i := 8) (N := some 49) #[true, true, true, true, true, true, true, true, true, false, false] rfl rfl (by kernel_rfl) (by decide) (fun K hK => ?_)
   refine Kd.R_append_step k82 (w0 := w) w.heap.size (by rfl) (.tmp 42) (.tmp 48) 22 82 (.agg #[(.string ⟨#[]⟩), (.int .i64 0)]) 24 rfl Tryd.underlying22 (by kernel_rfl) rfl (by decide) (by omega) (.slice B7 acc.length d7) acc (⟨b, m_⟩ : S82) [.string b, .int .i64 m_] (fun _ => True) (fun _ => False) rfl rfl ?aP (fun _ hk => hk.elim) ?aF ?aO ?aB ?aS ?aL ?_
   (case aP => exact k82_mkM _ _ _ (⟨b, m_⟩ : S82))
   (case aB => exact HD.out.b)
   (case aF => exact (fun _ _ => trivial))
   (case aO => exact HV.out)
   (case aS => exact HD.out.b.size)
   (case aL => have := HE.out; omega)
   intro v2 V5 ho hb hg hat
   replace HD := am (HD.out.grown HV.out hg hb (by decide) (by decide) (by decide) (by decide))
   replace HV := am ho
   clear ho hb hg hat HD4 hHeld
   obtain ⟨B8, d8, e8⟩ := Kd.R_slice HV.out
   rw [show (acc ++ [(⟨b, m_⟩ : S82)]).length = acc.length + 1 by simp] at e8
   subst e8
   refine hK.out _ _ ⟨(blk_cell HD.out.c 7).trans rfl, (cz1 HD.out.r).1⟩ (fun hHeld => ?_)
   clear hK K
   refine norm_ (a' := ?_) ?_ ?_
   rotate_left
   ·
    show Act.put _ (some 49) _ = _
    simp only [Act.put, List.setIfInBounds_toArray, List.set_cons_zero, List.set_cons_succ, i64_w, i32_w]
    rfl
   refine hp 9 (some 50) ?_
   have co : V5.cell? ⟨gc, 7, none⟩ = some (.slice B7 acc.length d7) := (blk_cell HD.out.c 7).trans rfl
   have fo := blk_frozen HD.out.c 7
   refine hstore 10 ?_
   refine done_ (by kernel_rfl) ?_
   clear co fo hHeld
   go_wp2
   go_roundg m
   case measure => omega
   case rel => exact ⟨_, _, _, _, _, _, rfl, am (by rw [HX.out]; have := HN.out; omega), HL, am (HD.out.put (CS' := #[.int .i64 n1, .string t2, .string t3, .string t4, .int .i64 n5, .int .i64 n6, .string t7, .slice B8 (acc.length + 1) d8, .slice none 0 0]) 7 _ rfl), am (Kd.R_mono (Kd.R_far (p := ⟨gc, 7, none⟩) (Kd.R_types HV.out HD.out.c (by decide)) (fun _ hk => hk.2) _) (fun _ _ => trivial))⟩
def stowagelaw16_awake.f (k : Nat)  : Option (Bool) := (cmd_Encode.f k 1 (⟨#[]⟩ : ByteArray) (⟨#[111, 110, 101]⟩ : ByteArray) (⟨#[]⟩ : ByteArray) 0 0 (⟨#[]⟩ : ByteArray) ([] : List (S82)) ([] : List (S62))).bind fun bt209 => ((cmd_Decode.f k bt209.1).bind fun bt211 => ((cmd_Digest.f k 1 (⟨#[]⟩ : ByteArray) (⟨#[111, 110, 101]⟩ : ByteArray) (⟨#[]⟩ : ByteArray) 0 0 (⟨#[]⟩ : ByteArray) ([] : List (S82)) ([] : List (S62))).bind fun bt226 => ((cmd_Digest.f k 1 (⟨#[116]⟩ : ByteArray) (⟨#[111, 110, 101]⟩ : ByteArray) (⟨#[]⟩ : ByteArray) 0 0 (⟨#[]⟩ : ByteArray) ([] : List (S82)) ([] : List (S62))).bind fun bt228 => (if bt209.2 = 0 then (if bt211.2.2.2.2.2.2.2.2.2 = 0 then (if bt209.1.toList = ([1, 0, 3, 111, 110, 101] : List UInt8) then (if bt211.2.2.1.toList = ([111, 110, 101] : List UInt8) then (if bt226.2 = 0 then (if bt228.2 = 0 then (if bt226.1.toList = bt228.1.toList then (some ((bt226.1.size : Int) == 64)) else (some false)) else (some false)) else (some false)) else (some false)) else (some false)) else (some false)) else (some false)))))
theorem stowagelaw16_awake.mono : ∀ k, LeO (stowagelaw16_awake.f k ) (stowagelaw16_awake.f (k + 1) ) := by
 intro  k
 unfold stowagelaw16_awake.f
 repeat' (with_reducible first | exact cmd_Decode.mono _ _ | exact cmd_Digest.mono _ _ _ _ _ _ _ _ _ _ | exact cmd_Encode.mono _ _ _ _ _ _ _ _ _ _ | exact LeO.refl _ | exact LeO.none _ | refine LeO.ite ?_ ?_ | refine LeO.bind ?_ (fun _ => ?_))
theorem st9_ {W : World} {g : Nat} {t : TypeId} {a0 a1 a2 a3 a4 a5 a6 a7 a8 : Value} (hr : W.heap[g]? = some (.cells #[a0, a1, a2, a3, a4, a5, a6, a7, a8] t (0, 0))) (u0 u1 u2 u3 u4 u5 u6 u7 u8 : Value) {W' : World}
    (e : (((((((((W.setCell ⟨g, 0, none⟩ u0).setCell ⟨g, 1, none⟩ u1).setCell ⟨g, 2, none⟩ u2).setCell ⟨g, 3, none⟩ u3).setCell ⟨g, 4, none⟩ u4).setCell ⟨g, 5, none⟩ u5).setCell ⟨g, 6, none⟩ u6).setCell ⟨g, 7, none⟩ u7).setCell ⟨g, 8, none⟩ u8) = W') :
    W'.heap[g]? = some (.cells #[u0, u1, u2, u3, u4, u5, u6, u7, u8] t (0, 0)) ∧ (∀ w : World, Below w.heap.size w W → w.heap.size ≤ g → Below w.heap.size w W') ∧ (∀ h cs t1, h ≠ g → W.heap[h]? = some (.cells cs t1 (0, 0)) → W'.heap[h]? = some (.cells cs t1 (0, 0))) := by
  subst e
  have b0 := blk_put (cs' := #[u0, a1, a2, a3, a4, a5, a6, a7, a8]) hr 0 u0 rfl
  have b1 := blk_put (cs' := #[u0, u1, a2, a3, a4, a5, a6, a7, a8]) b0 1 u1 rfl
  have b2 := blk_put (cs' := #[u0, u1, u2, a3, a4, a5, a6, a7, a8]) b1 2 u2 rfl
  have b3 := blk_put (cs' := #[u0, u1, u2, u3, a4, a5, a6, a7, a8]) b2 3 u3 rfl
  have b4 := blk_put (cs' := #[u0, u1, u2, u3, u4, a5, a6, a7, a8]) b3 4 u4 rfl
  have b5 := blk_put (cs' := #[u0, u1, u2, u3, u4, u5, a6, a7, a8]) b4 5 u5 rfl
  have b6 := blk_put (cs' := #[u0, u1, u2, u3, u4, u5, u6, a7, a8]) b5 6 u6 rfl
  have b7 := blk_put (cs' := #[u0, u1, u2, u3, u4, u5, u6, u7, a8]) b6 7 u7 rfl
  have b8 := blk_put (cs' := #[u0, u1, u2, u3, u4, u5, u6, u7, u8]) b7 8 u8 rfl
  refine ⟨b8, ?_, ?_⟩
  · exact fun w hb hl => below_set (below_set (below_set (below_set (below_set (below_set (below_set (below_set (below_set hb hl) hl) hl) hl) hl) hl) hl) hl) hl
  · exact fun h cs t1 hn ho => blk_far (blk_far (blk_far (blk_far (blk_far (blk_far (blk_far (blk_far (blk_far ho hn _) hn _) hn _) hn _) hn _) hn _) hn _) hn _) hn _
theorem c9_ {W : World} {g : Nat} {t : TypeId} {a0 a1 a2 a3 a4 a5 a6 a7 a8 : Value} (h : W.heap[g]? = some (.cells #[a0, a1, a2, a3, a4, a5, a6, a7, a8] t (0, 0))) : W.cell? ⟨g, 0, none⟩ = some a0 ∧ W.cell? ⟨g, 1, none⟩ = some a1 ∧ W.cell? ⟨g, 2, none⟩ = some a2 ∧ W.cell? ⟨g, 3, none⟩ = some a3 ∧ W.cell? ⟨g, 4, none⟩ = some a4 ∧ W.cell? ⟨g, 5, none⟩ = some a5 ∧ W.cell? ⟨g, 6, none⟩ = some a6 ∧ W.cell? ⟨g, 7, none⟩ = some a7 ∧ W.cell? ⟨g, 8, none⟩ = some a8 := by
  exact ⟨(blk_cell h 0).trans rfl, (blk_cell h 1).trans rfl, (blk_cell h 2).trans rfl, (blk_cell h 3).trans rfl, (blk_cell h 4).trans rfl, (blk_cell h 5).trans rfl, (blk_cell h 6).trans rfl, (blk_cell h 7).trans rfl, (blk_cell h 8).trans rfl⟩
theorem f9_ {W : World} {g : Nat} {t : TypeId} {CS : Array Value} (h : W.heap[g]? = some (.cells CS t (0, 0))) : W.frozen? ⟨g, 0, none⟩ = false ∧ W.frozen? ⟨g, 1, none⟩ = false ∧ W.frozen? ⟨g, 2, none⟩ = false ∧ W.frozen? ⟨g, 3, none⟩ = false ∧ W.frozen? ⟨g, 4, none⟩ = false ∧ W.frozen? ⟨g, 5, none⟩ = false ∧ W.frozen? ⟨g, 6, none⟩ = false ∧ W.frozen? ⟨g, 7, none⟩ = false ∧ W.frozen? ⟨g, 8, none⟩ = false :=
  ⟨blk_frozen h 0, blk_frozen h 1, blk_frozen h 2, blk_frozen h 3, blk_frozen h 4, blk_frozen h 5, blk_frozen h 6, blk_frozen h 7, blk_frozen h 8⟩
set_option maxHeartbeats 8000000 in
set_option maxRecDepth 100000 in
theorem stowagelaw16_awake.calls (k : Nat)  (r : Bool) (w : World) (h : stowagelaw16_awake.f k  = some r) (hG : GG w) :
    Calls Tryd.prog 13 #[] w fun e w' => e = .returned (.bool r) ∧ Below w.heap.size w w' := by
 have HG := am hG
 clear hG
 have hu25 := Tryd.underlying25
 have HB := am (Below.refl w.heap.size w)
 have H := h
 clear h
 unfold stowagelaw16_awake.f at H
 replace H := obE H
 obtain ⟨⟨t196, t197⟩, A1, H⟩ := H
 try dsimp only at H
 replace H := obE H
 obtain ⟨⟨t198, t199, t200, t201, t202, t203, t204, t205, t208, t211⟩, A2, H⟩ := H
 try dsimp only at H
 replace H := obE H
 obtain ⟨⟨t213, t214⟩, A3, H⟩ := H
 try dsimp only at H
 replace H := obE H
 obtain ⟨⟨t215, t216⟩, A4, H⟩ := H
 try dsimp only at H
 replace H := am H
 go_enter Tryd.func13, Tryd.ntmps13
 go_upto_region 2 with (first | ((with_reducible refine gate_dst (N := 1) rfl ?_); (try (refine gate_guard (by rfl) ?_; dsimp only)); refine bx 1 #[.int .i64 0, .string (⟨#[]⟩ : ByteArray), .string (⟨#[]⟩ : ByteArray), .string (⟨#[]⟩ : ByteArray), .int .i64 0, .int .i64 0, .string (⟨#[]⟩ : ByteArray), .slice none 0 0, .slice none 0 0] 25 ?_; intro gc hg w1 hbox hb; have BKgc := am (hbox); have GEgc := am ((by rw [hg]; exact HB.out.size : w.heap.size ≤ gc)); replace HB := am (below_step HB.out hb); clear hb hbox hg; obtain ⟨z0, z1, z2, z3, z4, z5, z6, z7, z8⟩ := c9_ BKgc.out; obtain ⟨y0, y1, y2, y3, y4, y5, y6, y7, y8⟩ := f9_ BKgc.out))
 generalize hW : ((((((((w1.setCell ⟨gc, 0, none⟩ (.int .i64 1)).setCell ⟨gc, 1, none⟩ (.string (⟨#[]⟩ : ByteArray))).setCell ⟨gc, 2, none⟩ (.string (⟨#[111, 110, 101]⟩ : ByteArray))).setCell ⟨gc, 3, none⟩ (.string (⟨#[]⟩ : ByteArray))).setCell ⟨gc, 4, none⟩ (.int .i64 0)).setCell ⟨gc, 5, none⟩ (.int .i64 0)).setCell ⟨gc, 6, none⟩ (.string (⟨#[]⟩ : ByteArray))).setCell ⟨gc, 7, none⟩ (.slice none 0 0)).setCell ⟨gc, 8, none⟩ (.slice none 0 0) = W
 obtain ⟨q1, q2, -⟩ := st9_ BKgc.out _ _ _ _ _ _ _ _ _ hW
 replace BKgc := am q1
 replace HB := am (q2 _ HB.out GEgc.out)
 clear hW q1 q2 z0 z1 z2 z3 z4 z5 z6 z7 z8 y0 y1 y2 y3 y4 y5 y6 y7 y8 w1
 obtain ⟨z0, z1, z2, z3, z4, z5, z6, z7, z8⟩ := c9_ BKgc.out
 obtain ⟨y0, y1, y2, y3, y4, y5, y6, y7, y8⟩ := f9_ BKgc.out
 go_upto_region 4 with (first | (go_at_call 8; (refine (cmd_Encode.calls k 1 (⟨#[]⟩ : ByteArray) (⟨#[111, 110, 101]⟩ : ByteArray) (⟨#[]⟩ : ByteArray) 0 0 (⟨#[]⟩ : ByteArray) _ _ ([] : List (S82)) _ _ ([] : List (S62)) t196 t197 _ ?side1 ?side2 ?side3 ?side4 A1.out ?sideG).mono ?_); (case sideG => exact gg_below HG.out HB.out); (case side1 => exact Kd.C_nil _ _); (case side2 => exact Nat.le_refl _); (case side3 => exact Kd.C_nil _ _); (case side4 => exact Nat.le_refl _); rintro e w2 ⟨rfl, hb⟩; (try dsimp only); replace BKgc := am (blk_below BKgc.out hb); replace HB := am (below_step HB.out hb); clear hb z0 z1 z2 z3 z4 z5 z6 z7 z8 y0 y1 y2 y3 y4 y5 y6 y7 y8) | (go_at_call 16; (with_reducible refine (cmd_Decode.calls k t196 t198 t199 t200 t201 t202 t203 t204 t205 t208 t211 _ A2.out ?sideG).mono ?_); (case sideG => exact gg_below HG.out HB.out); rintro e w3 ⟨v206, v209, rfl, ho0, ho1, hb⟩; (try dsimp only); obtain ⟨Ao19, co19, rfl⟩ := Kd.R_slice ho0; obtain ⟨Ao20, co20, rfl⟩ := Kd.R_slice ho1; replace BKgc := am (blk_below BKgc.out hb); replace HB := am (below_step HB.out hb); clear hb ho0 ho1) | ((with_reducible refine gate_dst (N := 4) rfl ?_); (try (refine gate_guard (by rfl) ?_; dsimp only)); refine bx 4 #[.int .i64 0, .string (⟨#[]⟩ : ByteArray), .string (⟨#[]⟩ : ByteArray), .string (⟨#[]⟩ : ByteArray), .int .i64 0, .int .i64 0, .string (⟨#[]⟩ : ByteArray), .slice none 0 0, .slice none 0 0] 25 ?_; intro gd hg w4 hbox hb; have BKgd := am (hbox); have GEgd := am ((by rw [hg]; exact HB.out.size : w.heap.size ≤ gd)); have NE := am ((by rw [hg]; exact Nat.ne_of_lt (blk_lt BKgc.out) : gc ≠ gd)); replace BKgc := am (blk_below BKgc.out hb); replace HB := am (below_step HB.out hb); clear hb hbox hg; obtain ⟨z0, z1, z2, z3, z4, z5, z6, z7, z8⟩ := c9_ BKgd.out; obtain ⟨y0, y1, y2, y3, y4, y5, y6, y7, y8⟩ := f9_ BKgd.out))
 generalize hW : ((((((((w4.setCell ⟨gd, 0, none⟩ (.int .i64 t198)).setCell ⟨gd, 1, none⟩ (.string t199)).setCell ⟨gd, 2, none⟩ (.string t200)).setCell ⟨gd, 3, none⟩ (.string t201)).setCell ⟨gd, 4, none⟩ (.int .i64 t202)).setCell ⟨gd, 5, none⟩ (.int .i64 t203)).setCell ⟨gd, 6, none⟩ (.string t204)).setCell ⟨gd, 7, none⟩ (.slice Ao19 t205.length co19)).setCell ⟨gd, 8, none⟩ (.slice Ao20 t208.length co20) = V
 obtain ⟨q1, q2, q3⟩ := st9_ BKgd.out _ _ _ _ _ _ _ _ _ hW
 replace BKgd := am q1
 replace HB := am (q2 _ HB.out GEgd.out)
 replace BKgc := am (q3 _ _ _ NE.out BKgc.out)
 clear hW q1 q2 q3 z0 z1 z2 z3 z4 z5 z6 z7 z8 y0 y1 y2 y3 y4 y5 y6 y7 y8 w4
 obtain ⟨z0, z1, z2, z3, z4, z5, z6, z7, z8⟩ := c9_ BKgc.out
 obtain ⟨y0, y1, y2, y3, y4, y5, y6, y7, y8⟩ := f9_ BKgc.out
 go_upto_region 5 with (first | (go_at_call 11; (refine (cmd_Digest.calls k 1 (⟨#[]⟩ : ByteArray) (⟨#[111, 110, 101]⟩ : ByteArray) (⟨#[]⟩ : ByteArray) 0 0 (⟨#[]⟩ : ByteArray) _ _ ([] : List (S82)) _ _ ([] : List (S62)) t213 t214 _ ?side1 ?side2 ?side3 ?side4 A3.out ?sideG).mono ?_); (case sideG => exact gg_below HG.out (by first | exact HB.out | exact below_set HB.out GEgc.out)); (case side1 => exact Kd.C_nil _ _); (case side2 => exact Nat.le_refl _); (case side3 => exact Kd.C_nil _ _); (case side4 => exact Nat.le_refl _); rintro e w5 ⟨rfl, hb⟩; (try dsimp only); replace BKgc := am (blk_below BKgc.out hb); replace BKgd := am (blk_below BKgd.out hb); replace HB := am (below_step HB.out hb); clear hb A3 z0 z1 z2 z3 z4 z5 z6 z7 z8 y0 y1 y2 y3 y4 y5 y6 y7 y8; obtain ⟨z0, z1, z2, z3, z4, z5, z6, z7, z8⟩ := c9_ BKgc.out; obtain ⟨y0, y1, y2, y3, y4, y5, y6, y7, y8⟩ := f9_ BKgc.out))
 go_upto_region 6 with (fail)
 generalize hW : w5.setCell ⟨gc, 1, none⟩ (.string (⟨#[116]⟩ : ByteArray)) = V2
 replace HB := am (hW ▸ below_set HB.out GEgc.out)
 replace BKgd := am (hW ▸ blk_far BKgd.out (Ne.symm NE.out) _)
 replace BKgc := am (hW ▸ blk_put (cs' := #[.int .i64 1, .string (⟨#[116]⟩ : ByteArray), .string (⟨#[111, 110, 101]⟩ : ByteArray), .string (⟨#[]⟩ : ByteArray), .int .i64 0, .int .i64 0, .string (⟨#[]⟩ : ByteArray), .slice none 0 0, .slice none 0 0]) BKgc.out 1 _ rfl)
 clear hW z0 z1 z2 z3 z4 z5 z6 z7 z8 y0 y1 y2 y3 y4 y5 y6 y7 y8 w5
 obtain ⟨z0, z1, z2, z3, z4, z5, z6, z7, z8⟩ := c9_ BKgc.out
 obtain ⟨y0, y1, y2, y3, y4, y5, y6, y7, y8⟩ := f9_ BKgc.out
 go_upto_region 7 with (first | (go_at_call 11; (refine (cmd_Digest.calls k 1 (⟨#[116]⟩ : ByteArray) (⟨#[111, 110, 101]⟩ : ByteArray) (⟨#[]⟩ : ByteArray) 0 0 (⟨#[]⟩ : ByteArray) _ _ ([] : List (S82)) _ _ ([] : List (S62)) t215 t216 _ ?side1 ?side2 ?side3 ?side4 A4.out ?sideG).mono ?_); (case sideG => exact gg_below HG.out (by first | exact HB.out | exact below_set HB.out GEgc.out)); (case side1 => exact Kd.C_nil _ _); (case side2 => exact Nat.le_refl _); (case side3 => exact Kd.C_nil _ _); (case side4 => exact Nat.le_refl _); rintro e w6 ⟨rfl, hb⟩; (try dsimp only); replace BKgd := am (blk_below BKgd.out hb); replace HB := am (below_step HB.out hb); clear hb A4 BKgc z0 z1 z2 z3 z4 z5 z6 z7 z8 y0 y1 y2 y3 y4 y5 y6 y7 y8; obtain ⟨z0, z1, z2, z3, z4, z5, z6, z7, z8⟩ := c9_ BKgd.out))
 replace H := H.out
 by_cases c5 : t197 = 0
 ·
  rw [if_pos c5] at H
  have c5b0 := beq_iff_eq.mpr c5
  have c5b1 := bne_eq_false_iff_eq.mpr c5
  clear c5
  by_cases c6 : t211 = 0
  ·
   rw [if_pos c6] at H
   have c6b0 := beq_iff_eq.mpr c6
   have c6b1 := bne_eq_false_iff_eq.mpr c6
   clear c6
   by_cases c7 : t196.toList = ([1, 0, 3, 111, 110, 101] : List UInt8)
   ·
    rw [if_pos c7] at H
    have c7b0 := beq_iff_eq.mpr c7
    have c7b1 := bne_eq_false_iff_eq.mpr c7
    clear c7
    by_cases c8 : t200.toList = ([111, 110, 101] : List UInt8)
    ·
     rw [if_pos c8] at H
     have c8b0 := beq_iff_eq.mpr c8
     have c8b1 := bne_eq_false_iff_eq.mpr c8
     clear c8
     by_cases c9 : t214 = 0
     ·
      rw [if_pos c9] at H
      have c9b0 := beq_iff_eq.mpr c9
      have c9b1 := bne_eq_false_iff_eq.mpr c9
      clear c9
      by_cases c10 : t216 = 0
      ·
       rw [if_pos c10] at H
       have c10b0 := beq_iff_eq.mpr c10
       have c10b1 := bne_eq_false_iff_eq.mpr c10
       clear c10
       by_cases c11 : t213.toList = t215.toList
       ·
        rw [if_pos c11] at H
        have c11b0 := beq_iff_eq.mpr c11
        have c11b1 := bne_eq_false_iff_eq.mpr c11
        clear c11
        obtain rfl := Option.some.inj H
        go_wp2
        go_ret
        exact ⟨rf, HB.out⟩
       ·
        rw [if_neg c11] at H
        have c11b0 := beq_eq_false_iff_ne.mpr c11
        have c11b1 := bne_iff_ne.mpr c11
        clear c11
        obtain rfl := Option.some.inj H
        go_wp2
        go_ret
        exact ⟨rf, HB.out⟩
      ·
       rw [if_neg c10] at H
       have c10b0 := beq_eq_false_iff_ne.mpr c10
       have c10b1 := bne_iff_ne.mpr c10
       clear c10
       obtain rfl := Option.some.inj H
       go_wp2
       go_ret
       exact ⟨rf, HB.out⟩
     ·
      rw [if_neg c9] at H
      have c9b0 := beq_eq_false_iff_ne.mpr c9
      have c9b1 := bne_iff_ne.mpr c9
      clear c9
      obtain rfl := Option.some.inj H
      go_wp2
      go_ret
      exact ⟨rf, HB.out⟩
    ·
     rw [if_neg c8] at H
     have c8b0 := beq_eq_false_iff_ne.mpr c8
     have c8b1 := bne_iff_ne.mpr c8
     clear c8
     obtain rfl := Option.some.inj H
     go_wp2
     go_ret
     exact ⟨rf, HB.out⟩
   ·
    rw [if_neg c7] at H
    have c7b0 := beq_eq_false_iff_ne.mpr c7
    have c7b1 := bne_iff_ne.mpr c7
    clear c7
    obtain rfl := Option.some.inj H
    go_wp2
    go_ret
    exact ⟨rf, HB.out⟩
  ·
   rw [if_neg c6] at H
   have c6b0 := beq_eq_false_iff_ne.mpr c6
   have c6b1 := bne_iff_ne.mpr c6
   clear c6
   obtain rfl := Option.some.inj H
   go_wp2
   go_ret
   exact ⟨rf, HB.out⟩
 ·
  rw [if_neg c5] at H
  have c5b0 := beq_eq_false_iff_ne.mpr c5
  have c5b1 := bne_iff_ne.mpr c5
  clear c5
  obtain rfl := Option.some.inj H
  go_wp2
  go_ret
  exact ⟨rf, HB.out⟩
def stowageref12_Token.l0 : Nat → ByteArray → Int → Option (Bool)
 | 0, _, _ => none
 | k + 1, x0, x3 => if x3 < (x0.size : Int) then (if 0 ≤ x3 then (if (bt x0 x3) < 33 then (some false) else (if (bt x0 x3) > 126 then (some false) else (stowageref12_Token.l0 k x0 (wrap64 (x3 + 1))))) else (none)) else (if (x0.size : Int) ≥ 1 then (some (decide ((x0.size : Int) ≤ 64))) else (some false))
def stowageref12_Token.f (k : Nat) (a0 : ByteArray) : Option (Bool) := stowageref12_Token.l0 k a0 0
theorem stowageref12_Token.mono_l : ∀ k, (∀ y0 y1, LeO (stowageref12_Token.l0 k y0 y1) (stowageref12_Token.l0 (k + 1) y0 y1))
 | 0 => fun _ _ r h => by simp [stowageref12_Token.l0] at h
 | k + 1 => by
  have ih0 := stowageref12_Token.mono_l k
  ·
   intro y0 y1
   unfold stowageref12_Token.l0
   repeat' (with_reducible first | exact ih0 _ _ | exact LeO.refl _ | exact LeO.none _ | refine LeO.ite ?_ ?_ | refine LeO.bind ?_ (fun _ => ?_))
theorem stowageref12_Token.mono : ∀ a0 k, LeO (stowageref12_Token.f k a0) (stowageref12_Token.f (k + 1) a0) := by
 intro a0 k
 have ih0 := stowageref12_Token.mono_l k
 unfold stowageref12_Token.f
 repeat' (with_reducible first | exact ih0 _ _ | exact LeO.refl _ | exact LeO.none _ | refine LeO.ite ?_ ?_ | refine LeO.bind ?_ (fun _ => ?_))
set_option maxHeartbeats 8000000 in
set_option maxRecDepth 100000 in
theorem stowageref12_Token.calls (k : Nat) (a0 : ByteArray) (r : Bool) (w : World) (h : stowageref12_Token.f k a0 = some r) :
  Calls Tryd.prog 38 #[.string a0] w fun e w' => e = .returned (.bool r) ∧ Drawn0 w w' := by
 have H := h
 clear h
 unfold stowageref12_Token.f at H
 have H' := am H
 clear H
 go_enter Tryd.func38, Tryd.ntmps38
 go_wp2
 go_loopg [3] k (fun kq v3 w' => ∃ (x3_1 : Int), v3 = .int .i64 x3_1 ∧ Aside0 (stowageref12_Token.l0 kq a0 x3_1 = some r) ∧ Aside0 (kq ≤ k) ∧ Drawn0 w w')
 case atStart => exact ⟨(0), rs, H', ⟨Nat.le_refl _⟩, by repeat (first | exact Drawn0.refl _ | apply Drawn0.step)⟩
 case round =>
  clear H'
  obtain ⟨x3_1, rfl, HA, HK1, ⟨m1, rfl⟩⟩ := hrel
  cases gk with
  | zero => exact absurd HA.out (by simp [stowageref12_Token.l0])
  | succ k1 =>
   have H := HA.out
   clear HA
   simp only [stowageref12_Token.l0] at H
   replace H := iteD H
   rcases H with ⟨c2b0, H⟩ | ⟨c2b0, H⟩
   ·
    replace H := iteD H
    rcases H with ⟨c3b0, H⟩ | ⟨_, H⟩
    ·
     replace H := iteD H
     rcases H with ⟨c5b0, H⟩ | ⟨c5b0, H⟩
     ·
      obtain rfl := Option.some.inj H
      have p4 := pz x3_1
      have q4 := pl x3_1 (a0.size : Int)
      have hx4 := bt_at a0 x3_1
      go_wp2
      go_ret
      exact ⟨by first | rfl | (simp; done) | (simp [*]; done), by repeat (first | exact Drawn0.refl _ | apply Drawn0.step)⟩
     ·
      replace H := iteD H
      rcases H with ⟨c7b0, H⟩ | ⟨c7b0, H⟩
      ·
       obtain rfl := Option.some.inj H
       have p4 := pz x3_1
       have q4 := pl x3_1 (a0.size : Int)
       have hx4 := bt_at a0 x3_1
       have p6 := pz x3_1
       have q6 := pl x3_1 (a0.size : Int)
       have hx6 := bt_at a0 x3_1
       go_wp2
       go_ret
       exact ⟨by first | rfl | (simp; done) | (simp [*]; done), by repeat (first | exact Drawn0.refl _ | apply Drawn0.step)⟩
      ·
       have H' := am H
       clear H
       have p4 := pz x3_1
       have q4 := pl x3_1 (a0.size : Int)
       have hx4 := bt_at a0 x3_1
       have p6 := pz x3_1
       have q6 := pl x3_1 (a0.size : Int)
       have hx6 := bt_at a0 x3_1
       go_wp2
       go_roundg k1
       case measure => have := HK1.out; omega
       case rel => exact ⟨(wrap64 (x3_1 + 1)), rs, H', ⟨by have := HK1.out; omega⟩, by repeat (first | exact Drawn0.refl _ | apply Drawn0.step)⟩
    ·
     exact absurd H (by simp)
   ·
    by_cases c8 : (a0.size : Int) ≥ 1
    ·
     rw [if_pos c8] at H
     have c8b0 := decide_eq_true c8
     have c8b1 : decide (1 ≤ a0.size) = true := decide_eq_true (by omega)
     clear c8
     obtain rfl := Option.some.inj H
     go_wp2
     go_ret
     exact ⟨by first | rfl | (simp; done) | (simp [*]; done), by repeat (first | exact Drawn0.refl _ | apply Drawn0.step)⟩
    ·
     rw [if_neg c8] at H
     have c8b0 := decide_eq_false c8
     have c8b1 : decide (1 ≤ a0.size) = false := decide_eq_false (by omega)
     clear c8
     obtain rfl := Option.some.inj H
     go_wp2
     go_ret
     exact ⟨by first | rfl | (simp; done) | (simp [*]; done), by repeat (first | exact Drawn0.refl _ | apply Drawn0.step)⟩
mutual
def stowageref12_Bucket.j0 : Nat → ByteArray → Int → Bool → Option (Bool)
 | 0, _, _, _ => none
 | k + 1, x0, x3, x13 => if x13 = true then (some false) else (stowageref12_Bucket.l0 k x0 x3 0)
def stowageref12_Bucket.l0 : Nat → ByteArray → Int → Int → Option (Bool)
 | 0, _, _, _ => none
 | k + 1, x0, x3, x4 => if x4 < x3 then (if 0 ≤ x4 then (if x4 < (x0.size : Int) then (if (bt x0 x4) ≥ 97 then (if (bt x0 x4) ≤ 122 then (stowageref12_Bucket.j2 k x0 x3 x4 (bt x0 x4) true) else (if (bt x0 x4) ≥ 48 then (stowageref12_Bucket.j2 k x0 x3 x4 (bt x0 x4) (decide ((bt x0 x4) ≤ 57))) else (stowageref12_Bucket.j2 k x0 x3 x4 (bt x0 x4) false))) else (if (bt x0 x4) ≥ 48 then (stowageref12_Bucket.j2 k x0 x3 x4 (bt x0 x4) (decide ((bt x0 x4) ≤ 57))) else (stowageref12_Bucket.j2 k x0 x3 x4 (bt x0 x4) false))) else (none)) else (none)) else (some true)
def stowageref12_Bucket.j2 : Nat → ByteArray → Int → Int → Int → Bool → Option (Bool)
 | 0, _, _, _, _, _ => none
 | k + 1, x0, x3, x4, x5, x35 => if x35 = true then (stowageref12_Bucket.l0 k x0 x3 (wrap64 (x4 + 1))) else (if x5 = 45 then (if x4 = 0 then (some false) else (if x4 = (wrap64 (x3 - 1)) then (some false) else (if x5 = 46 then (if 0 ≤ (wrap64 (x4 - 1)) then (if (wrap64 (x4 - 1)) < (x0.size : Int) then (if (bt x0 (wrap64 (x4 - 1))) = 46 then (some false) else (stowageref12_Bucket.l0 k x0 x3 (wrap64 (x4 + 1)))) else (none)) else (none)) else (stowageref12_Bucket.l0 k x0 x3 (wrap64 (x4 + 1)))))) else (if x5 = 46 then (if x4 = 0 then (some false) else (if x4 = (wrap64 (x3 - 1)) then (some false) else (if 0 ≤ (wrap64 (x4 - 1)) then (if (wrap64 (x4 - 1)) < (x0.size : Int) then (if (bt x0 (wrap64 (x4 - 1))) = 46 then (some false) else (stowageref12_Bucket.l0 k x0 x3 (wrap64 (x4 + 1)))) else (none)) else (none)))) else (some false)))
end
def stowageref12_Bucket.f (k : Nat) (a0 : ByteArray) : Option (Bool) := if (a0.size : Int) < 3 then (stowageref12_Bucket.j0 k a0 (a0.size : Int) true) else (stowageref12_Bucket.j0 k a0 (a0.size : Int) (decide ((a0.size : Int) > 63)))
theorem stowageref12_Bucket.mono_l : ∀ k, (∀ y0 y1 y2, LeO (stowageref12_Bucket.j0 k y0 y1 y2) (stowageref12_Bucket.j0 (k + 1) y0 y1 y2)) ∧ (∀ y0 y1 y2, LeO (stowageref12_Bucket.l0 k y0 y1 y2) (stowageref12_Bucket.l0 (k + 1) y0 y1 y2)) ∧ (∀ y0 y1 y2 y3 y4, LeO (stowageref12_Bucket.j2 k y0 y1 y2 y3 y4) (stowageref12_Bucket.j2 (k + 1) y0 y1 y2 y3 y4))
 | 0 => ⟨fun _ _ _ r h => by simp [stowageref12_Bucket.j0] at h, fun _ _ _ r h => by simp [stowageref12_Bucket.l0] at h, fun _ _ _ _ _ r h => by simp [stowageref12_Bucket.j2] at h⟩
 | k + 1 => by
  obtain ⟨ih0, ih1, ih2⟩ := stowageref12_Bucket.mono_l k
  refine ⟨?_, ?_, ?_⟩
  all_goals intros
  all_goals first | unfold stowageref12_Bucket.j0 | unfold stowageref12_Bucket.l0 | unfold stowageref12_Bucket.j2
  all_goals repeat' (with_reducible first | exact ih0 _ _ _ | exact ih1 _ _ _ | exact ih2 _ _ _ _ _ | exact LeO.refl _ | exact LeO.none _ | refine LeO.ite ?_ ?_ | refine LeO.bind ?_ (fun _ => ?_))
theorem stowageref12_Bucket.mono : ∀ a0 k, LeO (stowageref12_Bucket.f k a0) (stowageref12_Bucket.f (k + 1) a0) := by
 intro a0 k
 obtain ⟨ih0, ih1, ih2⟩ := stowageref12_Bucket.mono_l k
 unfold stowageref12_Bucket.f
 repeat' (with_reducible first | exact ih0 _ _ _ | exact ih1 _ _ _ | exact ih2 _ _ _ _ _ | exact LeO.refl _ | exact LeO.none _ | refine LeO.ite ?_ ?_ | refine LeO.bind ?_ (fun _ => ?_))
set_option maxHeartbeats 8000000 in
set_option maxRecDepth 100000 in
theorem stowageref12_Bucket.calls (k : Nat) (a0 : ByteArray) (r : Bool) (w : World) (h : stowageref12_Bucket.f k a0 = some r) :
  Calls Tryd.prog 39 #[.string a0] w fun e w' => e = .returned (.bool r) ∧ Drawn0 w w' := by
 have H := h
 clear h
 unfold stowageref12_Bucket.f at H
 have HC2 := am H
 clear H
 go_enter Tryd.func39, Tryd.ntmps39
 go_upto_region 2 with (fail)
 go_cut [13] (fun v13 wc => ∃ (kq : Nat) (x13_1 : Bool), v13 = .bool x13_1 ∧ Aside0 (stowageref12_Bucket.j0 kq a0 (a0.size : Int) x13_1 = some r) ∧ Aside0 (kq ≤ k) ∧ Drawn0 w wc)
 case first =>
  have H := HC2.out
  clear HC2
  by_cases c3 : (a0.size : Int) < 3
  ·
   rw [if_pos c3] at H
   have c3b0 := decide_eq_true c3
   have c3b1 : decide (a0.size < 3) = true := decide_eq_true (by omega)
   clear c3
   (first | rw [c3b0] | (simp only [i64_w, i32_w]; rw [c3b0]) | skip)
   have H' := am H
   clear H
   go_wp2
   go_meet
   case rel => exact ⟨_, (true), rs, H', ⟨om⟩, by repeat (first | exact Drawn0.refl _ | apply Drawn0.step)⟩
  ·
   rw [if_neg c3] at H
   have c3b0 := decide_eq_false c3
   have c3b1 : decide (a0.size < 3) = false := decide_eq_false (by omega)
   clear c3
   (first | rw [c3b0] | (simp only [i64_w, i32_w]; rw [c3b0]) | skip)
   have H' := am H
   clear H
   go_wp2
   go_meet
   case rel => exact ⟨_, (decide ((a0.size : Int) > 63)), rs, H', ⟨om⟩, by repeat (first | exact Drawn0.refl _ | apply Drawn0.step)⟩
 case rest =>
  clear HC2
  obtain ⟨kq, x13_1, rfl, HA, HJ1, ⟨mc1, rfl⟩⟩ := hcut
  cases kq with
  | zero => exact absurd HA.out (by simp [stowageref12_Bucket.j0])
  | succ kj1 =>
   have H := HA.out
   clear HA
   simp only [stowageref12_Bucket.j0] at H
   by_cases c4 : x13_1 = true
   ·
    subst c4
    rw [if_pos rfl] at H
    obtain rfl := Option.some.inj H
    go_wp2
    go_ret
    exact ⟨by first | rfl | (simp; done) | (simp [*]; done), by repeat (first | exact Drawn0.refl _ | apply Drawn0.step)⟩
   ·
    replace c4 := Bool.eq_false_iff.mpr c4
    subst c4
    rw [if_neg (show ¬ (false = true) by decide)] at H
    have H' := am H
    clear H
    go_wp2
    go_loopg [4] kj1 (fun kq v4 w' => ∃ (x4_2 : Int), v4 = .int .i64 x4_2 ∧ Aside0 (stowageref12_Bucket.l0 kq a0 (a0.size : Int) x4_2 = some r) ∧ Aside0 (kq ≤ kj1) ∧ Drawn0 w w')
    case atStart => exact ⟨(0), rs, H', ⟨Nat.le_refl _⟩, by repeat (first | exact Drawn0.refl _ | apply Drawn0.step)⟩
    case round =>
     clear H'
     try clear c4
     obtain ⟨x4_2, rfl, HA, HK2, ⟨m2, rfl⟩⟩ := hrel
     cases gk with
     | zero => exact absurd HA.out (by simp [stowageref12_Bucket.l0])
     | succ k2 =>
      have H := HA.out
      clear HA
      simp only [stowageref12_Bucket.l0] at H
      replace H := iteD H
      rcases H with ⟨c5b0, H⟩ | ⟨c5b0, H⟩
      ·
       replace H := iteD H
       rcases H with ⟨c6b0, H⟩ | ⟨_, H⟩
       ·
        replace H := iteD H
        rcases H with ⟨c7b0, H⟩ | ⟨_, H⟩
        ·
         have HC9 := am H
         clear H
         have p8 := pz x4_2
         have q8 := pl x4_2 (a0.size : Int)
         have hx8 := bt_at a0 x4_2
         go_upto_region 8 with (fail)
         go_cut [35] (fun v35 wc => ∃ (kq : Nat) (x35_8 : Bool), v35 = .bool x35_8 ∧ Aside0 (stowageref12_Bucket.j2 kq a0 (a0.size : Int) x4_2 (bt a0 x4_2) x35_8 = some r) ∧ Aside0 (kq ≤ k2) ∧ Drawn0 w wc)
         case first =>
          have H := HC9.out
          clear HC9
          replace H := iteD H
          rcases H with ⟨c10b0, H⟩ | ⟨c10b0, H⟩
          ·
           (first | rw [c10b0] | (simp only [i64_w, i32_w]; rw [c10b0]) | skip)
           replace H := iteD H
           rcases H with ⟨c11b0, H⟩ | ⟨c11b0, H⟩
           ·
            have H' := am H
            clear H
            go_wp2
            go_meet
            case rel => exact ⟨_, (true), rs, H', ⟨by have := HJ1.out; have := HK2.out; first | omega | exact Nat.le_refl _⟩, by repeat (first | exact Drawn0.refl _ | apply Drawn0.step)⟩
           ·
            replace H := iteD H
            rcases H with ⟨c12b0, H⟩ | ⟨c12b0, H⟩
            ·
             have H' := am H
             clear H
             go_wp2
             go_meet
             case rel => exact ⟨_, (decide ((bt a0 x4_2) ≤ 57)), rs, H', ⟨by have := HJ1.out; have := HK2.out; first | omega | exact Nat.le_refl _⟩, by repeat (first | exact Drawn0.refl _ | apply Drawn0.step)⟩
            ·
             have H' := am H
             clear H
             go_wp2
             go_meet
             case rel => exact ⟨_, (false), rs, H', ⟨by have := HJ1.out; have := HK2.out; first | omega | exact Nat.le_refl _⟩, by repeat (first | exact Drawn0.refl _ | apply Drawn0.step)⟩
          ·
           (first | rw [c10b0] | (simp only [i64_w, i32_w]; rw [c10b0]) | skip)
           replace H := iteD H
           rcases H with ⟨c13b0, H⟩ | ⟨c13b0, H⟩
           ·
            have H' := am H
            clear H
            go_wp2
            go_meet
            case rel => exact ⟨_, (decide ((bt a0 x4_2) ≤ 57)), rs, H', ⟨by have := HJ1.out; have := HK2.out; first | omega | exact Nat.le_refl _⟩, by repeat (first | exact Drawn0.refl _ | apply Drawn0.step)⟩
           ·
            have H' := am H
            clear H
            go_wp2
            go_meet
            case rel => exact ⟨_, (false), rs, H', ⟨by have := HJ1.out; have := HK2.out; first | omega | exact Nat.le_refl _⟩, by repeat (first | exact Drawn0.refl _ | apply Drawn0.step)⟩
         case rest =>
          clear HC9
          try clear c4
          try clear c5b0
          try clear c6b0
          try clear c7b0
          try clear p8
          try clear q8
          try clear hx8
          obtain ⟨kq, x35_8, rfl, HA, HJ8, ⟨mc8, rfl⟩⟩ := hcut
          cases kq with
          | zero => exact absurd HA.out (by simp [stowageref12_Bucket.j2])
          | succ kj8 =>
           have H := HA.out
           clear HA
           simp only [stowageref12_Bucket.j2] at H
           by_cases c14 : x35_8 = true
           ·
            subst c14
            rw [if_pos rfl] at H
            have H' := am H
            clear H
            go_wp2
            go_roundg kj8
            case measure => have := HJ1.out; have := HK2.out; have := HJ8.out; omega
            case rel => exact ⟨(wrap64 (x4_2 + 1)), rs, H', ⟨by have := HJ1.out; have := HK2.out; have := HJ8.out; omega⟩, by repeat (first | exact Drawn0.refl _ | apply Drawn0.step)⟩
           ·
            replace c14 := Bool.eq_false_iff.mpr c14
            subst c14
            rw [if_neg (show ¬ (false = true) by decide)] at H
            by_cases c15 : (bt a0 x4_2) = 45
            ·
             rw [if_pos c15] at H
             have c15b0 := beq_iff_eq.mpr c15
             have c15b1 := bne_eq_false_iff_eq.mpr c15
             clear c15
             by_cases c16 : x4_2 = 0
             ·
              rw [if_pos c16] at H
              have c16b0 := beq_iff_eq.mpr c16
              have c16b1 := bne_eq_false_iff_eq.mpr c16
              clear c16
              obtain rfl := Option.some.inj H
              go_wp2
              go_ret
              exact ⟨by first | rfl | (simp; done) | (simp [*]; done), by repeat (first | exact Drawn0.refl _ | apply Drawn0.step)⟩
             ·
              rw [if_neg c16] at H
              have c16b0 := beq_eq_false_iff_ne.mpr c16
              have c16b1 := bne_iff_ne.mpr c16
              by_cases c17 : x4_2 = (wrap64 ((a0.size : Int) - 1))
              ·
               rw [if_pos c17] at H
               have c17b0 := beq_iff_eq.mpr c17
               have c17b1 := bne_eq_false_iff_eq.mpr c17
               clear c17
               obtain rfl := Option.some.inj H
               go_wp2
               go_ret
               exact ⟨by first | rfl | (simp; done) | (simp [*]; done), by repeat (first | exact Drawn0.refl _ | apply Drawn0.step)⟩
              ·
               rw [if_neg c17] at H
               have c17b0 := beq_eq_false_iff_ne.mpr c17
               have c17b1 := bne_iff_ne.mpr c17
               by_cases c18 : (bt a0 x4_2) = 46
               ·
                rw [if_pos c18] at H
                have c18b0 := beq_iff_eq.mpr c18
                have c18b1 := bne_eq_false_iff_eq.mpr c18
                clear c18
                obtain ⟨ji19, hji19⟩ : ∃ j_ : Int, (wrap64 (x4_2 - 1)) = j_ := ⟨_, rfl⟩
                replace H : (if 0 ≤ (ji19) then (if (ji19) < (a0.size : Int) then (if (bt a0 (ji19)) = 46 then (some false) else (stowageref12_Bucket.l0 kj8 a0 (a0.size : Int) (wrap64 (x4_2 + 1)))) else (none)) else (none)) = some r := by first | (rw [hji19] at H; exact H) | (simp only [hji19] at H ⊢; exact H)
                have hji19w : (IntKind.i64.wrap (x4_2 - 1)) = ji19 := (i64_w _).trans hji19
                replace H := iteD H
                rcases H with ⟨c20b0, H⟩ | ⟨_, H⟩
                ·
                 replace H := iteD H
                 rcases H with ⟨c21b0, H⟩ | ⟨_, H⟩
                 ·
                  by_cases c23 : (bt a0 (ji19)) = 46
                  ·
                   rw [if_pos c23] at H
                   have c23b0 := beq_iff_eq.mpr c23
                   have c23b1 := bne_eq_false_iff_eq.mpr c23
                   clear c23
                   obtain rfl := Option.some.inj H
                   have p22 := pz (ji19)
                   have q22 := pl (ji19) (a0.size : Int)
                   have hx22 := bt_at a0 (ji19)
                   go_wp2
                   go_ret
                   exact ⟨by first | rfl | (simp; done) | (simp only [← hji19] <;> (first | rfl | simp)) | (simp [*]; done), by repeat (first | exact Drawn0.refl _ | apply Drawn0.step)⟩
                  ·
                   rw [if_neg c23] at H
                   have c23b0 := beq_eq_false_iff_ne.mpr c23
                   have c23b1 := bne_iff_ne.mpr c23
                   have H' := am H
                   clear H
                   have p22 := pz (ji19)
                   have q22 := pl (ji19) (a0.size : Int)
                   have hx22 := bt_at a0 (ji19)
                   go_wp2
                   go_roundg kj8
                   case measure => have := HJ1.out; have := HK2.out; have := HJ8.out; omega
                   case rel => exact ⟨(wrap64 (x4_2 + 1)), rs, H', ⟨by have := HJ1.out; have := HK2.out; have := HJ8.out; omega⟩, by repeat (first | exact Drawn0.refl _ | apply Drawn0.step)⟩
                 ·
                  exact absurd H (by simp)
                ·
                 exact absurd H (by simp)
               ·
                rw [if_neg c18] at H
                have c18b0 := beq_eq_false_iff_ne.mpr c18
                have c18b1 := bne_iff_ne.mpr c18
                have H' := am H
                clear H
                go_wp2
                go_roundg kj8
                case measure => have := HJ1.out; have := HK2.out; have := HJ8.out; omega
                case rel => exact ⟨(wrap64 (x4_2 + 1)), rs, H', ⟨by have := HJ1.out; have := HK2.out; have := HJ8.out; omega⟩, by repeat (first | exact Drawn0.refl _ | apply Drawn0.step)⟩
            ·
             rw [if_neg c15] at H
             have c15b0 := beq_eq_false_iff_ne.mpr c15
             have c15b1 := bne_iff_ne.mpr c15
             by_cases c24 : (bt a0 x4_2) = 46
             ·
              rw [if_pos c24] at H
              have c24b0 := beq_iff_eq.mpr c24
              have c24b1 := bne_eq_false_iff_eq.mpr c24
              clear c24
              by_cases c25 : x4_2 = 0
              ·
               rw [if_pos c25] at H
               have c25b0 := beq_iff_eq.mpr c25
               have c25b1 := bne_eq_false_iff_eq.mpr c25
               clear c25
               obtain rfl := Option.some.inj H
               go_wp2
               go_ret
               exact ⟨by first | rfl | (simp; done) | (simp [*]; done), by repeat (first | exact Drawn0.refl _ | apply Drawn0.step)⟩
              ·
               rw [if_neg c25] at H
               have c25b0 := beq_eq_false_iff_ne.mpr c25
               have c25b1 := bne_iff_ne.mpr c25
               by_cases c26 : x4_2 = (wrap64 ((a0.size : Int) - 1))
               ·
                rw [if_pos c26] at H
                have c26b0 := beq_iff_eq.mpr c26
                have c26b1 := bne_eq_false_iff_eq.mpr c26
                clear c26
                obtain rfl := Option.some.inj H
                go_wp2
                go_ret
                exact ⟨by first | rfl | (simp; done) | (simp [*]; done), by repeat (first | exact Drawn0.refl _ | apply Drawn0.step)⟩
               ·
                rw [if_neg c26] at H
                have c26b0 := beq_eq_false_iff_ne.mpr c26
                have c26b1 := bne_iff_ne.mpr c26
                obtain ⟨ji27, hji27⟩ : ∃ j_ : Int, (wrap64 (x4_2 - 1)) = j_ := ⟨_, rfl⟩
                replace H : (if 0 ≤ (ji27) then (if (ji27) < (a0.size : Int) then (if (bt a0 (ji27)) = 46 then (some false) else (stowageref12_Bucket.l0 kj8 a0 (a0.size : Int) (wrap64 (x4_2 + 1)))) else (none)) else (none)) = some r := by first | (rw [hji27] at H; exact H) | (simp only [hji27] at H ⊢; exact H)
                have hji27w : (IntKind.i64.wrap (x4_2 - 1)) = ji27 := (i64_w _).trans hji27
                replace H := iteD H
                rcases H with ⟨c28b0, H⟩ | ⟨_, H⟩
                ·
                 replace H := iteD H
                 rcases H with ⟨c29b0, H⟩ | ⟨_, H⟩
                 ·
                  by_cases c31 : (bt a0 (ji27)) = 46
                  ·
                   rw [if_pos c31] at H
                   have c31b0 := beq_iff_eq.mpr c31
                   have c31b1 := bne_eq_false_iff_eq.mpr c31
                   clear c31
                   obtain rfl := Option.some.inj H
                   have p30 := pz (ji27)
                   have q30 := pl (ji27) (a0.size : Int)
                   have hx30 := bt_at a0 (ji27)
                   go_wp2
                   go_ret
                   exact ⟨by first | rfl | (simp; done) | (simp only [← hji27] <;> (first | rfl | simp)) | (simp [*]; done), by repeat (first | exact Drawn0.refl _ | apply Drawn0.step)⟩
                  ·
                   rw [if_neg c31] at H
                   have c31b0 := beq_eq_false_iff_ne.mpr c31
                   have c31b1 := bne_iff_ne.mpr c31
                   have H' := am H
                   clear H
                   have p30 := pz (ji27)
                   have q30 := pl (ji27) (a0.size : Int)
                   have hx30 := bt_at a0 (ji27)
                   go_wp2
                   go_roundg kj8
                   case measure => have := HJ1.out; have := HK2.out; have := HJ8.out; omega
                   case rel => exact ⟨(wrap64 (x4_2 + 1)), rs, H', ⟨by have := HJ1.out; have := HK2.out; have := HJ8.out; omega⟩, by repeat (first | exact Drawn0.refl _ | apply Drawn0.step)⟩
                 ·
                  exact absurd H (by simp)
                ·
                 exact absurd H (by simp)
             ·
              rw [if_neg c24] at H
              have c24b0 := beq_eq_false_iff_ne.mpr c24
              have c24b1 := bne_iff_ne.mpr c24
              obtain rfl := Option.some.inj H
              go_wp2
              go_ret
              exact ⟨by first | rfl | (simp; done) | (simp [*]; done), by repeat (first | exact Drawn0.refl _ | apply Drawn0.step)⟩
        ·
         exact absurd H (by simp)
       ·
        exact absurd H (by simp)
      ·
       obtain rfl := Option.some.inj H
       go_wp2
       go_ret
       exact ⟨by first | rfl | (simp; done) | (simp [*]; done), by repeat (first | exact Drawn0.refl _ | apply Drawn0.step)⟩
def stowageref16_HasKey.f (a0 : Int) : Option (Bool) := if a0 ≥ 3 then (some (decide (a0 ≤ 9))) else (some false)
set_option maxHeartbeats 8000000 in
set_option maxRecDepth 100000 in
theorem stowageref16_HasKey.calls (a0 : Int) (r : Bool) (w : World) (h : stowageref16_HasKey.f a0 = some r) :
  Calls Tryd.prog 40 #[.int .i64 a0] w fun e w' => e = .returned (.bool r) ∧ Drawn0 w w' := by
 have H := h
 clear h
 unfold stowageref16_HasKey.f at H
 replace H := iteD H
 rcases H with ⟨c2b0, H⟩ | ⟨c2b0, H⟩
 ·
  obtain rfl := Option.some.inj H
  go_enter Tryd.func40, Tryd.ntmps40
  go_wp2
  go_ret
  exact ⟨by first | rfl | (simp; done) | (simp [*]; done), by repeat (first | exact Drawn0.refl _ | apply Drawn0.step)⟩
 ·
  obtain rfl := Option.some.inj H
  go_enter Tryd.func40, Tryd.ntmps40
  go_wp2
  go_ret
  exact ⟨by first | rfl | (simp; done) | (simp [*]; done), by repeat (first | exact Drawn0.refl _ | apply Drawn0.step)⟩
end Go.Proofs.YtdidopoalmkhlaaDoor.Or
end
section
namespace Go.Proofs.YtdidopoalmkhlaaDoor.Or
open Go.RowKit Go.Proofs.YtdidopoalmkhlaaDoorW.PrintWords Go.Proofs.YtdidopoalmkhlaaDoorW.PrintLast Go.Proofs.YtdidopoalmkhlaaDoorW.PrintMore
attribute [local go_sem] max2_int min2_int max_two min_two max_three min_three max_four min_four
set_option linter.unusedVariables false
set_option linter.unusedSimpArgs false
def stowageref12_Key.l0 : Nat → ByteArray → Int → Option (Bool)
 | 0, _, _ => none
 | k + 1, x0, x3 => if x3 < (x0.size : Int) then (if 0 ≤ x3 then (if (bt x0 x3) = 0 then (some false) else (stowageref12_Key.l0 k x0 (wrap64 (x3 + 1)))) else (none)) else (if (x0.size : Int) ≥ 1 then (some (decide ((x0.size : Int) ≤ 1024))) else (some false))
def stowageref12_Key.f (k : Nat) (a0 : ByteArray) : Option (Bool) := stowageref12_Key.l0 k a0 0
theorem stowageref12_Key.mono_l : ∀ k, (∀ y0 y1, LeO (stowageref12_Key.l0 k y0 y1) (stowageref12_Key.l0 (k + 1) y0 y1))
 | 0 => fun _ _ r h => by simp [stowageref12_Key.l0] at h
 | k + 1 => by
  have ih0 := stowageref12_Key.mono_l k
  ·
   intro y0 y1
   unfold stowageref12_Key.l0
   repeat' (with_reducible first | exact ih0 _ _ | exact LeO.refl _ | exact LeO.none _ | refine LeO.ite ?_ ?_ | refine LeO.bind ?_ (fun _ => ?_))
theorem stowageref12_Key.mono : ∀ a0 k, LeO (stowageref12_Key.f k a0) (stowageref12_Key.f (k + 1) a0) := by
 intro a0 k
 have ih0 := stowageref12_Key.mono_l k
 unfold stowageref12_Key.f
 repeat' (with_reducible first | exact ih0 _ _ | exact LeO.refl _ | exact LeO.none _ | refine LeO.ite ?_ ?_ | refine LeO.bind ?_ (fun _ => ?_))
set_option maxHeartbeats 8000000 in
set_option maxRecDepth 100000 in
theorem stowageref12_Key.calls (k : Nat) (a0 : ByteArray) (r : Bool) (w : World) (h : stowageref12_Key.f k a0 = some r) :
  Calls Tryd.prog 41 #[.string a0] w fun e w' => e = .returned (.bool r) ∧ Drawn0 w w' := by
 have H := h
 clear h
 unfold stowageref12_Key.f at H
 have H' := am H
 clear H
 go_enter Tryd.func41, Tryd.ntmps41
 go_wp2
 go_loopg [3] k (fun kq v3 w' => ∃ (x3_1 : Int), v3 = .int .i64 x3_1 ∧ Aside0 (stowageref12_Key.l0 kq a0 x3_1 = some r) ∧ Aside0 (kq ≤ k) ∧ Drawn0 w w')
 case atStart => exact ⟨(0), rs, H', ⟨Nat.le_refl _⟩, by repeat (first | exact Drawn0.refl _ | apply Drawn0.step)⟩
 case round =>
  clear H'
  obtain ⟨x3_1, rfl, HA, HK1, ⟨m1, rfl⟩⟩ := hrel
  cases gk with
  | zero => exact absurd HA.out (by simp [stowageref12_Key.l0])
  | succ k1 =>
   have H := HA.out
   clear HA
   simp only [stowageref12_Key.l0] at H
   replace H := iteD H
   rcases H with ⟨c2b0, H⟩ | ⟨c2b0, H⟩
   ·
    replace H := iteD H
    rcases H with ⟨c3b0, H⟩ | ⟨_, H⟩
    ·
     by_cases c5 : (bt a0 x3_1) = 0
     ·
      rw [if_pos c5] at H
      have c5b0 := beq_iff_eq.mpr c5
      have c5b1 := bne_eq_false_iff_eq.mpr c5
      clear c5
      obtain rfl := Option.some.inj H
      have p4 := pz x3_1
      have q4 := pl x3_1 (a0.size : Int)
      have hx4 := bt_at a0 x3_1
      go_wp2
      go_ret
      exact ⟨by first | rfl | (simp; done) | (simp [*]; done), by repeat (first | exact Drawn0.refl _ | apply Drawn0.step)⟩
     ·
      rw [if_neg c5] at H
      have c5b0 := beq_eq_false_iff_ne.mpr c5
      have c5b1 := bne_iff_ne.mpr c5
      have H' := am H
      clear H
      have p4 := pz x3_1
      have q4 := pl x3_1 (a0.size : Int)
      have hx4 := bt_at a0 x3_1
      go_wp2
      go_roundg k1
      case measure => have := HK1.out; omega
      case rel => exact ⟨(wrap64 (x3_1 + 1)), rs, H', ⟨by have := HK1.out; omega⟩, by repeat (first | exact Drawn0.refl _ | apply Drawn0.step)⟩
    ·
     exact absurd H (by simp)
   ·
    by_cases c6 : (a0.size : Int) ≥ 1
    ·
     rw [if_pos c6] at H
     have c6b0 := decide_eq_true c6
     have c6b1 : decide (1 ≤ a0.size) = true := decide_eq_true (by omega)
     clear c6
     obtain rfl := Option.some.inj H
     go_wp2
     go_ret
     exact ⟨by first | rfl | (simp; done) | (simp [*]; done), by repeat (first | exact Drawn0.refl _ | apply Drawn0.step)⟩
    ·
     rw [if_neg c6] at H
     have c6b0 := decide_eq_false c6
     have c6b1 : decide (1 ≤ a0.size) = false := decide_eq_false (by omega)
     clear c6
     obtain rfl := Option.some.inj H
     go_wp2
     go_ret
     exact ⟨by first | rfl | (simp; done) | (simp [*]; done), by repeat (first | exact Drawn0.refl _ | apply Drawn0.step)⟩
def stowageref16_hasID.f (a0 : Int) : Option (Bool) := if a0 = 5 then (some true) else (if a0 ≥ 7 then (some (decide (a0 ≤ 10))) else (some false))
set_option maxHeartbeats 8000000 in
set_option maxRecDepth 100000 in
theorem stowageref16_hasID.calls (a0 : Int) (r : Bool) (w : World) (h : stowageref16_hasID.f a0 = some r) :
  Calls Tryd.prog 42 #[.int .i64 a0] w fun e w' => e = .returned (.bool r) ∧ Drawn0 w w' := by
 have H := h
 clear h
 unfold stowageref16_hasID.f at H
 by_cases c2 : a0 = 5
 ·
  rw [if_pos c2] at H
  have c2b0 := beq_iff_eq.mpr c2
  have c2b1 := bne_eq_false_iff_eq.mpr c2
  clear c2
  obtain rfl := Option.some.inj H
  go_enter Tryd.func42, Tryd.ntmps42
  go_wp2
  go_ret
  exact ⟨by first | rfl | (simp; done) | (simp [*]; done), by repeat (first | exact Drawn0.refl _ | apply Drawn0.step)⟩
 ·
  rw [if_neg c2] at H
  have c2b0 := beq_eq_false_iff_ne.mpr c2
  have c2b1 := bne_iff_ne.mpr c2
  replace H := iteD H
  rcases H with ⟨c3b0, H⟩ | ⟨c3b0, H⟩
  ·
   obtain rfl := Option.some.inj H
   go_enter Tryd.func42, Tryd.ntmps42
   go_wp2
   go_ret
   exact ⟨by first | rfl | (simp; done) | (simp [*]; done), by repeat (first | exact Drawn0.refl _ | apply Drawn0.step)⟩
  ·
   obtain rfl := Option.some.inj H
   go_enter Tryd.func42, Tryd.ntmps42
   go_wp2
   go_ret
   exact ⟨by first | rfl | (simp; done) | (simp [*]; done), by repeat (first | exact Drawn0.refl _ | apply Drawn0.step)⟩
mutual
def stowageref03_Unhex.l0 : Nat → ByteArray → List Int → Int → Int → Option (ByteArray × Int)
 | 0, _, _, _, _ => none
 | k + 1, x0, x4, x5, x6 => if x6 < (x0.size : Int) then (if 0 ≤ x6 then (if (bt x0 x6) ≥ 48 then (stowageref03_Unhex.j1 k x0 x4 x5 x6 (-1) (decide ((bt x0 x6) ≤ 57))) else (stowageref03_Unhex.j1 k x0 x4 x5 x6 (-1) false)) else (none)) else (some (strOfNums x4, 0))
def stowageref03_Unhex.j1 : Nat → ByteArray → List Int → Int → Int → Int → Bool → Option (ByteArray × Int)
 | 0, _, _, _, _, _, _ => none
 | k + 1, x0, x4, x5, x6, x7, x27 => if x27 = true then (if 0 ≤ x6 then (if x6 < (x0.size : Int) then (stowageref03_Unhex.j2 k x0 x4 x5 x6 (wrap64 ((wrap64 (bt x0 x6)) - 48))) else (none)) else (none)) else (stowageref03_Unhex.j2 k x0 x4 x5 x6 x7)
def stowageref03_Unhex.j2 : Nat → ByteArray → List Int → Int → Int → Int → Option (ByteArray × Int)
 | 0, _, _, _, _, _ => none
 | k + 1, x0, x4, x5, x6, x7 => if 0 ≤ x6 then (if x6 < (x0.size : Int) then (if (bt x0 x6) ≥ 97 then (stowageref03_Unhex.j3 k x0 x4 x5 x6 x7 (decide ((bt x0 x6) ≤ 102))) else (stowageref03_Unhex.j3 k x0 x4 x5 x6 x7 false)) else (none)) else (none)
def stowageref03_Unhex.j3 : Nat → ByteArray → List Int → Int → Int → Int → Bool → Option (ByteArray × Int)
 | 0, _, _, _, _, _, _ => none
 | k + 1, x0, x4, x5, x6, x7, x42 => if x42 = true then (if 0 ≤ x6 then (if x6 < (x0.size : Int) then (stowageref03_Unhex.j4 k x0 x4 x5 x6 (wrap64 ((wrap64 (bt x0 x6)) - 87))) else (none)) else (none)) else (stowageref03_Unhex.j4 k x0 x4 x5 x6 x7)
def stowageref03_Unhex.j4 : Nat → ByteArray → List Int → Int → Int → Int → Option (ByteArray × Int)
 | 0, _, _, _, _, _ => none
 | k + 1, x0, x4, x5, x6, x7 => if x7 < 0 then (some ((⟨#[]⟩ : ByteArray), 3)) else (if (Int.tmod x6 2) = 1 then (if x4.length < 140737488355328 then (stowageref03_Unhex.l0 k x0 (x4 ++ [(wrap64 ((wrap64 ((Int.tmod x5 16) * 16)) + x7)) % 256]) (wrap64 ((wrap64 ((Int.tmod x5 16) * 16)) + x7)) (wrap64 (x6 + 1))) else (none)) else (stowageref03_Unhex.l0 k x0 x4 (wrap64 ((wrap64 ((Int.tmod x5 16) * 16)) + x7)) (wrap64 (x6 + 1))))
end
def stowageref03_Unhex.f (k : Nat) (a0 : ByteArray) : Option (ByteArray × Int) := if ((a0.size : Int) % 2) = 0 then (stowageref03_Unhex.l0 k a0 ([] : List Int) 0 0) else (some ((⟨#[]⟩ : ByteArray), 3))
theorem stowageref03_Unhex.mono_l : ∀ k, (∀ y0 y1 y2 y3, LeO (stowageref03_Unhex.l0 k y0 y1 y2 y3) (stowageref03_Unhex.l0 (k + 1) y0 y1 y2 y3)) ∧ (∀ y0 y1 y2 y3 y4 y5, LeO (stowageref03_Unhex.j1 k y0 y1 y2 y3 y4 y5) (stowageref03_Unhex.j1 (k + 1) y0 y1 y2 y3 y4 y5)) ∧ (∀ y0 y1 y2 y3 y4, LeO (stowageref03_Unhex.j2 k y0 y1 y2 y3 y4) (stowageref03_Unhex.j2 (k + 1) y0 y1 y2 y3 y4)) ∧ (∀ y0 y1 y2 y3 y4 y5, LeO (stowageref03_Unhex.j3 k y0 y1 y2 y3 y4 y5) (stowageref03_Unhex.j3 (k + 1) y0 y1 y2 y3 y4 y5)) ∧ (∀ y0 y1 y2 y3 y4, LeO (stowageref03_Unhex.j4 k y0 y1 y2 y3 y4) (stowageref03_Unhex.j4 (k + 1) y0 y1 y2 y3 y4))
 | 0 => ⟨fun _ _ _ _ r h => by simp [stowageref03_Unhex.l0] at h, fun _ _ _ _ _ _ r h => by simp [stowageref03_Unhex.j1] at h, fun _ _ _ _ _ r h => by simp [stowageref03_Unhex.j2] at h, fun _ _ _ _ _ _ r h => by simp [stowageref03_Unhex.j3] at h, fun _ _ _ _ _ r h => by simp [stowageref03_Unhex.j4] at h⟩
 | k + 1 => by
  obtain ⟨ih0, ih1, ih2, ih3, ih4⟩ := stowageref03_Unhex.mono_l k
  refine ⟨?_, ?_, ?_, ?_, ?_⟩
  all_goals intros
  all_goals first | unfold stowageref03_Unhex.l0 | unfold stowageref03_Unhex.j1 | unfold stowageref03_Unhex.j2 | unfold stowageref03_Unhex.j3 | unfold stowageref03_Unhex.j4
  all_goals repeat' (with_reducible first | exact ih0 _ _ _ _ | exact ih1 _ _ _ _ _ _ | exact ih2 _ _ _ _ _ | exact ih3 _ _ _ _ _ _ | exact ih4 _ _ _ _ _ | exact LeO.refl _ | exact LeO.none _ | refine LeO.ite ?_ ?_ | refine LeO.bind ?_ (fun _ => ?_))
theorem stowageref03_Unhex.mono : ∀ a0 k, LeO (stowageref03_Unhex.f k a0) (stowageref03_Unhex.f (k + 1) a0) := by
 intro a0 k
 obtain ⟨ih0, ih1, ih2, ih3, ih4⟩ := stowageref03_Unhex.mono_l k
 unfold stowageref03_Unhex.f
 repeat' (with_reducible first | exact ih0 _ _ _ _ | exact ih1 _ _ _ _ _ _ | exact ih2 _ _ _ _ _ | exact ih3 _ _ _ _ _ _ | exact ih4 _ _ _ _ _ | exact LeO.refl _ | exact LeO.none _ | refine LeO.ite ?_ ?_ | refine LeO.bind ?_ (fun _ => ?_))
set_option maxHeartbeats 8000000 in
set_option maxRecDepth 100000 in
theorem stowageref03_Unhex.calls (k : Nat) (a0 : ByteArray) (r1 : ByteArray) (r2 : Int) (w : World) (h : stowageref03_Unhex.f k a0 = some (r1, r2)) :
  Calls Tryd.prog 76 #[.string a0] w fun e w' => e = .returned (.tuple #[.string r1, .int .i64 r2]) ∧ Below w.heap.size w w' := by
 have HB := am (Below.refl w.heap.size w)
 have H := h
 clear h
 unfold stowageref03_Unhex.f at H
 by_cases c2 : ((a0.size : Int) % 2) = 0
 ·
  rw [if_pos c2] at H
  have c2b0 := beq_iff_eq.mpr c2
  have c2b1 := bne_eq_false_iff_eq.mpr c2
  clear c2
  have H' := am H
  clear H
  go_enter Tryd.func76, Tryd.ntmps76
  go_wp2
  go_loopg [4, 5, 6] k (fun kq v4 v5 v6 w' => ∃ (x4_1 : List Int) (x5_1 : Int) (x6_1 : Int), v5 = .int .i64 x5_1 ∧ v6 = .int .i64 x6_1 ∧ Aside0 (stowageref03_Unhex.l0 kq a0 x4_1 x5_1 x6_1 = some (r1, r2)) ∧ Aside0 (kq ≤ k) ∧ Aside0 (Kd.R (Kd.int .u8) 5 w' w.heap.size (fun _ => True) v4 x4_1) ∧ Aside0 (Below w.heap.size w w'))
  case atStart => exact ⟨(([] : List Int)), (0), (0), rs, rs, H', ⟨Nat.le_refl _⟩, ⟨niR⟩, ⟨bw HB.out⟩⟩
  case round =>
   clear H'
   try clear c2
   try clear c2b0
   try clear c2b1
   obtain ⟨x4_1, x5_1, x6_1, rfl, rfl, HA, HK1, HO_4, HB⟩ := hrel
   cases gk with
   | zero => exact absurd HA.out (by simp [stowageref03_Unhex.l0])
   | succ k1 =>
    have H := HA.out
    clear HA
    simp only [stowageref03_Unhex.l0] at H
    replace H := iteD H
    rcases H with ⟨c3b0, H⟩ | ⟨c3b0, H⟩
    ·
     have HC4 := am H
     clear H
     go_upto_region 9 with (fail)
     go_cut [27] (fun v27 wc => ∃ (kq : Nat) (x27_3 : Bool), v27 = .bool x27_3 ∧ Aside0 (stowageref03_Unhex.j1 kq a0 x4_1 x5_1 x6_1 (-1) x27_3 = some (r1, r2)) ∧ Aside0 (kq ≤ k1) ∧ Aside0 (Kd.R (Kd.int .u8) 5 wc w.heap.size (fun _ => True) u4 x4_1) ∧ Aside0 (Below w.heap.size w wc))
     case first =>
      have H := HC4.out
      clear HC4
      replace H := iteD H
      rcases H with ⟨c5b0, H⟩ | ⟨_, H⟩
      ·
       (first | rw [c5b0] | (simp only [i64_w, i32_w]; rw [c5b0]) | skip)
       replace H := iteD H
       rcases H with ⟨c7b0, H⟩ | ⟨c7b0, H⟩
       ·
        have H' := am H
        clear H
        have p6 := pz x6_1
        have q6 := pl x6_1 (a0.size : Int)
        have hx6 := bt_at a0 x6_1
        have p8 := pz x6_1
        have q8 := pl x6_1 (a0.size : Int)
        have hx8 := bt_at a0 x6_1
        go_wp2
        go_meet
        case rel => exact ⟨_, (decide ((bt a0 x6_1) ≤ 57)), rs, H', ⟨by have := HK1.out; first | omega | exact Nat.le_refl _⟩, ⟨kR HO_4.out⟩, ⟨bw HB.out⟩⟩
       ·
        have H' := am H
        clear H
        have p6 := pz x6_1
        have q6 := pl x6_1 (a0.size : Int)
        have hx6 := bt_at a0 x6_1
        go_wp2
        go_meet
        case rel => exact ⟨_, (false), rs, H', ⟨by have := HK1.out; first | omega | exact Nat.le_refl _⟩, ⟨kR HO_4.out⟩, ⟨bw HB.out⟩⟩
      ·
       exact absurd H (by simp)
     case rest =>
      clear HC4
      try clear c2
      try clear c2b0
      try clear c2b1
      try clear c3b0
      obtain ⟨kq, x27_3, rfl, HA, HJ3, HO_4, HB⟩ := hcut
      cases kq with
      | zero => exact absurd HA.out (by simp [stowageref03_Unhex.j1])
      | succ kj3 =>
       have H := HA.out
       clear HA
       simp only [stowageref03_Unhex.j1] at H
       have HC9 := am H
       clear H
       go_upto_if 27 with (fail)
       go_cut [7] (fun v7 wc => ∃ (kq : Nat) (x7_8 : Int), v7 = .int .i64 x7_8 ∧ Aside0 (stowageref03_Unhex.j2 kq a0 x4_1 x5_1 x6_1 x7_8 = some (r1, r2)) ∧ Aside0 (kq ≤ kj3) ∧ Aside0 (Kd.R (Kd.int .u8) 5 wc w.heap.size (fun _ => True) u4 x4_1) ∧ Aside0 (Below w.heap.size w wc))
       case first =>
        have H := HC9.out
        clear HC9
        by_cases c10 : x27_3 = true
        ·
         subst c10
         rw [if_pos rfl] at H
         replace H := iteD H
         rcases H with ⟨c11b0, H⟩ | ⟨_, H⟩
         ·
          (first | rw [c11b0] | (simp only [i64_w, i32_w]; rw [c11b0]) | skip)
          replace H := iteD H
          rcases H with ⟨c12b0, H⟩ | ⟨_, H⟩
          ·
           have H' := am H
           clear H
           have p13 := pz x6_1
           have q13 := pl x6_1 (a0.size : Int)
           have hx13 := bt_at a0 x6_1
           go_wp2
           go_meet
           case rel => exact ⟨_, (wrap64 ((wrap64 (bt a0 x6_1)) - 48)), rs, H', ⟨by have := HK1.out; have := HJ3.out; first | omega | exact Nat.le_refl _⟩, ⟨kR HO_4.out⟩, ⟨bw HB.out⟩⟩
          ·
           exact absurd H (by simp)
         ·
          exact absurd H (by simp)
        ·
         replace c10 := Bool.eq_false_iff.mpr c10
         subst c10
         rw [if_neg (show ¬ (false = true) by decide)] at H
         have H' := am H
         clear H
         go_wp2
         go_meet
         case rel => exact ⟨_, ((-1)), rs, H', ⟨by have := HK1.out; have := HJ3.out; first | omega | exact Nat.le_refl _⟩, ⟨kR HO_4.out⟩, ⟨bw HB.out⟩⟩
       case rest =>
        clear HC9
        try clear c2
        try clear c2b0
        try clear c2b1
        try clear c3b0
        obtain ⟨kq, x7_8, rfl, HA, HJ8, HO_4, HB⟩ := hcut
        cases kq with
        | zero => exact absurd HA.out (by simp [stowageref03_Unhex.j2])
        | succ kj8 =>
         have H := HA.out
         clear HA
         simp only [stowageref03_Unhex.j2] at H
         have HC14 := am H
         clear H
         go_upto_region 11 with (fail)
         go_cut [42] (fun v42 wc => ∃ (kq : Nat) (x42_13 : Bool), v42 = .bool x42_13 ∧ Aside0 (stowageref03_Unhex.j3 kq a0 x4_1 x5_1 x6_1 x7_8 x42_13 = some (r1, r2)) ∧ Aside0 (kq ≤ kj8) ∧ Aside0 (Kd.R (Kd.int .u8) 5 wc w.heap.size (fun _ => True) u4 x4_1) ∧ Aside0 (Below w.heap.size w wc))
         case first =>
          have H := HC14.out
          clear HC14
          replace H := iteD H
          rcases H with ⟨c15b0, H⟩ | ⟨_, H⟩
          ·
           (first | rw [c15b0] | (simp only [i64_w, i32_w]; rw [c15b0]) | skip)
           replace H := iteD H
           rcases H with ⟨c16b0, H⟩ | ⟨_, H⟩
           ·
            replace H := iteD H
            rcases H with ⟨c18b0, H⟩ | ⟨c18b0, H⟩
            ·
             have H' := am H
             clear H
             have p17 := pz x6_1
             have q17 := pl x6_1 (a0.size : Int)
             have hx17 := bt_at a0 x6_1
             have p19 := pz x6_1
             have q19 := pl x6_1 (a0.size : Int)
             have hx19 := bt_at a0 x6_1
             go_wp2
             go_meet
             case rel => exact ⟨_, (decide ((bt a0 x6_1) ≤ 102)), rs, H', ⟨by have := HK1.out; have := HJ3.out; have := HJ8.out; first | omega | exact Nat.le_refl _⟩, ⟨kR HO_4.out⟩, ⟨bw HB.out⟩⟩
            ·
             have H' := am H
             clear H
             have p17 := pz x6_1
             have q17 := pl x6_1 (a0.size : Int)
             have hx17 := bt_at a0 x6_1
             go_wp2
             go_meet
             case rel => exact ⟨_, (false), rs, H', ⟨by have := HK1.out; have := HJ3.out; have := HJ8.out; first | omega | exact Nat.le_refl _⟩, ⟨kR HO_4.out⟩, ⟨bw HB.out⟩⟩
           ·
            exact absurd H (by simp)
          ·
           exact absurd H (by simp)
         case rest =>
          clear HC14
          try clear c2
          try clear c2b0
          try clear c2b1
          try clear c3b0
          obtain ⟨kq, x42_13, rfl, HA, HJ13, HO_4, HB⟩ := hcut
          cases kq with
          | zero => exact absurd HA.out (by simp [stowageref03_Unhex.j3])
          | succ kj13 =>
           have H := HA.out
           clear HA
           simp only [stowageref03_Unhex.j3] at H
           have HC20 := am H
           clear H
           go_upto_if 42 with (fail)
           go_cut [7] (fun v7 wc => ∃ (kq : Nat) (x7_19 : Int), v7 = .int .i64 x7_19 ∧ Aside0 (stowageref03_Unhex.j4 kq a0 x4_1 x5_1 x6_1 x7_19 = some (r1, r2)) ∧ Aside0 (kq ≤ kj13) ∧ Aside0 (Kd.R (Kd.int .u8) 5 wc w.heap.size (fun _ => True) u4 x4_1) ∧ Aside0 (Below w.heap.size w wc))
           case first =>
            have H := HC20.out
            clear HC20
            by_cases c21 : x42_13 = true
            ·
             subst c21
             rw [if_pos rfl] at H
             replace H := iteD H
             rcases H with ⟨c22b0, H⟩ | ⟨_, H⟩
             ·
              (first | rw [c22b0] | (simp only [i64_w, i32_w]; rw [c22b0]) | skip)
              replace H := iteD H
              rcases H with ⟨c23b0, H⟩ | ⟨_, H⟩
              ·
               have H' := am H
               clear H
               have p24 := pz x6_1
               have q24 := pl x6_1 (a0.size : Int)
               have hx24 := bt_at a0 x6_1
               go_wp2
               go_meet
               case rel => exact ⟨_, (wrap64 ((wrap64 (bt a0 x6_1)) - 87)), rs, H', ⟨by have := HK1.out; have := HJ3.out; have := HJ8.out; have := HJ13.out; first | omega | exact Nat.le_refl _⟩, ⟨kR HO_4.out⟩, ⟨bw HB.out⟩⟩
              ·
               exact absurd H (by simp)
             ·
              exact absurd H (by simp)
            ·
             replace c21 := Bool.eq_false_iff.mpr c21
             subst c21
             rw [if_neg (show ¬ (false = true) by decide)] at H
             have H' := am H
             clear H
             go_wp2
             go_meet
             case rel => exact ⟨_, (x7_8), rs, H', ⟨by have := HK1.out; have := HJ3.out; have := HJ8.out; have := HJ13.out; first | omega | exact Nat.le_refl _⟩, ⟨kR HO_4.out⟩, ⟨bw HB.out⟩⟩
           case rest =>
            clear HC20
            try clear c2
            try clear c2b0
            try clear c2b1
            try clear c3b0
            obtain ⟨kq, x7_19, rfl, HA, HJ19, HO_4, HB⟩ := hcut
            cases kq with
            | zero => exact absurd HA.out (by simp [stowageref03_Unhex.j4])
            | succ kj19 =>
             have H := HA.out
             clear HA
             simp only [stowageref03_Unhex.j4] at H
             replace H := iteD H
             rcases H with ⟨c25b0, H⟩ | ⟨c25b0, H⟩
             ·
              simp only [Option.some.injEq, Prod.mk.injEq] at H
              obtain ⟨rfl, rfl⟩ := H
              go_wp2
              go_ret2
              exact ⟨rf, bw HB.out⟩
             ·
              by_cases c26 : (Int.tmod x6_1 2) = 1
              ·
               rw [if_pos c26] at H
               have c26b0 := beq_iff_eq.mpr c26
               have c26b1 := bne_eq_false_iff_eq.mpr c26
               clear c26
               by_cases c27 : x4_1.length < 140737488355328
               ·
                rw [if_pos c27] at H
                have LMc27 := am c27
                clear c27
                obtain ⟨y230, hy230⟩ : ∃ y_ : List Int, y_ = (x4_1 ++ [(wrap64 ((wrap64 ((Int.tmod x5_1 16) * 16)) + x7_19)) % 256]) := ⟨_, rfl⟩
                replace H : (stowageref03_Unhex.l0 kj19 a0 y230 (wrap64 ((wrap64 ((Int.tmod x5_1 16) * 16)) + x7_19)) (wrap64 (x6_1 + 1))) = some (r1, r2) := by first | (rw [hy230]; with_reducible exact H) | (have H2_ := (Option.bind_some _ _).symm.trans H; rw [hy230]; with_reducible exact H2_) | (have H2_ := (Option.bind_some _ _).symm.trans H; with_reducible exact H2_) | with_reducible exact H | (rw [hy230]; exact H) | exact H
                have Ny230 := am hy230
                clear hy230
                have H' := am H
                clear H
                go_wp2_with (first | ((with_reducible refine gate_builtin (b := .append) (xs := #[.tmp 58, .tmp 61]) rfl ?_); at_builtin; refine Kd.R_append (Kd.int .u8) (w0 := w) w.heap.size rfl (.tmp 58) (.tmp 61) 101 5 (.int .u8 0) 1 rfl Tryd.underlying101 info5 rfl (by decide) (by omega) u4 x4_1 ((wrap64 ((wrap64 ((Int.tmod x5_1 16) * 16)) + x7_19)) % 256) [.int .u8 ((wrap64 ((wrap64 ((Int.tmod x5_1 16) * 16)) + x7_19)) % 256)] (fun _ => True) (fun _ => False) rfl rfl ?aP (fun _ hk => hk.elim) ?aF ?aO ?aB ?aS ?aL ?_; (case aP => exact rfl); (case aB => exact (bw HB.out)); (case aF => exact (fun _ _ => trivial)); (case aO => exact (kR HO_4.out)); (case aS => exact (below_size (bw HB.out))); (case aL => have := LMc27.out; omega); intro v231 w28 ho hb hg hat; rw [← Ny230.out] at ho; have n0_ := am (hb); have n1_ := am (ho); clear HB; clear HO_4; have HB := n0_; have HO232 := n1_; clear n0_ n1_; clear ho hb hg hat))
                go_roundg kj19
                case measure => have := HK1.out; have := HJ3.out; have := HJ8.out; have := HJ13.out; have := HJ19.out; omega
                case rel => exact ⟨(y230), (wrap64 ((wrap64 ((Int.tmod x5_1 16) * 16)) + x7_19)), (wrap64 (x6_1 + 1)), rs, rs, H', ⟨by have := HK1.out; have := HJ3.out; have := HJ8.out; have := HJ13.out; have := HJ19.out; omega⟩, ⟨kR HO232.out⟩, ⟨bw HB.out⟩⟩
               ·
                rw [if_neg c27] at H
                exact absurd H (by simp)
              ·
               rw [if_neg c26] at H
               have c26b0 := beq_eq_false_iff_ne.mpr c26
               have c26b1 := bne_iff_ne.mpr c26
               have H' := am H
               clear H
               go_wp2
               go_roundg kj19
               case measure => have := HK1.out; have := HJ3.out; have := HJ8.out; have := HJ13.out; have := HJ19.out; omega
               case rel => exact ⟨(x4_1), (wrap64 ((wrap64 ((Int.tmod x5_1 16) * 16)) + x7_19)), (wrap64 (x6_1 + 1)), rs, rs, H', ⟨by have := HK1.out; have := HJ3.out; have := HJ8.out; have := HJ13.out; have := HJ19.out; omega⟩, ⟨kR HO_4.out⟩, ⟨bw HB.out⟩⟩
    ·
     simp only [Option.some.injEq, Prod.mk.injEq] at H
     obtain ⟨rfl, rfl⟩ := H
     have hcv29 := own_string (P := Tryd.prog) Tryd.underlying101 Tryd.underlying5 Tryd.underlying9 (Kd.own_of_R HO_4.out)
     go_wp2
     go_ret2
     exact ⟨rf, bw HB.out⟩
 ·
  rw [if_neg c2] at H
  have c2b0 := beq_eq_false_iff_ne.mpr c2
  have c2b1 := bne_iff_ne.mpr c2
  simp only [Option.some.injEq, Prod.mk.injEq] at H
  obtain ⟨rfl, rfl⟩ := H
  go_enter Tryd.func76, Tryd.ntmps76
  go_wp2
  go_ret2
  exact ⟨rf, bw HB.out⟩
def stowageref06_May.f (k : Nat) (a0 : ByteArray) : Option (Bool) := (stowageref03_Unhex.f k a0).bind fun bt233 => (if bt233.2 = 0 then (some ((a0.size : Int) == 64)) else (some false))
theorem stowageref06_May.mono : ∀ a0 k, LeO (stowageref06_May.f k a0) (stowageref06_May.f (k + 1) a0) := by
 intro a0 k
 unfold stowageref06_May.f
 repeat' (with_reducible first | exact stowageref03_Unhex.mono _ _ | exact LeO.refl _ | exact LeO.none _ | refine LeO.ite ?_ ?_ | refine LeO.bind ?_ (fun _ => ?_))
set_option maxHeartbeats 8000000 in
set_option maxRecDepth 100000 in
theorem stowageref06_May.calls (k : Nat) (a0 : ByteArray) (r : Bool) (w : World) (h : stowageref06_May.f k a0 = some r) :
  Calls Tryd.prog 45 #[.string a0] w fun e w' => e = .returned (.bool r) ∧ Below w.heap.size w w' := by
 have HB := am (Below.refl w.heap.size w)
 have H := h
 clear h
 unfold stowageref06_May.f at H
 replace H := obE H
 obtain ⟨⟨t233, t234⟩, A2, H⟩ := H
 try dsimp only at H
 by_cases c3 : t234 = 0
 ·
  rw [if_pos c3] at H
  have c3b0 := beq_iff_eq.mpr c3
  have c3b1 := bne_eq_false_iff_eq.mpr c3
  clear c3
  obtain rfl := Option.some.inj H
  go_enter Tryd.func45, Tryd.ntmps45
  go_wp2_with (first | ((with_reducible refine gate_callee (f := 76) rfl ?_); refine goesL_ (some 7) rfl rfl Tryd.func76 (by kernel_rfl) rfl #[.string a0] rfl gl ?_; (with_reducible refine (stowageref03_Unhex.calls k a0 t233 t234 _ A2.out).mono ?_); rintro e w4 ⟨rfl, hb⟩; refine ⟨_, rfl, ?_⟩; replace HB := am (below_step (bw HB.out) hb); (try clear hb)))
  go_ret
  exact ⟨rf, bw HB.out⟩
 ·
  rw [if_neg c3] at H
  have c3b0 := beq_eq_false_iff_ne.mpr c3
  have c3b1 := bne_iff_ne.mpr c3
  obtain rfl := Option.some.inj H
  go_enter Tryd.func45, Tryd.ntmps45
  go_wp2_with (first | ((with_reducible refine gate_callee (f := 76) rfl ?_); refine goesL_ (some 7) rfl rfl Tryd.func76 (by kernel_rfl) rfl #[.string a0] rfl gl ?_; (with_reducible refine (stowageref03_Unhex.calls k a0 t233 t234 _ A2.out).mono ?_); rintro e w5 ⟨rfl, hb⟩; refine ⟨_, rfl, ?_⟩; replace HB := am (below_step (bw HB.out) hb); (try clear hb)))
  go_ret
  exact ⟨rf, bw HB.out⟩
end Go.Proofs.YtdidopoalmkhlaaDoor.Or
end
section
namespace Go.Proofs.YtdidopoalmkhlaaDoor.Or
open Go.RowKit Go.Proofs.YtdidopoalmkhlaaDoorW.PrintWords Go.Proofs.YtdidopoalmkhlaaDoorW.PrintLast Go.Proofs.YtdidopoalmkhlaaDoorW.PrintMore
attribute [local go_sem] max2_int min2_int max_two min_two max_three min_three max_four min_four
set_option linter.unusedVariables false
set_option linter.unusedSimpArgs false
def stowageref13_Pieces.l0 : Nat → List (S95) → Int → Int → Option (Int × Int)
 | 0, _, _, _ => none
 | k + 1, x0, x4, x5 => if x5 < (x0.length : Int) then (if 0 ≤ x5 then ((stowageref06_May.f k ((rd_T95 x0 x5).f0)).bind fun t236 => (if t236 = true then (if ((rd_T95 x0 x5).f1) < 1 then (some (0, 1)) else (if ((rd_T95 x0 x5).f1) > 4096 then (some (0, 1)) else (stowageref13_Pieces.l0 k x0 (wrap64 (x4 + ((rd_T95 x0 x5).f1))) (wrap64 (x5 + 1))))) else (some (0, 1)))) else (none)) else (if (x0.length : Int) > 512 then (some (0, 1)) else (some (x4, 0)))
def stowageref13_Pieces.f (k : Nat) (l0 : List (S95)) : Option (Int × Int) := stowageref13_Pieces.l0 k l0 0 0
theorem stowageref13_Pieces.mono_l : ∀ k, (∀ y0 y1 y2, LeO (stowageref13_Pieces.l0 k y0 y1 y2) (stowageref13_Pieces.l0 (k + 1) y0 y1 y2))
 | 0 => fun _ _ _ r h => by simp [stowageref13_Pieces.l0] at h
 | k + 1 => by
  have ih0 := stowageref13_Pieces.mono_l k
  ·
   intro y0 y1 y2
   unfold stowageref13_Pieces.l0
   repeat' (with_reducible first | exact ih0 _ _ _ | exact stowageref06_May.mono _ _ | exact LeO.refl _ | exact LeO.none _ | refine LeO.ite ?_ ?_ | refine LeO.bind ?_ (fun _ => ?_))
theorem stowageref13_Pieces.mono : ∀ a0 k, LeO (stowageref13_Pieces.f k a0) (stowageref13_Pieces.f (k + 1) a0) := by
 intro a0 k
 have ih0 := stowageref13_Pieces.mono_l k
 unfold stowageref13_Pieces.f
 repeat' (with_reducible first | exact ih0 _ _ _ | exact stowageref06_May.mono _ _ | exact LeO.refl _ | exact LeO.none _ | refine LeO.ite ?_ ?_ | refine LeO.bind ?_ (fun _ => ?_))
set_option maxHeartbeats 8000000 in
set_option maxRecDepth 100000 in
theorem stowageref13_Pieces.calls (k : Nat) (A0 : Option Addr) (c0 : Nat) (l0 : List (S95)) (r1 : Int) (r2 : Int) (w : World) (hr0 : Kd.C k95 w A0 l0.length l0) (hc0 : l0.length ≤ c0) (h : stowageref13_Pieces.f k l0 = some (r1, r2)) :
  Calls Tryd.prog 43 #[.slice A0 l0.length c0] w fun e w' => e = .returned (.tuple #[.int .i64 r1, .int .i64 r2]) ∧ Below w.heap.size w w' := by
 have HR0 := am hr0
 have HC0 := am hc0
 clear hr0 hc0
 have HB := am (Below.refl w.heap.size w)
 have H := h
 clear h
 unfold stowageref13_Pieces.f at H
 have H' := am H
 clear H
 go_enter Tryd.func43, Tryd.ntmps43
 go_wp2
 go_loopg [4, 5] k (fun kq v4 v5 w' => ∃ (x4_1 : Int) (x5_1 : Int), v4 = .int .i64 x4_1 ∧ v5 = .int .i64 x5_1 ∧ Aside0 (stowageref13_Pieces.l0 kq l0 x4_1 x5_1 = some (r1, r2)) ∧ Aside0 (kq ≤ k) ∧ Aside0 (Below w.heap.size w w'))
 case atStart => exact ⟨(0), (0), rs, rs, H', ⟨Nat.le_refl _⟩, ⟨bw HB.out⟩⟩
 case round =>
  clear H'
  obtain ⟨x4_1, x5_1, rfl, rfl, HA, HK1, HB⟩ := hrel
  cases gk with
  | zero => exact absurd HA.out (by simp [stowageref13_Pieces.l0])
  | succ k1 =>
   have H := HA.out
   clear HA
   simp only [stowageref13_Pieces.l0] at H
   replace H := iteD H
   rcases H with ⟨c2b0, H⟩ | ⟨c2b0, H⟩
   ·
    replace H := iteD H
    rcases H with ⟨c3b0, H⟩ | ⟨_, H⟩
    ·
     replace H := obE H
     obtain ⟨t236, A4, H⟩ := H
     by_cases c5 : t236 = true
     ·
      subst c5
      rw [if_pos rfl] at H
      replace H := iteD H
      rcases H with ⟨c6b0, H⟩ | ⟨c6b0, H⟩
      ·
       simp only [Option.some.injEq, Prod.mk.injEq] at H
       obtain ⟨rfl, rfl⟩ := H
       have p235 := pz x5_1
       have q235 := pl x5_1 (l0.length : Int)
       obtain ⟨ad235, e235, hx235_0, hx235_1⟩ := at_T95 HR0.out x5_1 (of_eq_true p235) (of_eq_true q235)
       cases e235
       replace hx235_0 := bc HB.out hx235_0
       replace hx235_1 := bc HB.out hx235_1
       go_wp2_with (first | ((with_reducible refine gate_callee (f := 45) rfl ?_); refine goesL_ (some 17) rfl rfl Tryd.func45 (by kernel_rfl) rfl #[.string ((rd_T95 l0 x5_1).f0)] rfl gl ?_; (with_reducible refine (stowageref06_May.calls k1 ((rd_T95 l0 x5_1).f0) true _ A4.out).mono ?_); rintro e w7 ⟨rfl, hb⟩; refine ⟨_, rfl, ?_⟩; replace HB := am (below_step (bw HB.out) hb); (try clear hb); have p237 : 0 ≤ (x5_1 : Int) := of_decide_eq_true asm; have q237 : x5_1 < (l0.length : Int) := of_decide_eq_true asm; obtain ⟨ad237, e237, hx237_0, hx237_1⟩ := at_T95 HR0.out x5_1 p237 q237; obtain rfl : ad235 = ad237 := (by injection e237); replace hx237_0 := bc HB.out hx237_0; replace hx237_1 := bc HB.out hx237_1; replace p237 := eq_true p237; replace q237 := eq_true q237))
       go_ret2
       exact ⟨rf, bw HB.out⟩
      ·
       replace H := iteD H
       rcases H with ⟨c8b0, H⟩ | ⟨c8b0, H⟩
       ·
        simp only [Option.some.injEq, Prod.mk.injEq] at H
        obtain ⟨rfl, rfl⟩ := H
        have p235 := pz x5_1
        have q235 := pl x5_1 (l0.length : Int)
        obtain ⟨ad235, e235, hx235_0, hx235_1⟩ := at_T95 HR0.out x5_1 (of_eq_true p235) (of_eq_true q235)
        cases e235
        replace hx235_0 := bc HB.out hx235_0
        replace hx235_1 := bc HB.out hx235_1
        go_wp2_with (first | ((with_reducible refine gate_callee (f := 45) rfl ?_); refine goesL_ (some 17) rfl rfl Tryd.func45 (by kernel_rfl) rfl #[.string ((rd_T95 l0 x5_1).f0)] rfl gl ?_; (with_reducible refine (stowageref06_May.calls k1 ((rd_T95 l0 x5_1).f0) true _ A4.out).mono ?_); rintro e w9 ⟨rfl, hb⟩; refine ⟨_, rfl, ?_⟩; replace HB := am (below_step (bw HB.out) hb); (try clear hb); have p237 : 0 ≤ (x5_1 : Int) := of_decide_eq_true asm; have q237 : x5_1 < (l0.length : Int) := of_decide_eq_true asm; obtain ⟨ad237, e237, hx237_0, hx237_1⟩ := at_T95 HR0.out x5_1 p237 q237; obtain rfl : ad235 = ad237 := (by injection e237); replace hx237_0 := bc HB.out hx237_0; replace hx237_1 := bc HB.out hx237_1; replace p237 := eq_true p237; replace q237 := eq_true q237; have p238 : 0 ≤ (x5_1 : Int) := of_decide_eq_true asm; have q238 : x5_1 < (l0.length : Int) := of_decide_eq_true asm; obtain ⟨ad238, e238, hx238_0, hx238_1⟩ := at_T95 HR0.out x5_1 p238 q238; obtain rfl : ad235 = ad238 := (by injection e238); replace hx238_0 := bc HB.out hx238_0; replace hx238_1 := bc HB.out hx238_1; replace p238 := eq_true p238; replace q238 := eq_true q238))
        go_ret2
        exact ⟨rf, bw HB.out⟩
       ·
        have H' := am H
        clear H
        have p235 := pz x5_1
        have q235 := pl x5_1 (l0.length : Int)
        obtain ⟨ad235, e235, hx235_0, hx235_1⟩ := at_T95 HR0.out x5_1 (of_eq_true p235) (of_eq_true q235)
        cases e235
        replace hx235_0 := bc HB.out hx235_0
        replace hx235_1 := bc HB.out hx235_1
        go_wp2_with (first | ((with_reducible refine gate_callee (f := 45) rfl ?_); refine goesL_ (some 17) rfl rfl Tryd.func45 (by kernel_rfl) rfl #[.string ((rd_T95 l0 x5_1).f0)] rfl gl ?_; (with_reducible refine (stowageref06_May.calls k1 ((rd_T95 l0 x5_1).f0) true _ A4.out).mono ?_); rintro e w10 ⟨rfl, hb⟩; refine ⟨_, rfl, ?_⟩; replace HB := am (below_step (bw HB.out) hb); (try clear hb); have p237 : 0 ≤ (x5_1 : Int) := of_decide_eq_true asm; have q237 : x5_1 < (l0.length : Int) := of_decide_eq_true asm; obtain ⟨ad237, e237, hx237_0, hx237_1⟩ := at_T95 HR0.out x5_1 p237 q237; obtain rfl : ad235 = ad237 := (by injection e237); replace hx237_0 := bc HB.out hx237_0; replace hx237_1 := bc HB.out hx237_1; replace p237 := eq_true p237; replace q237 := eq_true q237; have p238 : 0 ≤ (x5_1 : Int) := of_decide_eq_true asm; have q238 : x5_1 < (l0.length : Int) := of_decide_eq_true asm; obtain ⟨ad238, e238, hx238_0, hx238_1⟩ := at_T95 HR0.out x5_1 p238 q238; obtain rfl : ad235 = ad238 := (by injection e238); replace hx238_0 := bc HB.out hx238_0; replace hx238_1 := bc HB.out hx238_1; replace p238 := eq_true p238; replace q238 := eq_true q238; have p239 : 0 ≤ (x5_1 : Int) := of_decide_eq_true asm; have q239 : x5_1 < (l0.length : Int) := of_decide_eq_true asm; obtain ⟨ad239, e239, hx239_0, hx239_1⟩ := at_T95 HR0.out x5_1 p239 q239; obtain rfl : ad235 = ad239 := (by injection e239); replace hx239_0 := bc HB.out hx239_0; replace hx239_1 := bc HB.out hx239_1; replace p239 := eq_true p239; replace q239 := eq_true q239))
        go_roundg k1
        case measure => have := HK1.out; omega
        case rel => exact ⟨(wrap64 (x4_1 + ((rd_T95 l0 x5_1).f1))), (wrap64 (x5_1 + 1)), rs, rs, H', ⟨by have := HK1.out; omega⟩, ⟨bw HB.out⟩⟩
     ·
      replace c5 := Bool.eq_false_iff.mpr c5
      subst c5
      rw [if_neg (show ¬ (false = true) by decide)] at H
      simp only [Option.some.injEq, Prod.mk.injEq] at H
      obtain ⟨rfl, rfl⟩ := H
      have p235 := pz x5_1
      have q235 := pl x5_1 (l0.length : Int)
      obtain ⟨ad235, e235, hx235_0, hx235_1⟩ := at_T95 HR0.out x5_1 (of_eq_true p235) (of_eq_true q235)
      cases e235
      replace hx235_0 := bc HB.out hx235_0
      replace hx235_1 := bc HB.out hx235_1
      go_wp2_with (first | ((with_reducible refine gate_callee (f := 45) rfl ?_); refine goesL_ (some 17) rfl rfl Tryd.func45 (by kernel_rfl) rfl #[.string ((rd_T95 l0 x5_1).f0)] rfl gl ?_; (with_reducible refine (stowageref06_May.calls k1 ((rd_T95 l0 x5_1).f0) false _ A4.out).mono ?_); rintro e w11 ⟨rfl, hb⟩; refine ⟨_, rfl, ?_⟩; replace HB := am (below_step (bw HB.out) hb); (try clear hb)))
      go_ret2
      exact ⟨rf, bw HB.out⟩
    ·
     exact absurd H (by simp)
   ·
    by_cases c12 : (l0.length : Int) > 512
    ·
     rw [if_pos c12] at H
     have c12b0 := decide_eq_true c12
     have c12b1 : decide (512 < l0.length) = true := decide_eq_true (by omega)
     clear c12
     simp only [Option.some.injEq, Prod.mk.injEq] at H
     obtain ⟨rfl, rfl⟩ := H
     go_wp2
     go_ret2
     exact ⟨rf, bw HB.out⟩
    ·
     rw [if_neg c12] at H
     have c12b0 := decide_eq_false c12
     have c12b1 : decide (512 < l0.length) = false := decide_eq_false (by omega)
     clear c12
     simp only [Option.some.injEq, Prod.mk.injEq] at H
     obtain ⟨rfl, rfl⟩ := H
     go_wp2
     go_ret2
     exact ⟨rf, bw HB.out⟩
def stowageref16_hasSum.f (a0 : Int) : Option (Bool) := if a0 = 3 then (some true) else (some (a0 == 7))
set_option maxHeartbeats 8000000 in
set_option maxRecDepth 100000 in
theorem stowageref16_hasSum.calls (a0 : Int) (r : Bool) (w : World) (h : stowageref16_hasSum.f a0 = some r) :
  Calls Tryd.prog 44 #[.int .i64 a0] w fun e w' => e = .returned (.bool r) ∧ Drawn0 w w' := by
 have H := h
 clear h
 unfold stowageref16_hasSum.f at H
 by_cases c2 : a0 = 3
 ·
  rw [if_pos c2] at H
  have c2b0 := beq_iff_eq.mpr c2
  have c2b1 := bne_eq_false_iff_eq.mpr c2
  clear c2
  obtain rfl := Option.some.inj H
  go_enter Tryd.func44, Tryd.ntmps44
  go_wp2
  go_ret
  exact ⟨by first | rfl | (simp; done) | (simp [*]; done), by repeat (first | exact Drawn0.refl _ | apply Drawn0.step)⟩
 ·
  rw [if_neg c2] at H
  have c2b0 := beq_eq_false_iff_ne.mpr c2
  have c2b1 := bne_iff_ne.mpr c2
  obtain rfl := Option.some.inj H
  go_enter Tryd.func44, Tryd.ntmps44
  go_wp2
  go_ret
  exact ⟨by first | rfl | (simp; done) | (simp [*]; done), by repeat (first | exact Drawn0.refl _ | apply Drawn0.step)⟩
end Go.Proofs.YtdidopoalmkhlaaDoor.Or
end
