/- Merged of several texts of this session's by merge.py. -/
import Derived.Test.YtdidopoalmkhlaaDoorMt3
import Derived.Test.YtdidopoalmkhlaaDoorMt5
import Derived.Lib.Hide
import Derived.IntWalk
import Derived.Deep.QuietTactic
import Derived.BigQuiet
import Derived.OwnWalk
import Derived.Lib.Walk
import Derived.Deep.RegionWith
import Derived.Test.YtdidopoalmkhlaaDoorMt4
import Derived.Laws.Bits64b
section
namespace Go.Proofs.YtdidopoalmkhlaaDoor.Ot
open Go.RowKit Go.Proofs.YtdidopoalmkhlaaDoorW.PrintWords Go.Proofs.YtdidopoalmkhlaaDoorW.PrintLast Go.Proofs.YtdidopoalmkhlaaDoorW.PrintMore
attribute [local go_sem] max2_int min2_int max_two min_two max_three min_three max_four min_four
set_option linter.unusedVariables false
set_option linter.unusedSimpArgs false
def stowageref16_Digest.f (k : Nat) (a0_0 : Int) (a0_1 : ByteArray) (a0_2 : ByteArray) (a0_3 : ByteArray) (a0_4 : Int) (a0_5 : Int) (a0_6 : ByteArray) (l0_7 : List (S95)) (l0_8 : List (S61)) : Option (ByteArray × Int) := (stowageref16_Check.f k a0_0 a0_1 a0_2 a0_3 a0_4 a0_5 a0_6 l0_7 l0_8).bind fun t255 => (if t255 = 0 then ((stowageref16_Told.f k a0_0 (⟨#[]⟩ : ByteArray) a0_2 a0_3 a0_4 a0_5 a0_6 l0_7 l0_8).bind fun t256 => ((stowageref03_Tagged.f 67 (([t256] : List ByteArray))).bind fun t260 => ((stowageref03_Hex.f k t260).bind fun t261 => (some (t261, 0))))) else (some ((⟨#[]⟩ : ByteArray), 1)))
theorem stowageref16_Digest.mono : ∀ a0 a1 a2 a3 a4 a5 a6 a7 a8 k, LeO (stowageref16_Digest.f k a0 a1 a2 a3 a4 a5 a6 a7 a8) (stowageref16_Digest.f (k + 1) a0 a1 a2 a3 a4 a5 a6 a7 a8) := by
 intro a0 a1 a2 a3 a4 a5 a6 a7 a8 k
 unfold stowageref16_Digest.f
 repeat' (with_reducible first | exact stowageref03_Hex.mono _ _ | exact stowageref16_Check.mono _ _ _ _ _ _ _ _ _ _ | exact stowageref16_Told.mono _ _ _ _ _ _ _ _ _ _ | exact LeO.refl _ | exact LeO.none _ | refine LeO.ite ?_ ?_ | refine LeO.bind ?_ (fun _ => ?_))
set_option maxHeartbeats 8000000 in
set_option maxRecDepth 100000 in
theorem stowageref16_Digest.calls (k : Nat) (a0_0 : Int) (a0_1 : ByteArray) (a0_2 : ByteArray) (a0_3 : ByteArray) (a0_4 : Int) (a0_5 : Int) (a0_6 : ByteArray) (A0_7 : Option Addr) (c0_7 : Nat) (l0_7 : List (S95)) (A0_8 : Option Addr) (c0_8 : Nat) (l0_8 : List (S61)) (r1 : ByteArray) (r2 : Int) (w : World) (hr0_7 : Kd.C k95 w A0_7 l0_7.length l0_7) (hc0_7 : l0_7.length ≤ c0_7) (hr0_8 : Kd.C k61 w A0_8 l0_8.length l0_8) (hc0_8 : l0_8.length ≤ c0_8) (h : stowageref16_Digest.f k a0_0 a0_1 a0_2 a0_3 a0_4 a0_5 a0_6 l0_7 l0_8 = some (r1, r2)) :
  Calls Tryd.prog 12 #[.agg #[.int .i64 a0_0, .string a0_1, .string a0_2, .string a0_3, .int .i64 a0_4, .int .i64 a0_5, .string a0_6, .slice A0_7 l0_7.length c0_7, .slice A0_8 l0_8.length c0_8]] w fun e w' => e = .returned (.tuple #[.string r1, .int .i64 r2]) ∧ Below w.heap.size w w' := by
 have hu34 := Tryd.underlying34
 have HR0_7 := am hr0_7
 have HC0_7 := am hc0_7
 clear hr0_7 hc0_7
 have HR0_8 := am hr0_8
 have HC0_8 := am hc0_8
 clear hr0_8 hc0_8
 have HB := am (Below.refl w.heap.size w)
 have H := h
 clear h
 unfold stowageref16_Digest.f at H
 replace H := obE H
 obtain ⟨t255, A2, H⟩ := H
 by_cases c3 : t255 = 0
 ·
  rw [if_pos c3] at H
  have c3b0 := beq_iff_eq.mpr c3
  have c3b1 := bne_eq_false_iff_eq.mpr c3
  clear c3
  replace H := obE H
  obtain ⟨t256, A4, H⟩ := H
  obtain ⟨y257, hy257⟩ : ∃ y_ : List ByteArray, y_ = (([t256] : List ByteArray)) := ⟨_, rfl⟩
  replace H : ((stowageref03_Tagged.f 67 y257).bind fun t260 => ((stowageref03_Hex.f k t260).bind fun t261 => (some (t261, 0)))) = some (r1, r2) := by first | (rw [hy257]; with_reducible exact H) | (have H2_ := (Option.bind_some _ _).symm.trans H; rw [hy257]; with_reducible exact H2_) | (have H2_ := (Option.bind_some _ _).symm.trans H; with_reducible exact H2_) | with_reducible exact H | (rw [hy257]; exact H) | exact H
  have Ny257 := am hy257
  clear hy257
  replace H := obE H
  obtain ⟨t260, A5, H⟩ := H
  replace H := obE H
  obtain ⟨t261, A6, H⟩ := H
  simp only [Option.some.injEq, Prod.mk.injEq] at H
  obtain ⟨rfl, rfl⟩ := H
  go_enter Tryd.func12, Tryd.ntmps12
  go_wp2_with (first | ((with_reducible refine gate_dst (N := 1) rfl ?_); refine bx 1 #[.int .i64 a0_0, .string a0_1, .string a0_2, .string a0_3, .int .i64 a0_4, .int .i64 a0_5, .string a0_6, .slice A0_7 l0_7.length c0_7, .slice A0_8 l0_8.length c0_8] 34 ?_; intro gb254 hg w7 hbox hb; have BK254 := am (hbox); have GW254 := gsz hg HB.out; have GE254 := gsz hg HB.out; replace HB := am (below_step (bw HB.out) hb); clear hb hbox hg; obtain ⟨hcz8_0, hcz8_1, hcz8_2, hcz8_3, hcz8_4, hcz8_5, hcz8_6, hcz8_7, hcz8_8, hfz8_0, hfz8_1, hfz8_2, hfz8_3, hfz8_4, hfz8_5, hfz8_6, hfz8_7, hfz8_8⟩ := cz9 BK254.out) | ((with_reducible refine gate_callee (f := 15) rfl ?_); refine goesL_ (some 5) rfl rfl Tryd.func15 (by kernel_rfl) rfl #[.agg #[.int .i64 a0_0, .string a0_1, .string a0_2, .string a0_3, .int .i64 a0_4, .int .i64 a0_5, .string a0_6, .slice A0_7 l0_7.length c0_7, .slice A0_8 l0_8.length c0_8]] rfl gl ?_; (with_reducible refine (stowageref16_Check.calls k a0_0 a0_1 a0_2 a0_3 a0_4 a0_5 a0_6 _ _ l0_7 _ _ l0_8 t255 _ ?side1 ?side2 ?side3 ?side4 A2.out).mono ?_); (case side1 => exact kC (Kd.C_below HR0_7.out HB.out)); (case side2 => exact HC0_7.out); (case side3 => exact kC (Kd.C_below HR0_8.out HB.out)); (case side4 => exact HC0_8.out); rintro e w9 ⟨rfl, hb⟩; refine ⟨_, rfl, ?_⟩; replace BK254 := bb BK254.out hb; replace HB := am (below_step (bws HB.out) hb); (try clear hb); obtain ⟨hcz10_0, hcz10_1, hcz10_2, hcz10_3, hcz10_4, hcz10_5, hcz10_6, hcz10_7, hcz10_8, hfz10_0, hfz10_1, hfz10_2, hfz10_3, hfz10_4, hfz10_5, hfz10_6, hfz10_7, hfz10_8⟩ := cz9 BK254.out) | ((with_reducible refine gate_callee (f := 24) rfl ?_); refine goesL_ (some 9) rfl rfl Tryd.func24 (by kernel_rfl) rfl #[.agg #[.int .i64 a0_0, .string (⟨#[]⟩ : ByteArray), .string a0_2, .string a0_3, .int .i64 a0_4, .int .i64 a0_5, .string a0_6, .slice A0_7 l0_7.length c0_7, .slice A0_8 l0_8.length c0_8]] rfl gl ?_; (with_reducible refine (stowageref16_Told.calls k a0_0 (⟨#[]⟩ : ByteArray) a0_2 a0_3 a0_4 a0_5 a0_6 _ _ l0_7 _ _ l0_8 t256 _ ?side1 ?side2 ?side3 ?side4 A4.out).mono ?_); (case side1 => exact Kd.C_below HR0_7.out (bws HB.out)); (case side2 => exact HC0_7.out); (case side3 => exact Kd.C_below HR0_8.out (bws HB.out)); (case side4 => exact HC0_8.out); rintro e w11 ⟨rfl, hb⟩; refine ⟨_, rfl, ?_⟩; replace BK254 := am (blk_below (g := gb254) (o := .cells #[.int .i64 a0_0, .string (⟨#[]⟩ : ByteArray), .string a0_2, .string a0_3, .int .i64 a0_4, .int .i64 a0_5, .string a0_6, .slice A0_7 l0_7.length c0_7, .slice A0_8 l0_8.length c0_8] 34 (0, 0)) (bkp BK254.out) hb); replace HB := am (below_step (bws HB.out) hb); (try clear hb)) | ((with_reducible refine gate_dst (N := 10) rfl ?_); refine Kd.R_lit Kd.string _ 9 ?hg (N := 10) ?hd (xs := ([t256] : List ByteArray)) (inner := [.string t256]) (ok := fun _ => True) (okp := fun _ => True) ?hr ?hp (fun _ hk => hk) trivial (Below.refl _ _) (Nat.le_refl _) (by simp) ?_; (case hd => rfl); (case hg => rfl); (case hr => first | (go_simp; done) | (go_simp; rfl)); (case hp => exact (Reps.one (show Kd.M Kd.string _ _ _ t256 [.string t256] from rfl) (Reps.none _ _))); intro v258 w12 ho13 hb hg_ hnew_; clear hg_ hnew_; (first | rw [← Ny257.out] at ho13 | (simp only [Int.reduceToNat] at ho13; rw [← Ny257.out] at ho13)); have HO259 := am (Kd.R_lower ho13 (below_size (bws HB.out))); replace BK254 := bb BK254.out hb; replace HB := am (below_step (bws HB.out) hb); clear hb ho13; obtain ⟨Ao14, co14, eo14⟩ := Kd.R_slice HO259.out; subst eo14) | ((with_reducible refine gate_callee (f := 29) rfl ?_); refine goesL_ (some 11) rfl rfl Tryd.func29 (by kernel_rfl) rfl #[.int .u8 67, .slice Ao14 y257.length co14] rfl gl ?_; (with_reducible refine (stowageref03_Tagged.calls 67 _ _ y257 t260 _ ?side1 ?side2 A5.out).mono ?_); (case side1 => repeat (first | exact (Kd.R_reads' HO259.out).2.2 | (with_reducible refine Kd.C_alloc ?_ _) | (with_reducible refine Kd.C_drewN ?_ _) | (with_reducible refine Kd.C_drew ?_))); (case side2 => exact (Kd.R_reads' HO259.out).2.1); rintro e w15 ⟨rfl, hb⟩; refine ⟨_, rfl, ?_⟩; replace HO259 := am (Kd.R_below (kR HO259.out) hb); replace BK254 := bb BK254.out hb; replace HB := am (below_step (bws HB.out) hb); (try clear hb)) | ((with_reducible refine gate_callee (f := 28) rfl ?_); refine goesL_ (some 12) rfl rfl Tryd.func28 (by kernel_rfl) rfl #[.string t260] rfl gl ?_; (with_reducible refine (stowageref03_Hex.calls k t260 t261 _ A6.out).mono ?_); rintro e w16 ⟨rfl, hb⟩; refine ⟨_, rfl, ?_⟩; replace HO259 := am (Kd.R_below (kR HO259.out) hb); replace BK254 := bb BK254.out hb; replace HB := am (below_step (bws HB.out) hb); (try clear hb)))
  go_ret2
  exact ⟨rf, bws HB.out⟩
 ·
  rw [if_neg c3] at H
  have c3b0 := beq_eq_false_iff_ne.mpr c3
  have c3b1 := bne_iff_ne.mpr c3
  simp only [Option.some.injEq, Prod.mk.injEq] at H
  obtain ⟨rfl, rfl⟩ := H
  go_enter Tryd.func12, Tryd.ntmps12
  go_wp2_with (first | ((with_reducible refine gate_dst (N := 1) rfl ?_); refine bx 1 #[.int .i64 a0_0, .string a0_1, .string a0_2, .string a0_3, .int .i64 a0_4, .int .i64 a0_5, .string a0_6, .slice A0_7 l0_7.length c0_7, .slice A0_8 l0_8.length c0_8] 34 ?_; intro gb254 hg w17 hbox hb; have BK254 := am (hbox); have GW254 := gsz hg HB.out; have GE254 := gsz hg HB.out; replace HB := am (below_step (bw HB.out) hb); clear hb hbox hg; obtain ⟨hcz18_0, hcz18_1, hcz18_2, hcz18_3, hcz18_4, hcz18_5, hcz18_6, hcz18_7, hcz18_8, hfz18_0, hfz18_1, hfz18_2, hfz18_3, hfz18_4, hfz18_5, hfz18_6, hfz18_7, hfz18_8⟩ := cz9 BK254.out) | ((with_reducible refine gate_callee (f := 15) rfl ?_); refine goesL_ (some 5) rfl rfl Tryd.func15 (by kernel_rfl) rfl #[.agg #[.int .i64 a0_0, .string a0_1, .string a0_2, .string a0_3, .int .i64 a0_4, .int .i64 a0_5, .string a0_6, .slice A0_7 l0_7.length c0_7, .slice A0_8 l0_8.length c0_8]] rfl gl ?_; (with_reducible refine (stowageref16_Check.calls k a0_0 a0_1 a0_2 a0_3 a0_4 a0_5 a0_6 _ _ l0_7 _ _ l0_8 t255 _ ?side1 ?side2 ?side3 ?side4 A2.out).mono ?_); (case side1 => exact kC (Kd.C_below HR0_7.out HB.out)); (case side2 => exact HC0_7.out); (case side3 => exact kC (Kd.C_below HR0_8.out HB.out)); (case side4 => exact HC0_8.out); rintro e w19 ⟨rfl, hb⟩; refine ⟨_, rfl, ?_⟩; replace BK254 := bb BK254.out hb; replace HB := am (below_step (bws HB.out) hb); (try clear hb)))
  go_ret2
  exact ⟨rf, bws HB.out⟩
def IsS119 (w0 W : World) (g : Nat) (f0 : ByteArray) (f1 : Int) (f2 : Int) : Prop := W.heap[g]? = some (.cells #[.string f0, .int .i64 f1, .int .i64 f2] 119 (0, 0)) ∧ w0.heap.size ≤ g
theorem IsS119.grown {w0 W : World} {g : Nat} {f0 : ByteArray} {f1 : Int} {f2 : Int} {W1 : World} {row : Option Nat} (h : IsS119 w0 W g f0 f1 f2) (hw : W.grownBy W1 row) (hne : some g ≠ row) : IsS119 w0 W1 g f0 f1 f2 := by
 obtain ⟨hb, hg⟩ := h
 exact ⟨blk_grown hb hw hne, hg⟩
theorem IsS119.own_neN {w0 W : World} {g : Nat} {f0 : ByteArray} {f1 : Int} {f2 : Int} {α : Type} {d : Kd α} {e : Nat} {base : Nat} {ok : Nat → Prop} {v : Value} {xs : List α} (h : IsS119 w0 W g f0 f1 f2) (ho : Kd.N d e W base ok v xs) (ht : e ≠ 119) : some g ≠ v.ownBlock := by
 obtain ⟨hb, hg⟩ := h
 exact Kd.N_ne ho hb ht
theorem IsS119.fresh {w0 W : World} {g : Nat} {f0 : ByteArray} {f1 : Int} {f2 : Int} (h : IsS119 w0 W g f0 f1 f2) : ∀ k, W.heap.size ≤ k → k ≠ g := by
 obtain ⟨hb, hg⟩ := h
 exact Kd.freshB hb
theorem IsS119.kept {w0 W : World} {g : Nat} {f0 : ByteArray} {f1 : Int} {f2 : Int} {W1 : World} {S : Nat → Prop} (h : IsS119 w0 W g f0 f1 f2) (hk : Kept W W1 S) (hne : ¬ S g) : IsS119 w0 W1 g f0 f1 f2 := by
 obtain ⟨hb, hg⟩ := h
 exact ⟨blk_kept hb hk hne, hg⟩
theorem IsS119.below {w0 W : World} {g : Nat} {f0 : ByteArray} {f1 : Int} {f2 : Int} {W1 : World} (h : IsS119 w0 W g f0 f1 f2) (hw : Below W.heap.size W W1) : IsS119 w0 W1 g f0 f1 f2 := h.grown (grown_of_below hw none) (by simp)
theorem IsS119.alloc {w0 W : World} {g : Nat} {f0 : ByteArray} {f1 : Int} {f2 : Int} (h : IsS119 w0 W g f0 f1 f2) (o : Obj) : IsS119 w0 (W.alloc o) g f0 f1 f2 := h.below (below_alloc (Below.refl _ _) o)
theorem IsS119.drewN {w0 W : World} {g : Nat} {f0 : ByteArray} {f1 : Int} {f2 : Int} (h : IsS119 w0 W g f0 f1 f2) (m : Nat) : IsS119 w0 (W.drewN m) g f0 f1 f2 := h
theorem IsS119.drew {w0 W : World} {g : Nat} {f0 : ByteArray} {f1 : Int} {f2 : Int} (h : IsS119 w0 W g f0 f1 f2) : IsS119 w0 W.drew g f0 f1 f2 := h
theorem IsS119.at_ {w0 W : World} {g : Nat} {f0 : ByteArray} {f1 : Int} {f2 : Int} {w' : World} {m : Nat} (hq : W.drewN m = w') (h : IsS119 w0 W g f0 f1 f2) : IsS119 w0 w' g f0 f1 f2 := by subst hq; exact IsS119.drewN h m
theorem IsS119.apart {w0 W : World} {g : Nat} {f0 : ByteArray} {f1 : Int} {f2 : Int} {α : Type} {d : Kd α} {e : Nat} {base : Nat} {ok : Nat → Prop} {v : Value} {xs : List α} (h : IsS119 w0 W g f0 f1 f2) (ho : d.R e W base ok v xs) (ht : ∀ q, q ∈ e :: d.E → q ≠ 119) : d.R e W base (fun k => ok k ∧ k ≠ g) v xs := by
 obtain ⟨hb, hg⟩ := h
 exact Kd.R_types ho hb ht
theorem IsS119.own_ne {w0 W : World} {g : Nat} {f0 : ByteArray} {f1 : Int} {f2 : Int} {α : Type} {d : Kd α} {e : Nat} {base : Nat} {ok : Nat → Prop} {v : Value} {xs : List α} (h : IsS119 w0 W g f0 f1 f2) (ho : d.R e W base ok v xs) (ht : e ≠ 119) : some g ≠ v.ownBlock := by
 obtain ⟨hb, hg⟩ := h
 exact Kd.R_ne ho hb ht
theorem IsS119.apartQ {w0 W : World} {g : Nat} {f0 : ByteArray} {f1 : Int} {f2 : Int} {α : Type} {d : Kd α} {e : Nat} {base : Nat} {ok : Nat → Prop} {v : Value} {xs : List α} (h : IsS119 w0 W g f0 f1 f2) (ho : d.Q e W base ok v xs) (ht : ∀ q, q ∈ e :: d.E → q ≠ 119) : d.Q e W base (fun k => ok k ∧ k ≠ g) v xs := by
 obtain ⟨hb, hg⟩ := h
 exact Kd.Q_types ho hb ht
theorem IsS119.own_neQ {w0 W : World} {g : Nat} {f0 : ByteArray} {f1 : Int} {f2 : Int} {α : Type} {d : Kd α} {e : Nat} {base : Nat} {ok : Nat → Prop} {v : Value} {xs : List α} (h : IsS119 w0 W g f0 f1 f2) (ho : d.Q e W base ok v xs) (ht : e ≠ 119) : some g ≠ v.ownBlock := by
 obtain ⟨hb, hg⟩ := h
 exact Kd.Q_ne ho hb ht
theorem IsS119.apartS {w0 W : World} {g : Nat} {f0 : ByteArray} {f1 : Int} {f2 : Int} {α : Type} {d : Kd α} {e : Nat} {base : Nat} {ok : Nat → Prop} {v : Value} {xs : List α} (h : IsS119 w0 W g f0 f1 f2) (ho : d.S e W base ok v xs) (ht : ∀ q, q ∈ e :: d.E → q ≠ 119) : d.S e W base (fun k => ok k ∧ k ≠ g) v xs := by
 obtain ⟨hb, hg⟩ := h
 exact Kd.S_types ho hb ht
theorem IsS119.own_neS {w0 W : World} {g : Nat} {f0 : ByteArray} {f1 : Int} {f2 : Int} {α : Type} {d : Kd α} {e : Nat} {base : Nat} {ok : Nat → Prop} {v : Value} {xs : List α} (h : IsS119 w0 W g f0 f1 f2) (ho : d.S e W base ok v xs) (ht : e ≠ 119) : some g ≠ v.ownBlock := by
 obtain ⟨hb, hg⟩ := h
 exact Kd.S_ne ho hb ht
theorem IsS119.lt {w0 W : World} {g : Nat} {f0 : ByteArray} {f1 : Int} {f2 : Int} (h : IsS119 w0 W g f0 f1 f2) : g < W.heap.size := by
 obtain ⟨hb, hg⟩ := h
 exact blk_lt hb
theorem IsS119.ge {w0 W : World} {g : Nat} {f0 : ByteArray} {f1 : Int} {f2 : Int} (h : IsS119 w0 W g f0 f1 f2) : w0.heap.size ≤ g := by
 obtain ⟨hb, hg⟩ := h
 exact hg
theorem IsS119.ne_blk {w0 W : World} {g : Nat} {f0 : ByteArray} {f1 : Int} {f2 : Int} {a : Nat} {cs : Array Value} {t : TypeId} {fr : Nat × Nat} (h : IsS119 w0 W g f0 f1 f2) (hb2 : W.heap[a]? = some (.cells cs t fr)) (ht : t ≠ 119) : g ≠ a := by
 obtain ⟨hb, hg⟩ := h
 rintro rfl
 rw [hb] at hb2
 injection hb2 with hb2
 injection hb2 with _ ht2
 exact ht ht2.symm
theorem IsS119.far {w0 W : World} {g : Nat} {f0 : ByteArray} {f1 : Int} {f2 : Int} {p : Addr} (h : IsS119 w0 W g f0 f1 f2) (hne : g ≠ p.block) (u : Value) : IsS119 w0 (W.setCell p u) g f0 f1 f2 := by
 obtain ⟨hb, hg⟩ := h
 exact ⟨blk_far hb hne u, hg⟩
theorem cellS119_0 {W : World} {g : Nat} {f0 : ByteArray} {f1 : Int} {f2 : Int} (h : W.heap[g]? = some (.cells #[.string f0, .int .i64 f1, .int .i64 f2] 119 (0, 0))) : W.cell? ⟨g, 0, none⟩ = some (.string f0) := (blk_cell h 0).trans rfl
theorem IsS119.set_0 {w0 W : World} {g : Nat} {f0 : ByteArray} {f1 : Int} {f2 : Int} (h : IsS119 w0 W g f0 f1 f2) (x : ByteArray) : IsS119 w0 (W.setCell ⟨g, 0, none⟩ (.string x)) g x f1 f2 := by
 obtain ⟨hb, hg⟩ := h
 exact ⟨by simpa using blk_set hb 0 (.string x), hg⟩
theorem cellS119_1 {W : World} {g : Nat} {f0 : ByteArray} {f1 : Int} {f2 : Int} (h : W.heap[g]? = some (.cells #[.string f0, .int .i64 f1, .int .i64 f2] 119 (0, 0))) : W.cell? ⟨g, 1, none⟩ = some (.int .i64 f1) := (blk_cell h 1).trans rfl
theorem IsS119.set_1 {w0 W : World} {g : Nat} {f0 : ByteArray} {f1 : Int} {f2 : Int} (h : IsS119 w0 W g f0 f1 f2) (x : Int) : IsS119 w0 (W.setCell ⟨g, 1, none⟩ (.int .i64 x)) g f0 x f2 := by
 obtain ⟨hb, hg⟩ := h
 exact ⟨by simpa using blk_set hb 1 (.int .i64 x), hg⟩
theorem cellS119_2 {W : World} {g : Nat} {f0 : ByteArray} {f1 : Int} {f2 : Int} (h : W.heap[g]? = some (.cells #[.string f0, .int .i64 f1, .int .i64 f2] 119 (0, 0))) : W.cell? ⟨g, 2, none⟩ = some (.int .i64 f2) := (blk_cell h 2).trans rfl
theorem IsS119.set_2 {w0 W : World} {g : Nat} {f0 : ByteArray} {f1 : Int} {f2 : Int} (h : IsS119 w0 W g f0 f1 f2) (x : Int) : IsS119 w0 (W.setCell ⟨g, 2, none⟩ (.int .i64 x)) g f0 f1 x := by
 obtain ⟨hb, hg⟩ := h
 exact ⟨by simpa using blk_set hb 2 (.int .i64 x), hg⟩
theorem IsS119.new (w0 W : World) (f0 : ByteArray) (f1 : Int) (f2 : Int) (hB : Below w0.heap.size w0 W) : IsS119 w0 (W.alloc (.cells #[.string f0, .int .i64 f1, .int .i64 f2] 119)) W.heap.size f0 f1 f2 := ⟨by simpa using heap_alloc_new W _, hB.size⟩
def octet_NewReader.f (a0 : ByteArray) : Option (ByteArray × Int × Int) := some (a0, 0, 0)
set_option maxHeartbeats 8000000 in
set_option maxRecDepth 100000 in
theorem octet_NewReader.calls (a0 : ByteArray) (r1 : ByteArray) (r2 : Int) (r3 : Int) (w0 w : World) (hB : Below w0.heap.size w0 w) (h : octet_NewReader.f a0 = some (r1, r2, r3)) :
  Calls Tryd.prog 46 #[.string a0] w fun e w' => ∃ g_ : Nat, e = .returned (.pointer (some ⟨g_, 0, none⟩)) ∧ IsS119 w0 w' g_ r1 r2 r3 ∧ Below w0.heap.size w0 w' ∧ Below w.heap.size w w' := by
 have hu119 := Tryd.underlying119
 have HBW := am (Below.refl w.heap.size w)
 have HW0 := am hB.size
 have HB := am hB
 clear hB
 have H := h
 clear h
 unfold octet_NewReader.f at H
 simp only [Option.some.injEq, Prod.mk.injEq] at H
 obtain ⟨rfl, rfl, rfl⟩ := H
 go_enter Tryd.func46, Tryd.ntmps46
 go_wp2_with (first | ((with_reducible refine gate_dst (N := 5) rfl ?_); refine bx 5 #[.string a0, .int .i64 0, .int .i64 0] 119 ?_; intro gb262 hg w2 hbox hb; have BK262 := am (hbox); have GW262 := gsz hg HBW.out; have GE262 := am ((Nat.le_trans HW0.out (by rw [hg]; exact (below_size (bw HBW.out)) : w.heap.size ≤ gb262) : w0.heap.size ≤ gb262)); replace HBW := am (below_step HBW.out hb); replace HB := am (below_step (bw HB.out) hb); clear hb hbox hg))
 go_ret
 exact ⟨_, rfl, (show IsS119 w0 _ gb262 a0 0 0 from ⟨by (with_reducible repeat (first | refine blk_drewN ?_ _ | refine blk_drew ?_ | refine blk_alloc ?_ _)); exact BK262.out, GE262.out⟩), bws HB.out, by repeat (first | (with_reducible first | exact HBW.out | apply below_alloc | apply pw_below_drewN | apply below_drew1 | refine below_set ?_ GW262.out) | exact HBW.out)⟩
def octet_Reader_Err.f (s0_0 : ByteArray) (s0_1 : Int) (s0_2 : Int) : Option (Int × ByteArray × Int × Int) := some (s0_2, s0_0, s0_1, s0_2)
set_option maxHeartbeats 8000000 in
set_option maxRecDepth 100000 in
theorem octet_Reader_Err.calls (g : Nat) (s0_0 : ByteArray) (s0_1 : Int) (s0_2 : Int) (r1 : Int) (r2 : ByteArray) (r3 : Int) (r4 : Int) (w0 w : World) (hI : IsS119 w0 w g s0_0 s0_1 s0_2) (hB : Below w0.heap.size w0 w) (h : octet_Reader_Err.f s0_0 s0_1 s0_2 = some (r1, r2, r3, r4)) :
  Calls Tryd.prog 77 #[.pointer (some ⟨g, 0, none⟩)] w fun e w' => e = .returned (.int .i64 r1) ∧ IsS119 w0 w' g r2 r3 r4 ∧ Below w0.heap.size w0 w' ∧ KeepBut w w' g none := by
 have HI0 := am hI
 have HK := am (KeepBut.refl w g none)
 have HL := am hB.size
 clear hI
 have HW0 := am hB.size
 have HB := am hB
 clear hB
 have H := h
 clear h
 unfold octet_Reader_Err.f at H
 simp only [Option.some.injEq, Prod.mk.injEq] at H
 obtain ⟨rfl, rfl, rfl, rfl⟩ := H
 obtain ⟨HGz2, hgz2⟩ := HI0.out
 have hcz2_0 := cellS119_0 HGz2
 have hcz2_1 := cellS119_1 HGz2
 have hcz2_2 := cellS119_2 HGz2
 have hfz2_0 := blk_frozen HGz2 0
 have hfz2_1 := blk_frozen HGz2 1
 have hfz2_2 := blk_frozen HGz2 2
 clear HGz2 hgz2
 go_enter Tryd.func77, Tryd.ntmps77
 go_wp2
 go_ret
 exact ⟨rf, by repeat (first | (with_reducible first | exact HI0.out | apply IsS119.alloc | apply IsS119.drewN | apply IsS119.drew | apply IsS119.set_0 | apply IsS119.set_1 | apply IsS119.set_2) | exact HI0.out), by repeat (first | (with_reducible first | exact HB.out | apply below_alloc | apply pw_below_drewN | apply below_drew1 | refine below_set ?_ (IsS119.ge HI0.out)) | exact HB.out), by repeat (first | (with_reducible first | exact HK.out | apply KeepBut.set_ | apply keep_drewN | apply keep_drew | apply keep_alloc) | exact HK.out)⟩
mutual
def octet_ReadNumber.j0 : Nat → ByteArray → Int → Bool → Option (Int × Int × Int)
 | 0, _, _, _ => none
 | k + 1, x0, x1, x17 => if x17 = true then (some (0, 0, 1)) else (octet_ReadNumber.l0 k x0 x1 0 0)
def octet_ReadNumber.l0 : Nat → ByteArray → Int → Int → Int → Option (Int × Int × Int)
 | 0, _, _, _, _ => none
 | k + 1, x0, x1, x7, x18 => if x18 < 10 then (if (wrap64 (x1 + x18)) ≥ (x0.size : Int) then (some (0, 0, 5)) else (if 0 ≤ (wrap64 (x1 + x18)) then (if (wrap64 (x1 + x18)) < (x0.size : Int) then (if x18 = 9 then (if (bt x0 (wrap64 (x1 + x18))) > 1 then (octet_ReadNumber.j2 k x0 x1 x7 x18 (bt x0 (wrap64 (x1 + x18))) x18 true) else (if x18 > 0 then (octet_ReadNumber.j2 k x0 x1 x7 x18 (bt x0 (wrap64 (x1 + x18))) x18 ((bt x0 (wrap64 (x1 + x18))) == 0)) else (octet_ReadNumber.j2 k x0 x1 x7 x18 (bt x0 (wrap64 (x1 + x18))) x18 false))) else (if x18 > 0 then (octet_ReadNumber.j2 k x0 x1 x7 x18 (bt x0 (wrap64 (x1 + x18))) x18 ((bt x0 (wrap64 (x1 + x18))) == 0)) else (octet_ReadNumber.j2 k x0 x1 x7 x18 (bt x0 (wrap64 (x1 + x18))) x18 false))) else (none)) else (none))) else (some (0, 0, 3))
def octet_ReadNumber.j2 : Nat → ByteArray → Int → Int → Int → Int → Int → Bool → Option (Int × Int × Int)
 | 0, _, _, _, _, _, _, _ => none
 | k + 1, x0, x1, x7, x8, x9, x18, x45 => if x45 = true then (some (0, 0, 3)) else (if 0 ≤ (wrap64 (7 * x8)) then (if x9 < 128 then (some (Go.bits .or .u64 x7 (shl .u64 (IntKind.u64.wrap (Go.bits .and .u8 x9 127)) (wrap64 (7 * x8))), wrap64 ((wrap64 (x1 + x8)) + 1), 0)) else (octet_ReadNumber.l0 k x0 x1 (Go.bits .or .u64 x7 (shl .u64 (IntKind.u64.wrap (Go.bits .and .u8 x9 127)) (wrap64 (7 * x8)))) (wrap64 (x18 + 1)))) else (none))
end
def octet_ReadNumber.f (k : Nat) (a0 : ByteArray) (a1 : Int) : Option (Int × Int × Int) := if a1 < 0 then (octet_ReadNumber.j0 k a0 a1 true) else (octet_ReadNumber.j0 k a0 a1 (decide (a1 > (a0.size : Int))))
theorem octet_ReadNumber.mono_l : ∀ k, (∀ y0 y1 y2, LeO (octet_ReadNumber.j0 k y0 y1 y2) (octet_ReadNumber.j0 (k + 1) y0 y1 y2)) ∧ (∀ y0 y1 y2 y3, LeO (octet_ReadNumber.l0 k y0 y1 y2 y3) (octet_ReadNumber.l0 (k + 1) y0 y1 y2 y3)) ∧ (∀ y0 y1 y2 y3 y4 y5 y6, LeO (octet_ReadNumber.j2 k y0 y1 y2 y3 y4 y5 y6) (octet_ReadNumber.j2 (k + 1) y0 y1 y2 y3 y4 y5 y6))
 | 0 => ⟨fun _ _ _ r h => by simp [octet_ReadNumber.j0] at h, fun _ _ _ _ r h => by simp [octet_ReadNumber.l0] at h, fun _ _ _ _ _ _ _ r h => by simp [octet_ReadNumber.j2] at h⟩
 | k + 1 => by
  obtain ⟨ih0, ih1, ih2⟩ := octet_ReadNumber.mono_l k
  refine ⟨?_, ?_, ?_⟩
  all_goals intros
  all_goals first | unfold octet_ReadNumber.j0 | unfold octet_ReadNumber.l0 | unfold octet_ReadNumber.j2
  all_goals repeat' (with_reducible first | exact ih0 _ _ _ | exact ih1 _ _ _ _ | exact ih2 _ _ _ _ _ _ _ | exact LeO.refl _ | exact LeO.none _ | refine LeO.ite ?_ ?_ | refine LeO.bind ?_ (fun _ => ?_))
theorem octet_ReadNumber.mono : ∀ a0 a1 k, LeO (octet_ReadNumber.f k a0 a1) (octet_ReadNumber.f (k + 1) a0 a1) := by
 intro a0 a1 k
 obtain ⟨ih0, ih1, ih2⟩ := octet_ReadNumber.mono_l k
 unfold octet_ReadNumber.f
 repeat' (with_reducible first | exact ih0 _ _ _ | exact ih1 _ _ _ _ | exact ih2 _ _ _ _ _ _ _ | exact LeO.refl _ | exact LeO.none _ | refine LeO.ite ?_ ?_ | refine LeO.bind ?_ (fun _ => ?_))
set_option maxHeartbeats 8000000 in
set_option maxRecDepth 100000 in
theorem octet_ReadNumber.calls (k : Nat) (a0 : ByteArray) (a1 : Int) (r1 : Int) (r2 : Int) (r3 : Int) (w : World) (h : octet_ReadNumber.f k a0 a1 = some (r1, r2, r3)) :
  Calls Tryd.prog 78 #[.string a0, .int .i64 a1] w fun e w' => e = .returned (.tuple #[.int .u64 r1, .int .i64 r2, .int .i64 r3]) ∧ Drawn0 w w' := by
 have H := h
 clear h
 unfold octet_ReadNumber.f at H
 have HC3 := am H
 clear H
 go_enter Tryd.func78, Tryd.ntmps78
 go_upto_region 1 with (fail)
 go_cut [17] (fun v17 wc => ∃ (kq : Nat) (x17_2 : Bool), v17 = .bool x17_2 ∧ Aside0 (octet_ReadNumber.j0 kq a0 a1 x17_2 = some (r1, r2, r3)) ∧ Aside0 (kq ≤ k) ∧ Drawn0 w wc)
 case first =>
  have H := HC3.out
  clear HC3
  replace H := iteD H
  rcases H with ⟨c4b0, H⟩ | ⟨c4b0, H⟩
  ·
   (first | rw [c4b0] | (simp only [i64_w, i32_w]; rw [c4b0]) | skip)
   have H' := am H
   clear H
   go_wp2
   go_meet
   case rel => exact ⟨_, (true), rs, H', ⟨om⟩, by repeat (first | exact Drawn0.refl _ | apply Drawn0.step)⟩
  ·
   (first | rw [c4b0] | (simp only [i64_w, i32_w]; rw [c4b0]) | skip)
   have H' := am H
   clear H
   go_wp2
   go_meet
   case rel => exact ⟨_, (decide (a1 > (a0.size : Int))), rs, H', ⟨om⟩, by repeat (first | exact Drawn0.refl _ | apply Drawn0.step)⟩
 case rest =>
  clear HC3
  obtain ⟨kq, x17_2, rfl, HA, HJ2, ⟨mc2, rfl⟩⟩ := hcut
  cases kq with
  | zero => exact absurd HA.out (by simp [octet_ReadNumber.j0])
  | succ kj2 =>
   have H := HA.out
   clear HA
   simp only [octet_ReadNumber.j0] at H
   by_cases c5 : x17_2 = true
   ·
    subst c5
    rw [if_pos rfl] at H
    simp only [Option.some.injEq, Prod.mk.injEq] at H
    obtain ⟨rfl, rfl, rfl⟩ := H
    go_wp2
    go_ret3
    exact ⟨by first | rfl | (simp; done) | (simp [*]; done), by repeat (first | exact Drawn0.refl _ | apply Drawn0.step)⟩
   ·
    replace c5 := Bool.eq_false_iff.mpr c5
    subst c5
    rw [if_neg (show ¬ (false = true) by decide)] at H
    have H' := am H
    clear H
    go_wp2
    go_loopg [7, 18] kj2 (fun kq v7 v18 w' => ∃ (x7_2 : Int) (x18_2 : Int), v7 = .int .u64 x7_2 ∧ v18 = .int .i64 x18_2 ∧ Aside0 (octet_ReadNumber.l0 kq a0 a1 x7_2 x18_2 = some (r1, r2, r3)) ∧ Aside0 (kq ≤ kj2) ∧ Drawn0 w w')
    case atStart => exact ⟨(0), (0), rs, rs, H', ⟨Nat.le_refl _⟩, by repeat (first | exact Drawn0.refl _ | apply Drawn0.step)⟩
    case round =>
     clear H'
     try clear c5
     obtain ⟨x7_2, x18_2, rfl, rfl, HA, HK2, ⟨m2, rfl⟩⟩ := hrel
     cases gk with
     | zero => exact absurd HA.out (by simp [octet_ReadNumber.l0])
     | succ k2 =>
      have H := HA.out
      clear HA
      simp only [octet_ReadNumber.l0] at H
      replace H := iteD H
      rcases H with ⟨c6b0, H⟩ | ⟨c6b0, H⟩
      ·
       replace H := iteD H
       rcases H with ⟨c7b0, H⟩ | ⟨c7b0, H⟩
       ·
        simp only [Option.some.injEq, Prod.mk.injEq] at H
        obtain ⟨rfl, rfl, rfl⟩ := H
        go_wp2
        go_ret3
        exact ⟨by first | rfl | (simp; done) | (simp [*]; done), by repeat (first | exact Drawn0.refl _ | apply Drawn0.step)⟩
       ·
        obtain ⟨ji8, hji8⟩ : ∃ j_ : Int, (wrap64 (a1 + x18_2)) = j_ := ⟨_, rfl⟩
        replace H : (if 0 ≤ (ji8) then (if (ji8) < (a0.size : Int) then (if x18_2 = 9 then (if (bt a0 (ji8)) > 1 then (octet_ReadNumber.j2 k2 a0 a1 x7_2 x18_2 (bt a0 (ji8)) x18_2 true) else (if x18_2 > 0 then (octet_ReadNumber.j2 k2 a0 a1 x7_2 x18_2 (bt a0 (ji8)) x18_2 ((bt a0 (ji8)) == 0)) else (octet_ReadNumber.j2 k2 a0 a1 x7_2 x18_2 (bt a0 (ji8)) x18_2 false))) else (if x18_2 > 0 then (octet_ReadNumber.j2 k2 a0 a1 x7_2 x18_2 (bt a0 (ji8)) x18_2 ((bt a0 (ji8)) == 0)) else (octet_ReadNumber.j2 k2 a0 a1 x7_2 x18_2 (bt a0 (ji8)) x18_2 false))) else (none)) else (none)) = some (r1, r2, r3) := by first | (rw [hji8] at H; exact H) | (simp only [hji8] at H ⊢; exact H)
        (try rw [hji8] at c7b0)
        have hji8w : (IntKind.i64.wrap (a1 + x18_2)) = ji8 := (i64_w _).trans hji8
        replace H := iteD H
        rcases H with ⟨c9b0, H⟩ | ⟨_, H⟩
        ·
         replace H := iteD H
         rcases H with ⟨c10b0, H⟩ | ⟨_, H⟩
         ·
          have HC12 := am H
          clear H
          have p11 := pz (ji8)
          have q11 := pl (ji8) (a0.size : Int)
          have hx11 := bt_at a0 (ji8)
          go_upto_region 10 with (fail)
          go_cut [45] (fun v45 wc => ∃ (kq : Nat) (x45_11 : Bool), v45 = .bool x45_11 ∧ Aside0 (octet_ReadNumber.j2 kq a0 a1 x7_2 x18_2 (bt a0 (ji8)) x18_2 x45_11 = some (r1, r2, r3)) ∧ Aside0 (kq ≤ k2) ∧ Drawn0 w wc)
          case first =>
           have H := HC12.out
           clear HC12
           by_cases c13 : x18_2 = 9
           ·
            rw [if_pos c13] at H
            have c13b0 := beq_iff_eq.mpr c13
            have c13b1 := bne_eq_false_iff_eq.mpr c13
            clear c13
            (first | rw [c13b0] | (simp only [i64_w, i32_w]; rw [c13b0]) | skip)
            replace H := iteD H
            rcases H with ⟨c14b0, H⟩ | ⟨c14b0, H⟩
            ·
             have H' := am H
             clear H
             go_wp2
             go_meet
             case rel => exact ⟨_, (true), rs, H', ⟨by have := HJ2.out; have := HK2.out; first | omega | exact Nat.le_refl _⟩, by repeat (first | exact Drawn0.refl _ | apply Drawn0.step)⟩
            ·
             replace H := iteD H
             rcases H with ⟨c15b0, H⟩ | ⟨c15b0, H⟩
             ·
              have H' := am H
              clear H
              go_wp2
              go_meet
              case rel => exact ⟨_, (((bt a0 (ji8)) == 0)), (by first | rfl | (simp; done) | (simp only [← hji8] <;> (first | rfl | simp)) | (simp [*]; done)), H', ⟨by have := HJ2.out; have := HK2.out; first | omega | exact Nat.le_refl _⟩, by repeat (first | exact Drawn0.refl _ | apply Drawn0.step)⟩
             ·
              have H' := am H
              clear H
              go_wp2
              go_meet
              case rel => exact ⟨_, (false), rs, H', ⟨by have := HJ2.out; have := HK2.out; first | omega | exact Nat.le_refl _⟩, by repeat (first | exact Drawn0.refl _ | apply Drawn0.step)⟩
           ·
            rw [if_neg c13] at H
            have c13b0 := beq_eq_false_iff_ne.mpr c13
            have c13b1 := bne_iff_ne.mpr c13
            (first | rw [c13b0] | (simp only [i64_w, i32_w]; rw [c13b0]) | skip)
            replace H := iteD H
            rcases H with ⟨c16b0, H⟩ | ⟨c16b0, H⟩
            ·
             have H' := am H
             clear H
             go_wp2
             go_meet
             case rel => exact ⟨_, (((bt a0 (ji8)) == 0)), (by first | rfl | (simp; done) | (simp only [← hji8] <;> (first | rfl | simp)) | (simp [*]; done)), H', ⟨by have := HJ2.out; have := HK2.out; first | omega | exact Nat.le_refl _⟩, by repeat (first | exact Drawn0.refl _ | apply Drawn0.step)⟩
            ·
             have H' := am H
             clear H
             go_wp2
             go_meet
             case rel => exact ⟨_, (false), rs, H', ⟨by have := HJ2.out; have := HK2.out; first | omega | exact Nat.le_refl _⟩, by repeat (first | exact Drawn0.refl _ | apply Drawn0.step)⟩
          case rest =>
           clear HC12
           try clear c5
           try clear c6b0
           try clear c7b0
           try clear c9b0
           try clear c10b0
           try clear p11
           try clear q11
           try clear hx11
           obtain ⟨kq, x45_11, rfl, HA, HJ11, ⟨mc11, rfl⟩⟩ := hcut
           cases kq with
           | zero => exact absurd HA.out (by simp [octet_ReadNumber.j2])
           | succ kj11 =>
            have H := HA.out
            clear HA
            simp only [octet_ReadNumber.j2] at H
            by_cases c17 : x45_11 = true
            ·
             subst c17
             rw [if_pos rfl] at H
             simp only [Option.some.injEq, Prod.mk.injEq] at H
             obtain ⟨rfl, rfl, rfl⟩ := H
             go_wp2
             go_ret3
             exact ⟨by first | rfl | (simp; done) | (simp only [← hji8] <;> (first | rfl | simp)) | (simp [*]; done), by repeat (first | exact Drawn0.refl _ | apply Drawn0.step)⟩
            ·
             replace c17 := Bool.eq_false_iff.mpr c17
             subst c17
             rw [if_neg (show ¬ (false = true) by decide)] at H
             obtain ⟨ji18, hji18⟩ : ∃ j_ : Int, (wrap64 (7 * x18_2)) = j_ := ⟨_, rfl⟩
             replace H : (if 0 ≤ (ji18) then (if (bt a0 (ji8)) < 128 then (some (Go.bits .or .u64 x7_2 (shl .u64 (IntKind.u64.wrap (Go.bits .and .u8 (bt a0 (ji8)) 127)) (ji18)), wrap64 ((wrap64 (a1 + x18_2)) + 1), 0)) else (octet_ReadNumber.l0 kj11 a0 a1 (Go.bits .or .u64 x7_2 (shl .u64 (IntKind.u64.wrap (Go.bits .and .u8 (bt a0 (ji8)) 127)) (ji18))) (wrap64 (x18_2 + 1)))) else (none)) = some (r1, r2, r3) := by first | (rw [hji18] at H; exact H) | (simp only [hji18] at H ⊢; exact H)
             have hji18w : (IntKind.i64.wrap (7 * x18_2)) = ji18 := (i64_w _).trans hji18
             by_cases c19 : 0 ≤ (ji18)
             ·
              rw [if_pos c19] at H
              have c19b0 := eq_true c19
              have c19b1 := decide_eq_true c19
              clear c19
              obtain ⟨ji20, hji20⟩ : ∃ j_ : Int, (shl .u64 (IntKind.u64.wrap (Go.bits .and .u8 (bt a0 (ji8)) 127)) (ji18)) = j_ := ⟨_, rfl⟩
              replace H : (if (bt a0 (ji8)) < 128 then (some (Go.bits .or .u64 x7_2 (ji20), wrap64 ((wrap64 (a1 + x18_2)) + 1), 0)) else (octet_ReadNumber.l0 kj11 a0 a1 (Go.bits .or .u64 x7_2 (ji20)) (wrap64 (x18_2 + 1)))) = some (r1, r2, r3) := by first | (rw [hji20] at H; exact H) | (simp only [hji20] at H ⊢; exact H)
              have hji20_ : (IntKind.u64.wrap ((IntKind.u64.wrap (Go.bits .and .u8 (bt a0 (ji8)) 127)) * 2 ^ min (ji18).toNat 64)) = ji20 := hji20
              have hji20z : (ji18) ≤ 64 → (IntKind.u64.wrap ((IntKind.u64.wrap (Go.bits .and .u8 (bt a0 (ji8)) 127)) * 2 ^ (ji18).toNat)) = ji20 := shl_small hji20
              replace H := iteD H
              rcases H with ⟨c21b0, H⟩ | ⟨c21b0, H⟩
              ·
               simp only [Option.some.injEq, Prod.mk.injEq] at H
               obtain ⟨rfl, rfl, rfl⟩ := H
               go_wp2
               go_ret3
               exact ⟨by first | rfl | (simp; done) | (simp only [← hji8, ← hji18, ← hji20] <;> (first | rfl | simp)) | (simp [*]; done), by repeat (first | exact Drawn0.refl _ | apply Drawn0.step)⟩
              ·
               have H' := am H
               clear H
               go_wp2
               go_roundg kj11
               case measure => have := HJ2.out; have := HK2.out; have := HJ11.out; omega
               case rel => exact ⟨(Go.bits .or .u64 x7_2 (ji20)), (wrap64 (x18_2 + 1)), (by first | rfl | (simp; done) | (simp only [← hji20] <;> (first | rfl | simp)) | (simp [*]; done)), rs, H', ⟨by have := HJ2.out; have := HK2.out; have := HJ11.out; omega⟩, by repeat (first | exact Drawn0.refl _ | apply Drawn0.step)⟩
             ·
              rw [if_neg c19] at H
              exact absurd H (by simp)
         ·
          exact absurd H (by simp)
        ·
         exact absurd H (by simp)
      ·
       simp only [Option.some.injEq, Prod.mk.injEq] at H
       obtain ⟨rfl, rfl, rfl⟩ := H
       go_wp2
       go_ret3
       exact ⟨by first | rfl | (simp; done) | (simp [*]; done), by repeat (first | exact Drawn0.refl _ | apply Drawn0.step)⟩
def octet_Reader_Number.j0 : Nat → Int → Int → Int → Bool → ByteArray → Int → Int → Option (Int × ByteArray × Int × Int)
 | 0, _, _, _, _, _, _, _ => none
 | k + 1, x5, x6, x7, x30, x1000, x1001, x1002 => if x30 = true then (if 2 = 0 then (some (x5, x1000, x6, x1002)) else (some (0, x1000, x1001, 2))) else (if x7 = 0 then (some (x5, x1000, x6, x1002)) else (some (0, x1000, x1001, x7)))
def octet_Reader_Number.f (k : Nat) (s0_0 : ByteArray) (s0_1 : Int) (s0_2 : Int) (a1 : Int) : Option (Int × ByteArray × Int × Int) := (octet_Reader_Err.f s0_0 s0_1 s0_2).bind fun bt263 => (if bt263.1 = 0 then ((octet_ReadNumber.f k bt263.2.1 bt263.2.2.1).bind fun bt267 => (if bt267.2.2 = 0 then (octet_Reader_Number.j0 k bt267.1 bt267.2.1 bt267.2.2 (decide (bt267.1 > a1)) bt263.2.1 bt263.2.2.1 bt263.2.2.2) else (octet_Reader_Number.j0 k bt267.1 bt267.2.1 bt267.2.2 false bt263.2.1 bt263.2.2.1 bt263.2.2.2))) else (some (0, bt263.2.1, bt263.2.2.1, bt263.2.2.2)))
theorem octet_Reader_Number.mono_l : ∀ k, (∀ y0 y1 y2 y3 y4 y5 y6, LeO (octet_Reader_Number.j0 k y0 y1 y2 y3 y4 y5 y6) (octet_Reader_Number.j0 (k + 1) y0 y1 y2 y3 y4 y5 y6))
 | 0 => fun _ _ _ _ _ _ _ r h => by simp [octet_Reader_Number.j0] at h
 | k + 1 => by
  have ih0 := octet_Reader_Number.mono_l k
  ·
   intro y0 y1 y2 y3 y4 y5 y6
   unfold octet_Reader_Number.j0
   repeat' (with_reducible first | exact ih0 _ _ _ _ _ _ _ | exact octet_ReadNumber.mono _ _ _ | exact LeO.refl _ | exact LeO.none _ | refine LeO.ite ?_ ?_ | refine LeO.bind ?_ (fun _ => ?_))
theorem octet_Reader_Number.mono : ∀ a0 a1 a2 a3 k, LeO (octet_Reader_Number.f k a0 a1 a2 a3) (octet_Reader_Number.f (k + 1) a0 a1 a2 a3) := by
 intro a0 a1 a2 a3 k
 have ih0 := octet_Reader_Number.mono_l k
 unfold octet_Reader_Number.f
 repeat' (with_reducible first | exact ih0 _ _ _ _ _ _ _ | exact octet_ReadNumber.mono _ _ _ | exact LeO.refl _ | exact LeO.none _ | refine LeO.ite ?_ ?_ | refine LeO.bind ?_ (fun _ => ?_))
set_option maxHeartbeats 8000000 in
set_option maxRecDepth 100000 in
theorem octet_Reader_Number.calls (k : Nat) (g : Nat) (s0_0 : ByteArray) (s0_1 : Int) (s0_2 : Int) (a1 : Int) (r1 : Int) (r2 : ByteArray) (r3 : Int) (r4 : Int) (w0 w : World) (hI : IsS119 w0 w g s0_0 s0_1 s0_2) (hB : Below w0.heap.size w0 w) (h : octet_Reader_Number.f k s0_0 s0_1 s0_2 a1 = some (r1, r2, r3, r4)) :
  Calls Tryd.prog 79 #[.pointer (some ⟨g, 0, none⟩), .int .u64 a1] w fun e w' => e = .returned (.int .u64 r1) ∧ IsS119 w0 w' g r2 r3 r4 ∧ Below w0.heap.size w0 w' ∧ KeepBut w w' g none := by
 have HI0 := am hI
 have HK := am (KeepBut.refl w g none)
 have HL := am hB.size
 clear hI
 have HW0 := am hB.size
 have HB := am hB
 clear hB
 have H := h
 clear h
 unfold octet_Reader_Number.f at H
 replace H := obE H
 obtain ⟨⟨t263, t264, t265, t266⟩, A3, H⟩ := H
 try dsimp only at H
 by_cases c4 : t263 = 0
 ·
  rw [if_pos c4] at H
  have c4b0 := beq_iff_eq.mpr c4
  have c4b1 := bne_eq_false_iff_eq.mpr c4
  clear c4
  replace H := obE H
  obtain ⟨⟨t267, t268, t269⟩, A5, H⟩ := H
  try dsimp only at H
  have HC6 := am H
  clear H
  go_enter Tryd.func79, Tryd.ntmps79
  go_upto_region 4 with (first | (go_at_call 77; (with_reducible refine (octet_Reader_Err.calls g s0_0 s0_1 s0_2 t263 t264 t265 t266 w0 _ ?side1 ?side2 A3.out).mono ?_); (case side1 => repeat (first | (with_reducible first | exact HI0.out | apply IsS119.alloc | apply IsS119.drewN | apply IsS119.drew | apply IsS119.set_0 | apply IsS119.set_1 | apply IsS119.set_2) | exact HI0.out)); (case side2 => repeat (first | (with_reducible first | exact HB.out | apply below_alloc | apply pw_below_drewN | apply below_drew1 | refine below_set ?_ (IsS119.ge HI0.out)) | exact HB.out)); rintro e w7 ⟨rfl, hi, hb, hk⟩; replace HK := am (KeepBut.trans (by repeat (first | (with_reducible first | exact HK.out | apply KeepBut.set_ | apply keep_drewN | apply keep_drew | apply keep_alloc) | exact HK.out)) hk (.inl rfl)); replace HB := am (hb); replace HI0 := am (hi); (try clear hb); (try clear hk); (try clear hi); obtain ⟨HGz8, hgz8⟩ := HI0.out; have hcz8_0 := cellS119_0 HGz8; have hcz8_1 := cellS119_1 HGz8; have hcz8_2 := cellS119_2 HGz8; have hfz8_0 := blk_frozen HGz8 0; have hfz8_1 := blk_frozen HGz8 1; have hfz8_2 := blk_frozen HGz8 2; clear HGz8 hgz8) | (go_at_call 78; (with_reducible refine (octet_ReadNumber.calls k t264 t265 t267 t268 t269 _ A5.out).mono ?_); rintro e w' ⟨rfl, ⟨nd, rfl⟩⟩; (try first | exact ⟨rfl, _, World.drewN_drewN _ _ _⟩ | exact ⟨rfl, _, Eq.trans (World.drewN_drewN _ _ _) (congrArg (World.drewN _) (Nat.add_assoc _ _ _))⟩)))
  repeat (go_quiet (first | (go_at_call 77; (with_reducible refine (octet_Reader_Err.calls g s0_0 s0_1 s0_2 t263 t264 t265 t266 w0 _ ?side1 ?side2 A3.out).mono ?_); (case side1 => repeat (first | (with_reducible first | exact HI0.out | apply IsS119.alloc | apply IsS119.drewN | apply IsS119.drew | apply IsS119.set_0 | apply IsS119.set_1 | apply IsS119.set_2) | exact HI0.out)); (case side2 => repeat (first | (with_reducible first | exact HB.out | apply below_alloc | apply pw_below_drewN | apply below_drew1 | refine below_set ?_ (IsS119.ge HI0.out)) | exact HB.out)); rintro e w7 ⟨rfl, hi, hb, hk⟩; replace HK := am (KeepBut.trans (by repeat (first | (with_reducible first | exact HK.out | apply KeepBut.set_ | apply keep_drewN | apply keep_drew | apply keep_alloc) | exact HK.out)) hk (.inl rfl)); replace HB := am (hb); replace HI0 := am (hi); (try clear hb); (try clear hk); (try clear hi); obtain ⟨HGz8, hgz8⟩ := HI0.out; have hcz8_0 := cellS119_0 HGz8; have hcz8_1 := cellS119_1 HGz8; have hcz8_2 := cellS119_2 HGz8; have hfz8_0 := blk_frozen HGz8 0; have hfz8_1 := blk_frozen HGz8 1; have hfz8_2 := blk_frozen HGz8 2; clear HGz8 hgz8; clear A3) | (go_at_call 78; (with_reducible refine (octet_ReadNumber.calls k t264 t265 t267 t268 t269 _ A5.out).mono ?_); rintro e w' ⟨rfl, ⟨nd, rfl⟩⟩; (try first | exact ⟨rfl, _, World.drewN_drewN _ _ _⟩ | exact ⟨rfl, _, Eq.trans (World.drewN_drewN _ _ _) (congrArg (World.drewN _) (Nat.add_assoc _ _ _))⟩); clear A5)); go_upto_region 4 with (first | (go_at_call 77; (with_reducible refine (octet_Reader_Err.calls g s0_0 s0_1 s0_2 t263 t264 t265 t266 w0 _ ?side1 ?side2 A3.out).mono ?_); (case side1 => repeat (first | (with_reducible first | exact HI0.out | apply IsS119.alloc | apply IsS119.drewN | apply IsS119.drew | apply IsS119.set_0 | apply IsS119.set_1 | apply IsS119.set_2) | exact HI0.out)); (case side2 => repeat (first | (with_reducible first | exact HB.out | apply below_alloc | apply pw_below_drewN | apply below_drew1 | refine below_set ?_ (IsS119.ge HI0.out)) | exact HB.out)); rintro e w7 ⟨rfl, hi, hb, hk⟩; replace HK := am (KeepBut.trans (by repeat (first | (with_reducible first | exact HK.out | apply KeepBut.set_ | apply keep_drewN | apply keep_drew | apply keep_alloc) | exact HK.out)) hk (.inl rfl)); replace HB := am (hb); replace HI0 := am (hi); (try clear hb); (try clear hk); (try clear hi); obtain ⟨HGz8, hgz8⟩ := HI0.out; have hcz8_0 := cellS119_0 HGz8; have hcz8_1 := cellS119_1 HGz8; have hcz8_2 := cellS119_2 HGz8; have hfz8_0 := blk_frozen HGz8 0; have hfz8_1 := blk_frozen HGz8 1; have hfz8_2 := blk_frozen HGz8 2; clear HGz8 hgz8; clear A3) | (go_at_call 78; (with_reducible refine (octet_ReadNumber.calls k t264 t265 t267 t268 t269 _ A5.out).mono ?_); rintro e w' ⟨rfl, ⟨nd, rfl⟩⟩; (try first | exact ⟨rfl, _, World.drewN_drewN _ _ _⟩ | exact ⟨rfl, _, Eq.trans (World.drewN_drewN _ _ _) (congrArg (World.drewN _) (Nat.add_assoc _ _ _))⟩); clear A5)))
  (try simp only [Act.put, List.setIfInBounds_toArray, List.set_cons_zero, List.set_cons_succ])
  go_cut [30] (fun v30 wc => ∃ (kq : Nat) (x30_5 : Bool), v30 = .bool x30_5 ∧ Aside0 (octet_Reader_Number.j0 kq t267 t268 t269 x30_5 t264 t265 t266 = some (r1, r2, r3, r4)) ∧ Aside0 (kq ≤ k) ∧ Aside0 (IsS119 w0 wc g t264 t265 t266) ∧ Aside0 (KeepBut w wc g none) ∧ Aside0 (Below w0.heap.size w0 wc))
  case first =>
   have H := HC6.out
   clear HC6
   by_cases c9 : t269 = 0
   ·
    rw [if_pos c9] at H
    have c9b0 := beq_iff_eq.mpr c9
    have c9b1 := bne_eq_false_iff_eq.mpr c9
    clear c9
    (first | rw [c9b0] | (simp only [i64_w, i32_w]; rw [c9b0]) | skip)
    have H' := am H
    clear H
    go_wp2
    repeat (go_quiet (fail); try go_wp2)
    go_meet
    case rel => exact ⟨_, (decide (t267 > a1)), rs, H', ⟨om⟩, ⟨by repeat (first | (with_reducible first | exact HI0.out | apply IsS119.alloc | apply IsS119.drewN | apply IsS119.drew | apply IsS119.set_0 | apply IsS119.set_1 | apply IsS119.set_2) | exact HI0.out)⟩, ⟨by repeat (first | (with_reducible first | exact HK.out | apply KeepBut.set_ | apply keep_drewN | apply keep_drew | apply keep_alloc) | exact HK.out)⟩, ⟨by repeat (first | (with_reducible first | exact HB.out | apply below_alloc | apply pw_below_drewN | apply below_drew1 | refine below_set ?_ (IsS119.ge HI0.out)) | exact HB.out)⟩⟩
   ·
    rw [if_neg c9] at H
    have c9b0 := beq_eq_false_iff_ne.mpr c9
    have c9b1 := bne_iff_ne.mpr c9
    (first | rw [c9b0] | (simp only [i64_w, i32_w]; rw [c9b0]) | skip)
    have H' := am H
    clear H
    go_wp2
    repeat (go_quiet (fail); try go_wp2)
    go_meet
    case rel => exact ⟨_, (false), rs, H', ⟨om⟩, ⟨by repeat (first | (with_reducible first | exact HI0.out | apply IsS119.alloc | apply IsS119.drewN | apply IsS119.drew | apply IsS119.set_0 | apply IsS119.set_1 | apply IsS119.set_2) | exact HI0.out)⟩, ⟨by repeat (first | (with_reducible first | exact HK.out | apply KeepBut.set_ | apply keep_drewN | apply keep_drew | apply keep_alloc) | exact HK.out)⟩, ⟨by repeat (first | (with_reducible first | exact HB.out | apply below_alloc | apply pw_below_drewN | apply below_drew1 | refine below_set ?_ (IsS119.ge HI0.out)) | exact HB.out)⟩⟩
  case rest =>
   clear HC6
   try clear c4
   try clear c4b0
   try clear c4b1
   try clear hcz8_0 hcz8_1 hcz8_2 hfz8_0 hfz8_1 hfz8_2
   obtain ⟨kq, x30_5, rfl, HA, HJ5, HI0, HK, HB⟩ := hcut
   cases kq with
   | zero => exact absurd HA.out (by simp [octet_Reader_Number.j0])
   | succ kj5 =>
    have H := HA.out
    clear HA
    simp only [octet_Reader_Number.j0] at H
    by_cases c10 : x30_5 = true
    ·
     subst c10
     rw [if_pos rfl] at H
     by_cases c11 : 2 = 0
     ·
      exact absurd c11 (by decide)
     ·
      rw [if_neg c11] at H
      have c11b0 := beq_eq_false_iff_ne.mpr c11
      have c11b1 := bne_iff_ne.mpr c11
      simp only [Option.some.injEq, Prod.mk.injEq] at H
      obtain ⟨rfl, rfl, rfl, rfl⟩ := H
      obtain ⟨HGz13, hgz13⟩ := HI0.out
      have hcz13_0 := cellS119_0 HGz13
      have hcz13_1 := cellS119_1 HGz13
      have hcz13_2 := cellS119_2 HGz13
      have hfz13_0 := blk_frozen HGz13 0
      have hfz13_1 := blk_frozen HGz13 1
      have hfz13_2 := blk_frozen HGz13 2
      clear HGz13 hgz13
      go_wp2
      repeat (go_quiet (fail); try go_wp2)
      go_ret
      exact ⟨rf, by repeat (first | (with_reducible first | exact HI0.out | apply IsS119.alloc | apply IsS119.drewN | apply IsS119.drew | apply IsS119.set_0 | apply IsS119.set_1 | apply IsS119.set_2) | exact HI0.out), by repeat (first | (with_reducible first | exact HB.out | apply below_alloc | apply pw_below_drewN | apply below_drew1 | refine below_set ?_ (IsS119.ge HI0.out)) | exact HB.out), by repeat (first | (with_reducible first | exact HK.out | apply KeepBut.set_ | apply keep_drewN | apply keep_drew | apply keep_alloc) | exact HK.out)⟩
    ·
     replace c10 := Bool.eq_false_iff.mpr c10
     subst c10
     rw [if_neg (show ¬ (false = true) by decide)] at H
     by_cases c14 : t269 = 0
     ·
      rw [if_pos c14] at H
      have c14b0 := beq_iff_eq.mpr c14
      have c14b1 := bne_eq_false_iff_eq.mpr c14
      clear c14
      simp only [Option.some.injEq, Prod.mk.injEq] at H
      obtain ⟨rfl, rfl, rfl, rfl⟩ := H
      obtain ⟨HGz15, hgz15⟩ := HI0.out
      have hcz15_0 := cellS119_0 HGz15
      have hcz15_1 := cellS119_1 HGz15
      have hcz15_2 := cellS119_2 HGz15
      have hfz15_0 := blk_frozen HGz15 0
      have hfz15_1 := blk_frozen HGz15 1
      have hfz15_2 := blk_frozen HGz15 2
      clear HGz15 hgz15
      go_wp2
      repeat (go_quiet (fail); try go_wp2)
      go_ret
      exact ⟨rf, by repeat (first | (with_reducible first | exact HI0.out | apply IsS119.alloc | apply IsS119.drewN | apply IsS119.drew | apply IsS119.set_0 | apply IsS119.set_1 | apply IsS119.set_2) | exact HI0.out), by repeat (first | (with_reducible first | exact HB.out | apply below_alloc | apply pw_below_drewN | apply below_drew1 | refine below_set ?_ (IsS119.ge HI0.out)) | exact HB.out), by repeat (first | (with_reducible first | exact HK.out | apply KeepBut.set_ | apply keep_drewN | apply keep_drew | apply keep_alloc) | exact HK.out)⟩
     ·
      rw [if_neg c14] at H
      have c14b0 := beq_eq_false_iff_ne.mpr c14
      have c14b1 := bne_iff_ne.mpr c14
      simp only [Option.some.injEq, Prod.mk.injEq] at H
      obtain ⟨rfl, rfl, rfl, rfl⟩ := H
      obtain ⟨HGz16, hgz16⟩ := HI0.out
      have hcz16_0 := cellS119_0 HGz16
      have hcz16_1 := cellS119_1 HGz16
      have hcz16_2 := cellS119_2 HGz16
      have hfz16_0 := blk_frozen HGz16 0
      have hfz16_1 := blk_frozen HGz16 1
      have hfz16_2 := blk_frozen HGz16 2
      clear HGz16 hgz16
      go_wp2
      repeat (go_quiet (fail); try go_wp2)
      go_ret
      exact ⟨rf, by repeat (first | (with_reducible first | exact HI0.out | apply IsS119.alloc | apply IsS119.drewN | apply IsS119.drew | apply IsS119.set_0 | apply IsS119.set_1 | apply IsS119.set_2) | exact HI0.out), by repeat (first | (with_reducible first | exact HB.out | apply below_alloc | apply pw_below_drewN | apply below_drew1 | refine below_set ?_ (IsS119.ge HI0.out)) | exact HB.out), by repeat (first | (with_reducible first | exact HK.out | apply KeepBut.set_ | apply keep_drewN | apply keep_drew | apply keep_alloc) | exact HK.out)⟩
 ·
  rw [if_neg c4] at H
  have c4b0 := beq_eq_false_iff_ne.mpr c4
  have c4b1 := bne_iff_ne.mpr c4
  simp only [Option.some.injEq, Prod.mk.injEq] at H
  obtain ⟨rfl, rfl, rfl, rfl⟩ := H
  go_enter Tryd.func79, Tryd.ntmps79
  go_wp2_with (first | (go_at_call 77; (with_reducible refine (octet_Reader_Err.calls g s0_0 s0_1 s0_2 t263 t264 t265 t266 w0 _ ?side1 ?side2 A3.out).mono ?_); (case side1 => repeat (first | (with_reducible first | exact HI0.out | apply IsS119.alloc | apply IsS119.drewN | apply IsS119.drew | apply IsS119.set_0 | apply IsS119.set_1 | apply IsS119.set_2) | exact HI0.out)); (case side2 => repeat (first | (with_reducible first | exact HB.out | apply below_alloc | apply pw_below_drewN | apply below_drew1 | refine below_set ?_ (IsS119.ge HI0.out)) | exact HB.out)); rintro e w17 ⟨rfl, hi, hb, hk⟩; replace HK := am (KeepBut.trans (by repeat (first | (with_reducible first | exact HK.out | apply KeepBut.set_ | apply keep_drewN | apply keep_drew | apply keep_alloc) | exact HK.out)) hk (.inl rfl)); replace HB := am (hb); replace HI0 := am (hi); (try clear hb); (try clear hk); (try clear hi)))
  repeat (go_quiet (first | (go_at_call 77; (with_reducible refine (octet_Reader_Err.calls g s0_0 s0_1 s0_2 t263 t264 t265 t266 w0 _ ?side1 ?side2 A3.out).mono ?_); (case side1 => repeat (first | (with_reducible first | exact HI0.out | apply IsS119.alloc | apply IsS119.drewN | apply IsS119.drew | apply IsS119.set_0 | apply IsS119.set_1 | apply IsS119.set_2) | exact HI0.out)); (case side2 => repeat (first | (with_reducible first | exact HB.out | apply below_alloc | apply pw_below_drewN | apply below_drew1 | refine below_set ?_ (IsS119.ge HI0.out)) | exact HB.out)); rintro e w17 ⟨rfl, hi, hb, hk⟩; replace HK := am (KeepBut.trans (by repeat (first | (with_reducible first | exact HK.out | apply KeepBut.set_ | apply keep_drewN | apply keep_drew | apply keep_alloc) | exact HK.out)) hk (.inl rfl)); replace HB := am (hb); replace HI0 := am (hi); (try clear hb); (try clear hk); (try clear hi); clear A3)); try go_wp2_with (first | (go_at_call 77; (with_reducible refine (octet_Reader_Err.calls g s0_0 s0_1 s0_2 t263 t264 t265 t266 w0 _ ?side1 ?side2 A3.out).mono ?_); (case side1 => repeat (first | (with_reducible first | exact HI0.out | apply IsS119.alloc | apply IsS119.drewN | apply IsS119.drew | apply IsS119.set_0 | apply IsS119.set_1 | apply IsS119.set_2) | exact HI0.out)); (case side2 => repeat (first | (with_reducible first | exact HB.out | apply below_alloc | apply pw_below_drewN | apply below_drew1 | refine below_set ?_ (IsS119.ge HI0.out)) | exact HB.out)); rintro e w17 ⟨rfl, hi, hb, hk⟩; replace HK := am (KeepBut.trans (by repeat (first | (with_reducible first | exact HK.out | apply KeepBut.set_ | apply keep_drewN | apply keep_drew | apply keep_alloc) | exact HK.out)) hk (.inl rfl)); replace HB := am (hb); replace HI0 := am (hi); (try clear hb); (try clear hk); (try clear hi); clear A3)))
  go_ret
  exact ⟨rf, by repeat (first | (with_reducible first | exact HI0.out | apply IsS119.alloc | apply IsS119.drewN | apply IsS119.drew | apply IsS119.set_0 | apply IsS119.set_1 | apply IsS119.set_2) | exact HI0.out), by repeat (first | (with_reducible first | exact HB.out | apply below_alloc | apply pw_below_drewN | apply below_drew1 | refine below_set ?_ (IsS119.ge HI0.out)) | exact HB.out), by repeat (first | (with_reducible first | exact HK.out | apply KeepBut.set_ | apply keep_drewN | apply keep_drew | apply keep_alloc) | exact HK.out)⟩
def octet_Reader_Int.f (k : Nat) (s0_0 : ByteArray) (s0_1 : Int) (s0_2 : Int) (a1 : Int) : Option (Int × ByteArray × Int × Int) := if a1 < 0 then ((octet_Reader_Err.f s0_0 s0_1 s0_2).bind fun bt270 => (if bt270.1 = 0 then ((octet_ReadNumber.f k bt270.2.1 bt270.2.2.1).bind fun bt274 => (if bt274.2.2 = 0 then (some (0, bt270.2.1, bt270.2.2.1, 2)) else (some (0, bt270.2.1, bt270.2.2.1, bt274.2.2)))) else (some (0, bt270.2.1, bt270.2.2.1, bt270.2.2.2)))) else ((octet_Reader_Number.f k s0_0 s0_1 s0_2 (IntKind.u64.wrap (a1))).bind fun bt277 => (some (wrap64 (bt277.1), bt277.2.1, bt277.2.2.1, bt277.2.2.2)))
theorem octet_Reader_Int.mono : ∀ a0 a1 a2 a3 k, LeO (octet_Reader_Int.f k a0 a1 a2 a3) (octet_Reader_Int.f (k + 1) a0 a1 a2 a3) := by
 intro a0 a1 a2 a3 k
 unfold octet_Reader_Int.f
 repeat' (with_reducible first | exact octet_ReadNumber.mono _ _ _ | exact octet_Reader_Number.mono _ _ _ _ _ | exact LeO.refl _ | exact LeO.none _ | refine LeO.ite ?_ ?_ | refine LeO.bind ?_ (fun _ => ?_))
set_option maxHeartbeats 8000000 in
set_option maxRecDepth 100000 in
theorem octet_Reader_Int.calls (k : Nat) (g : Nat) (s0_0 : ByteArray) (s0_1 : Int) (s0_2 : Int) (a1 : Int) (r1 : Int) (r2 : ByteArray) (r3 : Int) (r4 : Int) (w0 w : World) (hI : IsS119 w0 w g s0_0 s0_1 s0_2) (hB : Below w0.heap.size w0 w) (h : octet_Reader_Int.f k s0_0 s0_1 s0_2 a1 = some (r1, r2, r3, r4)) :
  Calls Tryd.prog 47 #[.pointer (some ⟨g, 0, none⟩), .int .i64 a1] w fun e w' => e = .returned (.int .i64 r1) ∧ IsS119 w0 w' g r2 r3 r4 ∧ Below w0.heap.size w0 w' ∧ KeepBut w w' g none := by
 have HI0 := am hI
 have HK := am (KeepBut.refl w g none)
 have HL := am hB.size
 clear hI
 have HW0 := am hB.size
 have HB := am hB
 clear hB
 have H := h
 clear h
 unfold octet_Reader_Int.f at H
 replace H := iteD H
 rcases H with ⟨c3b0, H⟩ | ⟨c3b0, H⟩
 ·
  replace H := obE H
  obtain ⟨⟨t270, t271, t272, t273⟩, A4, H⟩ := H
  try dsimp only at H
  by_cases c5 : t270 = 0
  ·
   rw [if_pos c5] at H
   have c5b0 := beq_iff_eq.mpr c5
   have c5b1 := bne_eq_false_iff_eq.mpr c5
   clear c5
   replace H := obE H
   obtain ⟨⟨t274, t275, t276⟩, A6, H⟩ := H
   try dsimp only at H
   by_cases c7 : t276 = 0
   ·
    rw [if_pos c7] at H
    have c7b0 := beq_iff_eq.mpr c7
    have c7b1 := bne_eq_false_iff_eq.mpr c7
    clear c7
    simp only [Option.some.injEq, Prod.mk.injEq] at H
    obtain ⟨rfl, rfl, rfl, rfl⟩ := H
    go_enter Tryd.func47, Tryd.ntmps47
    go_wp2_with (first | (go_at_call 77; (with_reducible refine (octet_Reader_Err.calls g s0_0 s0_1 s0_2 t270 t271 t272 t273 w0 _ ?side1 ?side2 A4.out).mono ?_); (case side1 => repeat (first | (with_reducible first | exact HI0.out | apply IsS119.alloc | apply IsS119.drewN | apply IsS119.drew | apply IsS119.set_0 | apply IsS119.set_1 | apply IsS119.set_2) | exact HI0.out)); (case side2 => repeat (first | (with_reducible first | exact HB.out | apply below_alloc | apply pw_below_drewN | apply below_drew1 | refine below_set ?_ (IsS119.ge HI0.out)) | exact HB.out)); rintro e w8 ⟨rfl, hi, hb, hk⟩; replace HK := am (KeepBut.trans (by repeat (first | (with_reducible first | exact HK.out | apply KeepBut.set_ | apply keep_drewN | apply keep_drew | apply keep_alloc) | exact HK.out)) hk (.inl rfl)); replace HB := am (hb); replace HI0 := am (hi); (try clear hb); (try clear hk); (try clear hi); obtain ⟨HGz9, hgz9⟩ := HI0.out; have hcz9_0 := cellS119_0 HGz9; have hcz9_1 := cellS119_1 HGz9; have hcz9_2 := cellS119_2 HGz9; have hfz9_0 := blk_frozen HGz9 0; have hfz9_1 := blk_frozen HGz9 1; have hfz9_2 := blk_frozen HGz9 2; clear HGz9 hgz9) | (go_at_call 78; (with_reducible refine (octet_ReadNumber.calls k t271 t272 t274 t275 t276 _ A6.out).mono ?_); rintro e w' ⟨rfl, ⟨nd, rfl⟩⟩; (try first | exact ⟨rfl, _, World.drewN_drewN _ _ _⟩ | exact ⟨rfl, _, Eq.trans (World.drewN_drewN _ _ _) (congrArg (World.drewN _) (Nat.add_assoc _ _ _))⟩)))
    repeat (go_quiet (first | (go_at_call 77; (with_reducible refine (octet_Reader_Err.calls g s0_0 s0_1 s0_2 t270 t271 t272 t273 w0 _ ?side1 ?side2 A4.out).mono ?_); (case side1 => repeat (first | (with_reducible first | exact HI0.out | apply IsS119.alloc | apply IsS119.drewN | apply IsS119.drew | apply IsS119.set_0 | apply IsS119.set_1 | apply IsS119.set_2) | exact HI0.out)); (case side2 => repeat (first | (with_reducible first | exact HB.out | apply below_alloc | apply pw_below_drewN | apply below_drew1 | refine below_set ?_ (IsS119.ge HI0.out)) | exact HB.out)); rintro e w8 ⟨rfl, hi, hb, hk⟩; replace HK := am (KeepBut.trans (by repeat (first | (with_reducible first | exact HK.out | apply KeepBut.set_ | apply keep_drewN | apply keep_drew | apply keep_alloc) | exact HK.out)) hk (.inl rfl)); replace HB := am (hb); replace HI0 := am (hi); (try clear hb); (try clear hk); (try clear hi); obtain ⟨HGz9, hgz9⟩ := HI0.out; have hcz9_0 := cellS119_0 HGz9; have hcz9_1 := cellS119_1 HGz9; have hcz9_2 := cellS119_2 HGz9; have hfz9_0 := blk_frozen HGz9 0; have hfz9_1 := blk_frozen HGz9 1; have hfz9_2 := blk_frozen HGz9 2; clear HGz9 hgz9; clear A4) | (go_at_call 78; (with_reducible refine (octet_ReadNumber.calls k t271 t272 t274 t275 t276 _ A6.out).mono ?_); rintro e w' ⟨rfl, ⟨nd, rfl⟩⟩; (try first | exact ⟨rfl, _, World.drewN_drewN _ _ _⟩ | exact ⟨rfl, _, Eq.trans (World.drewN_drewN _ _ _) (congrArg (World.drewN _) (Nat.add_assoc _ _ _))⟩); clear A6)); try go_wp2_with (first | (go_at_call 77; (with_reducible refine (octet_Reader_Err.calls g s0_0 s0_1 s0_2 t270 t271 t272 t273 w0 _ ?side1 ?side2 A4.out).mono ?_); (case side1 => repeat (first | (with_reducible first | exact HI0.out | apply IsS119.alloc | apply IsS119.drewN | apply IsS119.drew | apply IsS119.set_0 | apply IsS119.set_1 | apply IsS119.set_2) | exact HI0.out)); (case side2 => repeat (first | (with_reducible first | exact HB.out | apply below_alloc | apply pw_below_drewN | apply below_drew1 | refine below_set ?_ (IsS119.ge HI0.out)) | exact HB.out)); rintro e w8 ⟨rfl, hi, hb, hk⟩; replace HK := am (KeepBut.trans (by repeat (first | (with_reducible first | exact HK.out | apply KeepBut.set_ | apply keep_drewN | apply keep_drew | apply keep_alloc) | exact HK.out)) hk (.inl rfl)); replace HB := am (hb); replace HI0 := am (hi); (try clear hb); (try clear hk); (try clear hi); obtain ⟨HGz9, hgz9⟩ := HI0.out; have hcz9_0 := cellS119_0 HGz9; have hcz9_1 := cellS119_1 HGz9; have hcz9_2 := cellS119_2 HGz9; have hfz9_0 := blk_frozen HGz9 0; have hfz9_1 := blk_frozen HGz9 1; have hfz9_2 := blk_frozen HGz9 2; clear HGz9 hgz9; clear A4) | (go_at_call 78; (with_reducible refine (octet_ReadNumber.calls k t271 t272 t274 t275 t276 _ A6.out).mono ?_); rintro e w' ⟨rfl, ⟨nd, rfl⟩⟩; (try first | exact ⟨rfl, _, World.drewN_drewN _ _ _⟩ | exact ⟨rfl, _, Eq.trans (World.drewN_drewN _ _ _) (congrArg (World.drewN _) (Nat.add_assoc _ _ _))⟩); clear A6)))
    go_ret
    exact ⟨rf, by repeat (first | (with_reducible first | exact HI0.out | apply IsS119.alloc | apply IsS119.drewN | apply IsS119.drew | apply IsS119.set_0 | apply IsS119.set_1 | apply IsS119.set_2) | exact HI0.out), by repeat (first | (with_reducible first | exact HB.out | apply below_alloc | apply pw_below_drewN | apply below_drew1 | refine below_set ?_ (IsS119.ge HI0.out)) | exact HB.out), by repeat (first | (with_reducible first | exact HK.out | apply KeepBut.set_ | apply keep_drewN | apply keep_drew | apply keep_alloc) | exact HK.out)⟩
   ·
    rw [if_neg c7] at H
    have c7b0 := beq_eq_false_iff_ne.mpr c7
    have c7b1 := bne_iff_ne.mpr c7
    simp only [Option.some.injEq, Prod.mk.injEq] at H
    obtain ⟨rfl, rfl, rfl, rfl⟩ := H
    go_enter Tryd.func47, Tryd.ntmps47
    go_wp2_with (first | (go_at_call 77; (with_reducible refine (octet_Reader_Err.calls g s0_0 s0_1 s0_2 t270 t271 t272 t273 w0 _ ?side1 ?side2 A4.out).mono ?_); (case side1 => repeat (first | (with_reducible first | exact HI0.out | apply IsS119.alloc | apply IsS119.drewN | apply IsS119.drew | apply IsS119.set_0 | apply IsS119.set_1 | apply IsS119.set_2) | exact HI0.out)); (case side2 => repeat (first | (with_reducible first | exact HB.out | apply below_alloc | apply pw_below_drewN | apply below_drew1 | refine below_set ?_ (IsS119.ge HI0.out)) | exact HB.out)); rintro e w10 ⟨rfl, hi, hb, hk⟩; replace HK := am (KeepBut.trans (by repeat (first | (with_reducible first | exact HK.out | apply KeepBut.set_ | apply keep_drewN | apply keep_drew | apply keep_alloc) | exact HK.out)) hk (.inl rfl)); replace HB := am (hb); replace HI0 := am (hi); (try clear hb); (try clear hk); (try clear hi); obtain ⟨HGz11, hgz11⟩ := HI0.out; have hcz11_0 := cellS119_0 HGz11; have hcz11_1 := cellS119_1 HGz11; have hcz11_2 := cellS119_2 HGz11; have hfz11_0 := blk_frozen HGz11 0; have hfz11_1 := blk_frozen HGz11 1; have hfz11_2 := blk_frozen HGz11 2; clear HGz11 hgz11) | (go_at_call 78; (with_reducible refine (octet_ReadNumber.calls k t271 t272 t274 t275 t276 _ A6.out).mono ?_); rintro e w' ⟨rfl, ⟨nd, rfl⟩⟩; (try first | exact ⟨rfl, _, World.drewN_drewN _ _ _⟩ | exact ⟨rfl, _, Eq.trans (World.drewN_drewN _ _ _) (congrArg (World.drewN _) (Nat.add_assoc _ _ _))⟩)))
    repeat (go_quiet (first | (go_at_call 77; (with_reducible refine (octet_Reader_Err.calls g s0_0 s0_1 s0_2 t270 t271 t272 t273 w0 _ ?side1 ?side2 A4.out).mono ?_); (case side1 => repeat (first | (with_reducible first | exact HI0.out | apply IsS119.alloc | apply IsS119.drewN | apply IsS119.drew | apply IsS119.set_0 | apply IsS119.set_1 | apply IsS119.set_2) | exact HI0.out)); (case side2 => repeat (first | (with_reducible first | exact HB.out | apply below_alloc | apply pw_below_drewN | apply below_drew1 | refine below_set ?_ (IsS119.ge HI0.out)) | exact HB.out)); rintro e w10 ⟨rfl, hi, hb, hk⟩; replace HK := am (KeepBut.trans (by repeat (first | (with_reducible first | exact HK.out | apply KeepBut.set_ | apply keep_drewN | apply keep_drew | apply keep_alloc) | exact HK.out)) hk (.inl rfl)); replace HB := am (hb); replace HI0 := am (hi); (try clear hb); (try clear hk); (try clear hi); obtain ⟨HGz11, hgz11⟩ := HI0.out; have hcz11_0 := cellS119_0 HGz11; have hcz11_1 := cellS119_1 HGz11; have hcz11_2 := cellS119_2 HGz11; have hfz11_0 := blk_frozen HGz11 0; have hfz11_1 := blk_frozen HGz11 1; have hfz11_2 := blk_frozen HGz11 2; clear HGz11 hgz11; clear A4) | (go_at_call 78; (with_reducible refine (octet_ReadNumber.calls k t271 t272 t274 t275 t276 _ A6.out).mono ?_); rintro e w' ⟨rfl, ⟨nd, rfl⟩⟩; (try first | exact ⟨rfl, _, World.drewN_drewN _ _ _⟩ | exact ⟨rfl, _, Eq.trans (World.drewN_drewN _ _ _) (congrArg (World.drewN _) (Nat.add_assoc _ _ _))⟩); clear A6)); try go_wp2_with (first | (go_at_call 77; (with_reducible refine (octet_Reader_Err.calls g s0_0 s0_1 s0_2 t270 t271 t272 t273 w0 _ ?side1 ?side2 A4.out).mono ?_); (case side1 => repeat (first | (with_reducible first | exact HI0.out | apply IsS119.alloc | apply IsS119.drewN | apply IsS119.drew | apply IsS119.set_0 | apply IsS119.set_1 | apply IsS119.set_2) | exact HI0.out)); (case side2 => repeat (first | (with_reducible first | exact HB.out | apply below_alloc | apply pw_below_drewN | apply below_drew1 | refine below_set ?_ (IsS119.ge HI0.out)) | exact HB.out)); rintro e w10 ⟨rfl, hi, hb, hk⟩; replace HK := am (KeepBut.trans (by repeat (first | (with_reducible first | exact HK.out | apply KeepBut.set_ | apply keep_drewN | apply keep_drew | apply keep_alloc) | exact HK.out)) hk (.inl rfl)); replace HB := am (hb); replace HI0 := am (hi); (try clear hb); (try clear hk); (try clear hi); obtain ⟨HGz11, hgz11⟩ := HI0.out; have hcz11_0 := cellS119_0 HGz11; have hcz11_1 := cellS119_1 HGz11; have hcz11_2 := cellS119_2 HGz11; have hfz11_0 := blk_frozen HGz11 0; have hfz11_1 := blk_frozen HGz11 1; have hfz11_2 := blk_frozen HGz11 2; clear HGz11 hgz11; clear A4) | (go_at_call 78; (with_reducible refine (octet_ReadNumber.calls k t271 t272 t274 t275 t276 _ A6.out).mono ?_); rintro e w' ⟨rfl, ⟨nd, rfl⟩⟩; (try first | exact ⟨rfl, _, World.drewN_drewN _ _ _⟩ | exact ⟨rfl, _, Eq.trans (World.drewN_drewN _ _ _) (congrArg (World.drewN _) (Nat.add_assoc _ _ _))⟩); clear A6)))
    go_ret
    exact ⟨rf, by repeat (first | (with_reducible first | exact HI0.out | apply IsS119.alloc | apply IsS119.drewN | apply IsS119.drew | apply IsS119.set_0 | apply IsS119.set_1 | apply IsS119.set_2) | exact HI0.out), by repeat (first | (with_reducible first | exact HB.out | apply below_alloc | apply pw_below_drewN | apply below_drew1 | refine below_set ?_ (IsS119.ge HI0.out)) | exact HB.out), by repeat (first | (with_reducible first | exact HK.out | apply KeepBut.set_ | apply keep_drewN | apply keep_drew | apply keep_alloc) | exact HK.out)⟩
  ·
   rw [if_neg c5] at H
   have c5b0 := beq_eq_false_iff_ne.mpr c5
   have c5b1 := bne_iff_ne.mpr c5
   simp only [Option.some.injEq, Prod.mk.injEq] at H
   obtain ⟨rfl, rfl, rfl, rfl⟩ := H
   go_enter Tryd.func47, Tryd.ntmps47
   go_wp2_with (first | (go_at_call 77; (with_reducible refine (octet_Reader_Err.calls g s0_0 s0_1 s0_2 t270 t271 t272 t273 w0 _ ?side1 ?side2 A4.out).mono ?_); (case side1 => repeat (first | (with_reducible first | exact HI0.out | apply IsS119.alloc | apply IsS119.drewN | apply IsS119.drew | apply IsS119.set_0 | apply IsS119.set_1 | apply IsS119.set_2) | exact HI0.out)); (case side2 => repeat (first | (with_reducible first | exact HB.out | apply below_alloc | apply pw_below_drewN | apply below_drew1 | refine below_set ?_ (IsS119.ge HI0.out)) | exact HB.out)); rintro e w12 ⟨rfl, hi, hb, hk⟩; replace HK := am (KeepBut.trans (by repeat (first | (with_reducible first | exact HK.out | apply KeepBut.set_ | apply keep_drewN | apply keep_drew | apply keep_alloc) | exact HK.out)) hk (.inl rfl)); replace HB := am (hb); replace HI0 := am (hi); (try clear hb); (try clear hk); (try clear hi)))
   repeat (go_quiet (first | (go_at_call 77; (with_reducible refine (octet_Reader_Err.calls g s0_0 s0_1 s0_2 t270 t271 t272 t273 w0 _ ?side1 ?side2 A4.out).mono ?_); (case side1 => repeat (first | (with_reducible first | exact HI0.out | apply IsS119.alloc | apply IsS119.drewN | apply IsS119.drew | apply IsS119.set_0 | apply IsS119.set_1 | apply IsS119.set_2) | exact HI0.out)); (case side2 => repeat (first | (with_reducible first | exact HB.out | apply below_alloc | apply pw_below_drewN | apply below_drew1 | refine below_set ?_ (IsS119.ge HI0.out)) | exact HB.out)); rintro e w12 ⟨rfl, hi, hb, hk⟩; replace HK := am (KeepBut.trans (by repeat (first | (with_reducible first | exact HK.out | apply KeepBut.set_ | apply keep_drewN | apply keep_drew | apply keep_alloc) | exact HK.out)) hk (.inl rfl)); replace HB := am (hb); replace HI0 := am (hi); (try clear hb); (try clear hk); (try clear hi); clear A4)); try go_wp2_with (first | (go_at_call 77; (with_reducible refine (octet_Reader_Err.calls g s0_0 s0_1 s0_2 t270 t271 t272 t273 w0 _ ?side1 ?side2 A4.out).mono ?_); (case side1 => repeat (first | (with_reducible first | exact HI0.out | apply IsS119.alloc | apply IsS119.drewN | apply IsS119.drew | apply IsS119.set_0 | apply IsS119.set_1 | apply IsS119.set_2) | exact HI0.out)); (case side2 => repeat (first | (with_reducible first | exact HB.out | apply below_alloc | apply pw_below_drewN | apply below_drew1 | refine below_set ?_ (IsS119.ge HI0.out)) | exact HB.out)); rintro e w12 ⟨rfl, hi, hb, hk⟩; replace HK := am (KeepBut.trans (by repeat (first | (with_reducible first | exact HK.out | apply KeepBut.set_ | apply keep_drewN | apply keep_drew | apply keep_alloc) | exact HK.out)) hk (.inl rfl)); replace HB := am (hb); replace HI0 := am (hi); (try clear hb); (try clear hk); (try clear hi); clear A4)))
   go_ret
   exact ⟨rf, by repeat (first | (with_reducible first | exact HI0.out | apply IsS119.alloc | apply IsS119.drewN | apply IsS119.drew | apply IsS119.set_0 | apply IsS119.set_1 | apply IsS119.set_2) | exact HI0.out), by repeat (first | (with_reducible first | exact HB.out | apply below_alloc | apply pw_below_drewN | apply below_drew1 | refine below_set ?_ (IsS119.ge HI0.out)) | exact HB.out), by repeat (first | (with_reducible first | exact HK.out | apply KeepBut.set_ | apply keep_drewN | apply keep_drew | apply keep_alloc) | exact HK.out)⟩
 ·
  replace H := obE H
  obtain ⟨⟨t277, t278, t279, t280⟩, A13, H⟩ := H
  try dsimp only at H
  simp only [Option.some.injEq, Prod.mk.injEq] at H
  obtain ⟨rfl, rfl, rfl, rfl⟩ := H
  go_enter Tryd.func47, Tryd.ntmps47
  go_wp2_with (first | (go_at_call 79; (with_reducible refine (octet_Reader_Number.calls k g s0_0 s0_1 s0_2 (IntKind.u64.wrap (a1)) t277 t278 t279 t280 w0 _ ?side1 ?side2 A13.out).mono ?_); (case side1 => repeat (first | (with_reducible first | exact HI0.out | apply IsS119.alloc | apply IsS119.drewN | apply IsS119.drew | apply IsS119.set_0 | apply IsS119.set_1 | apply IsS119.set_2) | exact HI0.out)); (case side2 => repeat (first | (with_reducible first | exact HB.out | apply below_alloc | apply pw_below_drewN | apply below_drew1 | refine below_set ?_ (IsS119.ge HI0.out)) | exact HB.out)); rintro e w14 ⟨rfl, hi, hb, hk⟩; replace HK := am (KeepBut.trans (by repeat (first | (with_reducible first | exact HK.out | apply KeepBut.set_ | apply keep_drewN | apply keep_drew | apply keep_alloc) | exact HK.out)) hk (.inl rfl)); replace HB := am (hb); replace HI0 := am (hi); (try clear hb); (try clear hk); (try clear hi)))
  repeat (go_quiet (first | (go_at_call 79; (with_reducible refine (octet_Reader_Number.calls k g s0_0 s0_1 s0_2 (IntKind.u64.wrap (a1)) t277 t278 t279 t280 w0 _ ?side1 ?side2 A13.out).mono ?_); (case side1 => repeat (first | (with_reducible first | exact HI0.out | apply IsS119.alloc | apply IsS119.drewN | apply IsS119.drew | apply IsS119.set_0 | apply IsS119.set_1 | apply IsS119.set_2) | exact HI0.out)); (case side2 => repeat (first | (with_reducible first | exact HB.out | apply below_alloc | apply pw_below_drewN | apply below_drew1 | refine below_set ?_ (IsS119.ge HI0.out)) | exact HB.out)); rintro e w14 ⟨rfl, hi, hb, hk⟩; replace HK := am (KeepBut.trans (by repeat (first | (with_reducible first | exact HK.out | apply KeepBut.set_ | apply keep_drewN | apply keep_drew | apply keep_alloc) | exact HK.out)) hk (.inl rfl)); replace HB := am (hb); replace HI0 := am (hi); (try clear hb); (try clear hk); (try clear hi); clear A13)); try go_wp2_with (first | (go_at_call 79; (with_reducible refine (octet_Reader_Number.calls k g s0_0 s0_1 s0_2 (IntKind.u64.wrap (a1)) t277 t278 t279 t280 w0 _ ?side1 ?side2 A13.out).mono ?_); (case side1 => repeat (first | (with_reducible first | exact HI0.out | apply IsS119.alloc | apply IsS119.drewN | apply IsS119.drew | apply IsS119.set_0 | apply IsS119.set_1 | apply IsS119.set_2) | exact HI0.out)); (case side2 => repeat (first | (with_reducible first | exact HB.out | apply below_alloc | apply pw_below_drewN | apply below_drew1 | refine below_set ?_ (IsS119.ge HI0.out)) | exact HB.out)); rintro e w14 ⟨rfl, hi, hb, hk⟩; replace HK := am (KeepBut.trans (by repeat (first | (with_reducible first | exact HK.out | apply KeepBut.set_ | apply keep_drewN | apply keep_drew | apply keep_alloc) | exact HK.out)) hk (.inl rfl)); replace HB := am (hb); replace HI0 := am (hi); (try clear hb); (try clear hk); (try clear hi); clear A13)))
  go_ret
  exact ⟨rf, by repeat (first | (with_reducible first | exact HI0.out | apply IsS119.alloc | apply IsS119.drewN | apply IsS119.drew | apply IsS119.set_0 | apply IsS119.set_1 | apply IsS119.set_2) | exact HI0.out), by repeat (first | (with_reducible first | exact HB.out | apply below_alloc | apply pw_below_drewN | apply below_drew1 | refine below_set ?_ (IsS119.ge HI0.out)) | exact HB.out), by repeat (first | (with_reducible first | exact HK.out | apply KeepBut.set_ | apply keep_drewN | apply keep_drew | apply keep_alloc) | exact HK.out)⟩
end Go.Proofs.YtdidopoalmkhlaaDoor.Ot
end
section
namespace Go.Proofs.YtdidopoalmkhlaaDoor.Ot
open Go.RowKit Go.Proofs.YtdidopoalmkhlaaDoorW.PrintWords Go.Proofs.YtdidopoalmkhlaaDoorW.PrintLast Go.Proofs.YtdidopoalmkhlaaDoorW.PrintMore
attribute [local go_sem] max2_int min2_int max_two min_two max_three min_three max_four min_four
set_option linter.unusedVariables false
set_option linter.unusedSimpArgs false
def octet_ReadText.f (k : Nat) (a0 : ByteArray) (a1 : Int) : Option (ByteArray × Int × Int) := (octet_ReadNumber.f k a0 a1).bind fun bt281 => (if bt281.2.2 = 0 then (if bt281.1 > (IntKind.u64.wrap (wrap64 ((a0.size : Int) - bt281.2.1))) then (some ((⟨#[]⟩ : ByteArray), 0, 5)) else (if 0 ≤ bt281.2.1 then (if bt281.2.1 ≤ (wrap64 (bt281.2.1 + (wrap64 (bt281.1)))) then (if (wrap64 (bt281.2.1 + (wrap64 (bt281.1)))) ≤ (a0.size : Int) then (some (a0.extract (bt281.2.1 : Int).toNat ((wrap64 (bt281.2.1 + (wrap64 (bt281.1)))) : Int).toNat, wrap64 (bt281.2.1 + (wrap64 (bt281.1))), 0)) else (none)) else (none)) else (none))) else (some ((⟨#[]⟩ : ByteArray), 0, bt281.2.2)))
theorem octet_ReadText.mono : ∀ a0 a1 k, LeO (octet_ReadText.f k a0 a1) (octet_ReadText.f (k + 1) a0 a1) := by
 intro a0 a1 k
 unfold octet_ReadText.f
 repeat' (with_reducible first | exact octet_ReadNumber.mono _ _ _ | exact LeO.refl _ | exact LeO.none _ | refine LeO.ite ?_ ?_ | refine LeO.bind ?_ (fun _ => ?_))
set_option maxHeartbeats 8000000 in
set_option maxRecDepth 100000 in
theorem octet_ReadText.calls (k : Nat) (a0 : ByteArray) (a1 : Int) (r1 : ByteArray) (r2 : Int) (r3 : Int) (w : World) (h : octet_ReadText.f k a0 a1 = some (r1, r2, r3)) :
  Calls Tryd.prog 80 #[.string a0, .int .i64 a1] w fun e w' => e = .returned (.tuple #[.string r1, .int .i64 r2, .int .i64 r3]) ∧ Drawn0 w w' := by
 have H := h
 clear h
 unfold octet_ReadText.f at H
 replace H := obE H
 obtain ⟨⟨t281, t282, t283⟩, A3, H⟩ := H
 try dsimp only at H
 by_cases c4 : t283 = 0
 ·
  rw [if_pos c4] at H
  have c4b0 := beq_iff_eq.mpr c4
  have c4b1 := bne_eq_false_iff_eq.mpr c4
  clear c4
  replace H := iteD H
  rcases H with ⟨c5b0, H⟩ | ⟨c5b0, H⟩
  ·
   simp only [Option.some.injEq, Prod.mk.injEq] at H
   obtain ⟨rfl, rfl, rfl⟩ := H
   go_enter Tryd.func80, Tryd.ntmps80
   go_wp2_with (first | ((with_reducible refine gate_callee (f := 78) rfl ?_); refine goesL_ (some 13) rfl rfl Tryd.func78 (by kernel_rfl) rfl #[.string a0, .int .i64 a1] rfl gl ?_; (with_reducible refine (octet_ReadNumber.calls k a0 a1 t281 t282 t283 _ A3.out).mono ?_); rintro e w' ⟨rfl, ⟨nd, rfl⟩⟩; refine ⟨_, rfl, ?_⟩))
   go_ret3
   exact ⟨by first | rfl | (simp; done) | (simp [*]; done), by repeat (first | exact Drawn0.refl _ | apply Drawn0.step)⟩
  ·
   by_cases c6 : 0 ≤ t282
   ·
    rw [if_pos c6] at H
    have c6b0 := eq_true c6
    have c6b1 := decide_eq_true c6
    clear c6
    by_cases c7 : t282 ≤ (wrap64 (t282 + (wrap64 (t281))))
    ·
     rw [if_pos c7] at H
     have c7b0 := eq_true c7
     have c7b1 := decide_eq_true c7
     by_cases c8 : (wrap64 (t282 + (wrap64 (t281)))) ≤ (a0.size : Int)
     ·
      rw [if_pos c8] at H
      have c8b0 := eq_true c8
      have c8b1 := decide_eq_true c8
      simp only [Option.some.injEq, Prod.mk.injEq] at H
      obtain ⟨rfl, rfl, rfl⟩ := H
      go_enter Tryd.func80, Tryd.ntmps80
      go_wp2_with (first | ((with_reducible refine gate_callee (f := 78) rfl ?_); refine goesL_ (some 13) rfl rfl Tryd.func78 (by kernel_rfl) rfl #[.string a0, .int .i64 a1] rfl gl ?_; (with_reducible refine (octet_ReadNumber.calls k a0 a1 t281 t282 t283 _ A3.out).mono ?_); rintro e w' ⟨rfl, ⟨nd, rfl⟩⟩; refine ⟨_, rfl, ?_⟩))
      go_ret3
      exact ⟨by first | rfl | (simp; done) | (simp [*]; done), by repeat (first | exact Drawn0.refl _ | apply Drawn0.step)⟩
     ·
      rw [if_neg c8] at H
      exact absurd H (by simp)
    ·
     rw [if_neg c7] at H
     exact absurd H (by simp)
   ·
    rw [if_neg c6] at H
    exact absurd H (by simp)
 ·
  rw [if_neg c4] at H
  have c4b0 := beq_eq_false_iff_ne.mpr c4
  have c4b1 := bne_iff_ne.mpr c4
  simp only [Option.some.injEq, Prod.mk.injEq] at H
  obtain ⟨rfl, rfl, rfl⟩ := H
  go_enter Tryd.func80, Tryd.ntmps80
  go_wp2_with (first | ((with_reducible refine gate_callee (f := 78) rfl ?_); refine goesL_ (some 13) rfl rfl Tryd.func78 (by kernel_rfl) rfl #[.string a0, .int .i64 a1] rfl gl ?_; (with_reducible refine (octet_ReadNumber.calls k a0 a1 t281 t282 t283 _ A3.out).mono ?_); rintro e w' ⟨rfl, ⟨nd, rfl⟩⟩; refine ⟨_, rfl, ?_⟩))
  go_ret3
  exact ⟨by first | rfl | (simp; done) | (simp [*]; done), by repeat (first | exact Drawn0.refl _ | apply Drawn0.step)⟩
def octet_Reader_Text.j0 : Nat → ByteArray → Int → Int → Bool → ByteArray → Int → Int → Option (ByteArray × ByteArray × Int × Int)
 | 0, _, _, _, _, _, _, _ => none
 | k + 1, x5, x6, x7, x31, x1000, x1001, x1002 => if x31 = true then (if 2 = 0 then (some (x5, x1000, x6, x1002)) else (some ((⟨#[]⟩ : ByteArray), x1000, x1001, 2))) else (if x7 = 0 then (some (x5, x1000, x6, x1002)) else (some ((⟨#[]⟩ : ByteArray), x1000, x1001, x7)))
def octet_Reader_Text.f (k : Nat) (s0_0 : ByteArray) (s0_1 : Int) (s0_2 : Int) (a1 : Int) : Option (ByteArray × ByteArray × Int × Int) := (octet_Reader_Err.f s0_0 s0_1 s0_2).bind fun bt284 => (if bt284.1 = 0 then ((octet_ReadText.f k bt284.2.1 bt284.2.2.1).bind fun bt288 => (if bt288.2.2 = 0 then (octet_Reader_Text.j0 k bt288.1 bt288.2.1 bt288.2.2 (decide ((bt288.1.size : Int) > a1)) bt284.2.1 bt284.2.2.1 bt284.2.2.2) else (octet_Reader_Text.j0 k bt288.1 bt288.2.1 bt288.2.2 false bt284.2.1 bt284.2.2.1 bt284.2.2.2))) else (some ((⟨#[]⟩ : ByteArray), bt284.2.1, bt284.2.2.1, bt284.2.2.2)))
theorem octet_Reader_Text.mono_l : ∀ k, (∀ y0 y1 y2 y3 y4 y5 y6, LeO (octet_Reader_Text.j0 k y0 y1 y2 y3 y4 y5 y6) (octet_Reader_Text.j0 (k + 1) y0 y1 y2 y3 y4 y5 y6))
 | 0 => fun _ _ _ _ _ _ _ r h => by simp [octet_Reader_Text.j0] at h
 | k + 1 => by
  have ih0 := octet_Reader_Text.mono_l k
  ·
   intro y0 y1 y2 y3 y4 y5 y6
   unfold octet_Reader_Text.j0
   repeat' (with_reducible first | exact ih0 _ _ _ _ _ _ _ | exact octet_ReadText.mono _ _ _ | exact LeO.refl _ | exact LeO.none _ | refine LeO.ite ?_ ?_ | refine LeO.bind ?_ (fun _ => ?_))
theorem octet_Reader_Text.mono : ∀ a0 a1 a2 a3 k, LeO (octet_Reader_Text.f k a0 a1 a2 a3) (octet_Reader_Text.f (k + 1) a0 a1 a2 a3) := by
 intro a0 a1 a2 a3 k
 have ih0 := octet_Reader_Text.mono_l k
 unfold octet_Reader_Text.f
 repeat' (with_reducible first | exact ih0 _ _ _ _ _ _ _ | exact octet_ReadText.mono _ _ _ | exact LeO.refl _ | exact LeO.none _ | refine LeO.ite ?_ ?_ | refine LeO.bind ?_ (fun _ => ?_))
set_option maxHeartbeats 8000000 in
set_option maxRecDepth 100000 in
theorem octet_Reader_Text.calls (k : Nat) (g : Nat) (s0_0 : ByteArray) (s0_1 : Int) (s0_2 : Int) (a1 : Int) (r1 : ByteArray) (r2 : ByteArray) (r3 : Int) (r4 : Int) (w0 w : World) (hI : IsS119 w0 w g s0_0 s0_1 s0_2) (hB : Below w0.heap.size w0 w) (h : octet_Reader_Text.f k s0_0 s0_1 s0_2 a1 = some (r1, r2, r3, r4)) :
  Calls Tryd.prog 49 #[.pointer (some ⟨g, 0, none⟩), .int .i64 a1] w fun e w' => e = .returned (.string r1) ∧ IsS119 w0 w' g r2 r3 r4 ∧ Below w0.heap.size w0 w' ∧ KeepBut w w' g none := by
 have HI0 := am hI
 have HK := am (KeepBut.refl w g none)
 have HL := am hB.size
 clear hI
 have HW0 := am hB.size
 have HB := am hB
 clear hB
 have H := h
 clear h
 unfold octet_Reader_Text.f at H
 replace H := obE H
 obtain ⟨⟨t284, t285, t286, t287⟩, A3, H⟩ := H
 try dsimp only at H
 by_cases c4 : t284 = 0
 ·
  rw [if_pos c4] at H
  have c4b0 := beq_iff_eq.mpr c4
  have c4b1 := bne_eq_false_iff_eq.mpr c4
  clear c4
  replace H := obE H
  obtain ⟨⟨t288, t289, t290⟩, A5, H⟩ := H
  try dsimp only at H
  have HC6 := am H
  clear H
  go_enter Tryd.func49, Tryd.ntmps49
  go_upto_region 4 with (first | (go_at_call 77; (with_reducible refine (octet_Reader_Err.calls g s0_0 s0_1 s0_2 t284 t285 t286 t287 w0 _ ?side1 ?side2 A3.out).mono ?_); (case side1 => repeat (first | (with_reducible first | exact HI0.out | apply IsS119.alloc | apply IsS119.drewN | apply IsS119.drew | apply IsS119.set_0 | apply IsS119.set_1 | apply IsS119.set_2) | exact HI0.out)); (case side2 => repeat (first | (with_reducible first | exact HB.out | apply below_alloc | apply pw_below_drewN | apply below_drew1 | refine below_set ?_ (IsS119.ge HI0.out)) | exact HB.out)); rintro e w7 ⟨rfl, hi, hb, hk⟩; replace HK := am (KeepBut.trans (by repeat (first | (with_reducible first | exact HK.out | apply KeepBut.set_ | apply keep_drewN | apply keep_drew | apply keep_alloc) | exact HK.out)) hk (.inl rfl)); replace HB := am (hb); replace HI0 := am (hi); (try clear hb); (try clear hk); (try clear hi); obtain ⟨HGz8, hgz8⟩ := HI0.out; have hcz8_0 := cellS119_0 HGz8; have hcz8_1 := cellS119_1 HGz8; have hcz8_2 := cellS119_2 HGz8; have hfz8_0 := blk_frozen HGz8 0; have hfz8_1 := blk_frozen HGz8 1; have hfz8_2 := blk_frozen HGz8 2; clear HGz8 hgz8) | (go_at_call 80; (with_reducible refine (octet_ReadText.calls k t285 t286 t288 t289 t290 _ A5.out).mono ?_); rintro e w' ⟨rfl, ⟨nd, rfl⟩⟩; (try first | exact ⟨rfl, _, World.drewN_drewN _ _ _⟩ | exact ⟨rfl, _, Eq.trans (World.drewN_drewN _ _ _) (congrArg (World.drewN _) (Nat.add_assoc _ _ _))⟩)))
  repeat (go_quiet (first | (go_at_call 77; (with_reducible refine (octet_Reader_Err.calls g s0_0 s0_1 s0_2 t284 t285 t286 t287 w0 _ ?side1 ?side2 A3.out).mono ?_); (case side1 => repeat (first | (with_reducible first | exact HI0.out | apply IsS119.alloc | apply IsS119.drewN | apply IsS119.drew | apply IsS119.set_0 | apply IsS119.set_1 | apply IsS119.set_2) | exact HI0.out)); (case side2 => repeat (first | (with_reducible first | exact HB.out | apply below_alloc | apply pw_below_drewN | apply below_drew1 | refine below_set ?_ (IsS119.ge HI0.out)) | exact HB.out)); rintro e w7 ⟨rfl, hi, hb, hk⟩; replace HK := am (KeepBut.trans (by repeat (first | (with_reducible first | exact HK.out | apply KeepBut.set_ | apply keep_drewN | apply keep_drew | apply keep_alloc) | exact HK.out)) hk (.inl rfl)); replace HB := am (hb); replace HI0 := am (hi); (try clear hb); (try clear hk); (try clear hi); obtain ⟨HGz8, hgz8⟩ := HI0.out; have hcz8_0 := cellS119_0 HGz8; have hcz8_1 := cellS119_1 HGz8; have hcz8_2 := cellS119_2 HGz8; have hfz8_0 := blk_frozen HGz8 0; have hfz8_1 := blk_frozen HGz8 1; have hfz8_2 := blk_frozen HGz8 2; clear HGz8 hgz8; clear A3) | (go_at_call 80; (with_reducible refine (octet_ReadText.calls k t285 t286 t288 t289 t290 _ A5.out).mono ?_); rintro e w' ⟨rfl, ⟨nd, rfl⟩⟩; (try first | exact ⟨rfl, _, World.drewN_drewN _ _ _⟩ | exact ⟨rfl, _, Eq.trans (World.drewN_drewN _ _ _) (congrArg (World.drewN _) (Nat.add_assoc _ _ _))⟩); clear A5)); go_upto_region 4 with (first | (go_at_call 77; (with_reducible refine (octet_Reader_Err.calls g s0_0 s0_1 s0_2 t284 t285 t286 t287 w0 _ ?side1 ?side2 A3.out).mono ?_); (case side1 => repeat (first | (with_reducible first | exact HI0.out | apply IsS119.alloc | apply IsS119.drewN | apply IsS119.drew | apply IsS119.set_0 | apply IsS119.set_1 | apply IsS119.set_2) | exact HI0.out)); (case side2 => repeat (first | (with_reducible first | exact HB.out | apply below_alloc | apply pw_below_drewN | apply below_drew1 | refine below_set ?_ (IsS119.ge HI0.out)) | exact HB.out)); rintro e w7 ⟨rfl, hi, hb, hk⟩; replace HK := am (KeepBut.trans (by repeat (first | (with_reducible first | exact HK.out | apply KeepBut.set_ | apply keep_drewN | apply keep_drew | apply keep_alloc) | exact HK.out)) hk (.inl rfl)); replace HB := am (hb); replace HI0 := am (hi); (try clear hb); (try clear hk); (try clear hi); obtain ⟨HGz8, hgz8⟩ := HI0.out; have hcz8_0 := cellS119_0 HGz8; have hcz8_1 := cellS119_1 HGz8; have hcz8_2 := cellS119_2 HGz8; have hfz8_0 := blk_frozen HGz8 0; have hfz8_1 := blk_frozen HGz8 1; have hfz8_2 := blk_frozen HGz8 2; clear HGz8 hgz8; clear A3) | (go_at_call 80; (with_reducible refine (octet_ReadText.calls k t285 t286 t288 t289 t290 _ A5.out).mono ?_); rintro e w' ⟨rfl, ⟨nd, rfl⟩⟩; (try first | exact ⟨rfl, _, World.drewN_drewN _ _ _⟩ | exact ⟨rfl, _, Eq.trans (World.drewN_drewN _ _ _) (congrArg (World.drewN _) (Nat.add_assoc _ _ _))⟩); clear A5)))
  (try simp only [Act.put, List.setIfInBounds_toArray, List.set_cons_zero, List.set_cons_succ])
  go_cut [31] (fun v31 wc => ∃ (kq : Nat) (x31_5 : Bool), v31 = .bool x31_5 ∧ Aside0 (octet_Reader_Text.j0 kq t288 t289 t290 x31_5 t285 t286 t287 = some (r1, r2, r3, r4)) ∧ Aside0 (kq ≤ k) ∧ Aside0 (IsS119 w0 wc g t285 t286 t287) ∧ Aside0 (KeepBut w wc g none) ∧ Aside0 (Below w0.heap.size w0 wc))
  case first =>
   have H := HC6.out
   clear HC6
   by_cases c9 : t290 = 0
   ·
    rw [if_pos c9] at H
    have c9b0 := beq_iff_eq.mpr c9
    have c9b1 := bne_eq_false_iff_eq.mpr c9
    clear c9
    (first | rw [c9b0] | (simp only [i64_w, i32_w]; rw [c9b0]) | skip)
    have H' := am H
    clear H
    go_wp2
    repeat (go_quiet (fail); try go_wp2)
    go_meet
    case rel => exact ⟨_, (decide ((t288.size : Int) > a1)), rs, H', ⟨om⟩, ⟨by repeat (first | (with_reducible first | exact HI0.out | apply IsS119.alloc | apply IsS119.drewN | apply IsS119.drew | apply IsS119.set_0 | apply IsS119.set_1 | apply IsS119.set_2) | exact HI0.out)⟩, ⟨by repeat (first | (with_reducible first | exact HK.out | apply KeepBut.set_ | apply keep_drewN | apply keep_drew | apply keep_alloc) | exact HK.out)⟩, ⟨by repeat (first | (with_reducible first | exact HB.out | apply below_alloc | apply pw_below_drewN | apply below_drew1 | refine below_set ?_ (IsS119.ge HI0.out)) | exact HB.out)⟩⟩
   ·
    rw [if_neg c9] at H
    have c9b0 := beq_eq_false_iff_ne.mpr c9
    have c9b1 := bne_iff_ne.mpr c9
    (first | rw [c9b0] | (simp only [i64_w, i32_w]; rw [c9b0]) | skip)
    have H' := am H
    clear H
    go_wp2
    repeat (go_quiet (fail); try go_wp2)
    go_meet
    case rel => exact ⟨_, (false), rs, H', ⟨om⟩, ⟨by repeat (first | (with_reducible first | exact HI0.out | apply IsS119.alloc | apply IsS119.drewN | apply IsS119.drew | apply IsS119.set_0 | apply IsS119.set_1 | apply IsS119.set_2) | exact HI0.out)⟩, ⟨by repeat (first | (with_reducible first | exact HK.out | apply KeepBut.set_ | apply keep_drewN | apply keep_drew | apply keep_alloc) | exact HK.out)⟩, ⟨by repeat (first | (with_reducible first | exact HB.out | apply below_alloc | apply pw_below_drewN | apply below_drew1 | refine below_set ?_ (IsS119.ge HI0.out)) | exact HB.out)⟩⟩
  case rest =>
   clear HC6
   try clear c4
   try clear c4b0
   try clear c4b1
   try clear hcz8_0 hcz8_1 hcz8_2 hfz8_0 hfz8_1 hfz8_2
   obtain ⟨kq, x31_5, rfl, HA, HJ5, HI0, HK, HB⟩ := hcut
   cases kq with
   | zero => exact absurd HA.out (by simp [octet_Reader_Text.j0])
   | succ kj5 =>
    have H := HA.out
    clear HA
    simp only [octet_Reader_Text.j0] at H
    by_cases c10 : x31_5 = true
    ·
     subst c10
     rw [if_pos rfl] at H
     by_cases c11 : 2 = 0
     ·
      exact absurd c11 (by decide)
     ·
      rw [if_neg c11] at H
      have c11b0 := beq_eq_false_iff_ne.mpr c11
      have c11b1 := bne_iff_ne.mpr c11
      simp only [Option.some.injEq, Prod.mk.injEq] at H
      obtain ⟨rfl, rfl, rfl, rfl⟩ := H
      obtain ⟨HGz13, hgz13⟩ := HI0.out
      have hcz13_0 := cellS119_0 HGz13
      have hcz13_1 := cellS119_1 HGz13
      have hcz13_2 := cellS119_2 HGz13
      have hfz13_0 := blk_frozen HGz13 0
      have hfz13_1 := blk_frozen HGz13 1
      have hfz13_2 := blk_frozen HGz13 2
      clear HGz13 hgz13
      go_wp2
      repeat (go_quiet (fail); try go_wp2)
      go_ret
      exact ⟨rf, by repeat (first | (with_reducible first | exact HI0.out | apply IsS119.alloc | apply IsS119.drewN | apply IsS119.drew | apply IsS119.set_0 | apply IsS119.set_1 | apply IsS119.set_2) | exact HI0.out), by repeat (first | (with_reducible first | exact HB.out | apply below_alloc | apply pw_below_drewN | apply below_drew1 | refine below_set ?_ (IsS119.ge HI0.out)) | exact HB.out), by repeat (first | (with_reducible first | exact HK.out | apply KeepBut.set_ | apply keep_drewN | apply keep_drew | apply keep_alloc) | exact HK.out)⟩
    ·
     replace c10 := Bool.eq_false_iff.mpr c10
     subst c10
     rw [if_neg (show ¬ (false = true) by decide)] at H
     by_cases c14 : t290 = 0
     ·
      rw [if_pos c14] at H
      have c14b0 := beq_iff_eq.mpr c14
      have c14b1 := bne_eq_false_iff_eq.mpr c14
      clear c14
      simp only [Option.some.injEq, Prod.mk.injEq] at H
      obtain ⟨rfl, rfl, rfl, rfl⟩ := H
      obtain ⟨HGz15, hgz15⟩ := HI0.out
      have hcz15_0 := cellS119_0 HGz15
      have hcz15_1 := cellS119_1 HGz15
      have hcz15_2 := cellS119_2 HGz15
      have hfz15_0 := blk_frozen HGz15 0
      have hfz15_1 := blk_frozen HGz15 1
      have hfz15_2 := blk_frozen HGz15 2
      clear HGz15 hgz15
      go_wp2
      repeat (go_quiet (fail); try go_wp2)
      go_ret
      exact ⟨rf, by repeat (first | (with_reducible first | exact HI0.out | apply IsS119.alloc | apply IsS119.drewN | apply IsS119.drew | apply IsS119.set_0 | apply IsS119.set_1 | apply IsS119.set_2) | exact HI0.out), by repeat (first | (with_reducible first | exact HB.out | apply below_alloc | apply pw_below_drewN | apply below_drew1 | refine below_set ?_ (IsS119.ge HI0.out)) | exact HB.out), by repeat (first | (with_reducible first | exact HK.out | apply KeepBut.set_ | apply keep_drewN | apply keep_drew | apply keep_alloc) | exact HK.out)⟩
     ·
      rw [if_neg c14] at H
      have c14b0 := beq_eq_false_iff_ne.mpr c14
      have c14b1 := bne_iff_ne.mpr c14
      simp only [Option.some.injEq, Prod.mk.injEq] at H
      obtain ⟨rfl, rfl, rfl, rfl⟩ := H
      obtain ⟨HGz16, hgz16⟩ := HI0.out
      have hcz16_0 := cellS119_0 HGz16
      have hcz16_1 := cellS119_1 HGz16
      have hcz16_2 := cellS119_2 HGz16
      have hfz16_0 := blk_frozen HGz16 0
      have hfz16_1 := blk_frozen HGz16 1
      have hfz16_2 := blk_frozen HGz16 2
      clear HGz16 hgz16
      go_wp2
      repeat (go_quiet (fail); try go_wp2)
      go_ret
      exact ⟨rf, by repeat (first | (with_reducible first | exact HI0.out | apply IsS119.alloc | apply IsS119.drewN | apply IsS119.drew | apply IsS119.set_0 | apply IsS119.set_1 | apply IsS119.set_2) | exact HI0.out), by repeat (first | (with_reducible first | exact HB.out | apply below_alloc | apply pw_below_drewN | apply below_drew1 | refine below_set ?_ (IsS119.ge HI0.out)) | exact HB.out), by repeat (first | (with_reducible first | exact HK.out | apply KeepBut.set_ | apply keep_drewN | apply keep_drew | apply keep_alloc) | exact HK.out)⟩
 ·
  rw [if_neg c4] at H
  have c4b0 := beq_eq_false_iff_ne.mpr c4
  have c4b1 := bne_iff_ne.mpr c4
  simp only [Option.some.injEq, Prod.mk.injEq] at H
  obtain ⟨rfl, rfl, rfl, rfl⟩ := H
  go_enter Tryd.func49, Tryd.ntmps49
  go_wp2_with (first | (go_at_call 77; (with_reducible refine (octet_Reader_Err.calls g s0_0 s0_1 s0_2 t284 t285 t286 t287 w0 _ ?side1 ?side2 A3.out).mono ?_); (case side1 => repeat (first | (with_reducible first | exact HI0.out | apply IsS119.alloc | apply IsS119.drewN | apply IsS119.drew | apply IsS119.set_0 | apply IsS119.set_1 | apply IsS119.set_2) | exact HI0.out)); (case side2 => repeat (first | (with_reducible first | exact HB.out | apply below_alloc | apply pw_below_drewN | apply below_drew1 | refine below_set ?_ (IsS119.ge HI0.out)) | exact HB.out)); rintro e w17 ⟨rfl, hi, hb, hk⟩; replace HK := am (KeepBut.trans (by repeat (first | (with_reducible first | exact HK.out | apply KeepBut.set_ | apply keep_drewN | apply keep_drew | apply keep_alloc) | exact HK.out)) hk (.inl rfl)); replace HB := am (hb); replace HI0 := am (hi); (try clear hb); (try clear hk); (try clear hi)))
  repeat (go_quiet (first | (go_at_call 77; (with_reducible refine (octet_Reader_Err.calls g s0_0 s0_1 s0_2 t284 t285 t286 t287 w0 _ ?side1 ?side2 A3.out).mono ?_); (case side1 => repeat (first | (with_reducible first | exact HI0.out | apply IsS119.alloc | apply IsS119.drewN | apply IsS119.drew | apply IsS119.set_0 | apply IsS119.set_1 | apply IsS119.set_2) | exact HI0.out)); (case side2 => repeat (first | (with_reducible first | exact HB.out | apply below_alloc | apply pw_below_drewN | apply below_drew1 | refine below_set ?_ (IsS119.ge HI0.out)) | exact HB.out)); rintro e w17 ⟨rfl, hi, hb, hk⟩; replace HK := am (KeepBut.trans (by repeat (first | (with_reducible first | exact HK.out | apply KeepBut.set_ | apply keep_drewN | apply keep_drew | apply keep_alloc) | exact HK.out)) hk (.inl rfl)); replace HB := am (hb); replace HI0 := am (hi); (try clear hb); (try clear hk); (try clear hi); clear A3)); try go_wp2_with (first | (go_at_call 77; (with_reducible refine (octet_Reader_Err.calls g s0_0 s0_1 s0_2 t284 t285 t286 t287 w0 _ ?side1 ?side2 A3.out).mono ?_); (case side1 => repeat (first | (with_reducible first | exact HI0.out | apply IsS119.alloc | apply IsS119.drewN | apply IsS119.drew | apply IsS119.set_0 | apply IsS119.set_1 | apply IsS119.set_2) | exact HI0.out)); (case side2 => repeat (first | (with_reducible first | exact HB.out | apply below_alloc | apply pw_below_drewN | apply below_drew1 | refine below_set ?_ (IsS119.ge HI0.out)) | exact HB.out)); rintro e w17 ⟨rfl, hi, hb, hk⟩; replace HK := am (KeepBut.trans (by repeat (first | (with_reducible first | exact HK.out | apply KeepBut.set_ | apply keep_drewN | apply keep_drew | apply keep_alloc) | exact HK.out)) hk (.inl rfl)); replace HB := am (hb); replace HI0 := am (hi); (try clear hb); (try clear hk); (try clear hi); clear A3)))
  go_ret
  exact ⟨rf, by repeat (first | (with_reducible first | exact HI0.out | apply IsS119.alloc | apply IsS119.drewN | apply IsS119.drew | apply IsS119.set_0 | apply IsS119.set_1 | apply IsS119.set_2) | exact HI0.out), by repeat (first | (with_reducible first | exact HB.out | apply below_alloc | apply pw_below_drewN | apply below_drew1 | refine below_set ?_ (IsS119.ge HI0.out)) | exact HB.out), by repeat (first | (with_reducible first | exact HK.out | apply KeepBut.set_ | apply keep_drewN | apply keep_drew | apply keep_alloc) | exact HK.out)⟩
def octet_Reader_End.f (s0_0 : ByteArray) (s0_1 : Int) (s0_2 : Int) : Option (Int × ByteArray × Int × Int) := if s0_2 = 0 then (if s0_1 < (s0_0.size : Int) then some (2, s0_0, s0_1, 2) else some (0, s0_0, s0_1, 0)) else some (s0_2, s0_0, s0_1, s0_2)
set_option maxRecDepth 100000 in
set_option maxHeartbeats 1000000 in
theorem octet_Reader_End_err (g : Nat) (e0 : Int) (w : World) (h2 : w.cell? ⟨g, 2, none⟩ = some (.int .i64 e0)) :
  Calls Tryd.prog 77 #[.pointer (some ⟨g, 0, none⟩)] w fun e w' => e = .returned (.int .i64 e0) ∧ w' = w := by
 go_enter Tryd.func77, Tryd.ntmps77
 go_wp2
 go_ret
 exact ⟨rfl, rfl⟩
set_option maxRecDepth 100000 in
set_option maxHeartbeats 1000000 in
theorem octet_Reader_End_no (g : Nat) (e0 : Int) (w : World) (he : ¬ e0 = 0) (h2 : w.cell? ⟨g, 2, none⟩ = some (.int .i64 e0)) :
  Calls Tryd.prog 51 #[.pointer (some ⟨g, 0, none⟩)] w fun e w' => e = .returned (.int .i64 e0) ∧ ∃ n, w' = w.drewN n := by
 have mixed : Tryd.prog.follows Departure.mixedOrders = true := by kernel_rfl
 have hne : (e0 == 0) = false := beq_eq_false_iff_ne.2 he
 go_enter Tryd.func51, Tryd.ntmps51
 go_wp2
 go_quiet (first | (go_at_call 77; exact Calls.quiet_of_same (octet_Reader_End_err g e0 _ h2)))
 go_wp2_with (go_at_call 77; refine (octet_Reader_End_err g e0 _ (by exact h2)).mono ?_; rintro e w' ⟨rfl, rfl⟩)
 go_ret
 exact ⟨rfl, _, rfl⟩
set_option maxRecDepth 100000 in
set_option maxHeartbeats 1000000 in
theorem octet_Reader_End_end (g : Nat) (s : ByteArray) (a : Int) (w : World) (ha : ¬ a < (s.size : Int)) (h0 : w.cell? ⟨g, 0, none⟩ = some (.string s)) (h1 : w.cell? ⟨g, 1, none⟩ = some (.int .i64 a)) (h2 : w.cell? ⟨g, 2, none⟩ = some (.int .i64 0)) :
  Calls Tryd.prog 51 #[.pointer (some ⟨g, 0, none⟩)] w fun e w' => e = .returned (.int .i64 0) ∧ ∃ n, w' = w.drewN n := by
 have mixed : Tryd.prog.follows Departure.mixedOrders = true := by kernel_rfl
 have hne : decide (a < (s.size : Int)) = false := decide_eq_false ha
 go_enter Tryd.func51, Tryd.ntmps51
 go_wp2
 go_quiet (first | (go_at_call 77; exact Calls.quiet_of_same (octet_Reader_End_err g 0 _ h2)))
 go_wp2_with (go_at_call 77; refine (octet_Reader_End_err g 0 _ (by exact h2)).mono ?_; rintro e w' ⟨rfl, rfl⟩)
 go_ret
 exact ⟨rfl, _, rfl⟩
set_option maxRecDepth 100000 in
set_option maxHeartbeats 1000000 in
theorem octet_Reader_End_long (g : Nat) (s : ByteArray) (a : Int) (w : World) (ha : a < (s.size : Int)) (h0 : w.cell? ⟨g, 0, none⟩ = some (.string s)) (h1 : w.cell? ⟨g, 1, none⟩ = some (.int .i64 a)) (h2 : w.cell? ⟨g, 2, none⟩ = some (.int .i64 0)) (hz : w.frozen? ⟨g, 2, none⟩ = false) :
  Calls Tryd.prog 51 #[.pointer (some ⟨g, 0, none⟩)] w fun e w' => e = .returned (.int .i64 2) ∧ ∃ n, w' = (w.drewN n).setCell ⟨g, 2, none⟩ (.int .i64 2) := by
 have mixed : Tryd.prog.follows Departure.mixedOrders = true := by kernel_rfl
 have hne : decide (a < (s.size : Int)) = true := decide_eq_true ha
 go_enter Tryd.func51, Tryd.ntmps51
 go_wp2
 go_quiet (first | (go_at_call 77; exact Calls.quiet_of_same (octet_Reader_End_err g 0 _ h2)))
 go_wp2_with (go_at_call 77; refine (octet_Reader_End_err g 2 _ ?_).mono ?_; rotate_left; rintro e w' ⟨rfl, rfl⟩)
 ·
  go_ret
  exact ⟨rfl, _, rfl⟩
 ·
  exact World.cell?_setCell_same _ _ _ (u := .int .i64 0) (by exact h2)
theorem octet_Reader_End.calls (g : Nat) (s0_0 : ByteArray) (s0_1 : Int) (s0_2 : Int) (r1 : Int) (r2 : ByteArray) (r3 : Int) (r4 : Int) (w0 w : World) (hI : IsS119 w0 w g s0_0 s0_1 s0_2) (hB : Below w0.heap.size w0 w) (h : octet_Reader_End.f s0_0 s0_1 s0_2 = some (r1, r2, r3, r4)) :
  Calls Tryd.prog 51 #[.pointer (some ⟨g, 0, none⟩)] w fun e w' => e = .returned (.int .i64 r1) ∧ IsS119 w0 w' g r2 r3 r4 ∧ Below w0.heap.size w0 w' ∧ KeepBut w w' g none := by
 have c0 := cellS119_0 hI.1
 have c1 := cellS119_1 hI.1
 have c2 := cellS119_2 hI.1
 have cz := blk_frozen hI.1 2
 unfold octet_Reader_End.f at h
 split at h
 ·
  rename_i he
  subst he
  split at h
  ·
   rename_i ha
   cases h
   exact (octet_Reader_End_long g _ _ w ha c0 c1 c2 cz).mono fun e w' ⟨h1, n, h2⟩ => ⟨h1, by rw [h2]; exact (hI.drewN n).set_2 2, by rw [h2]; exact (pw_below_drewN hB n).setCell hI.2 _, by rw [h2]; exact (keep_drewN (KeepBut.refl _ _ _) n).set_ 2 _⟩
  ·
   rename_i ha
   cases h
   exact (octet_Reader_End_end g _ _ w ha c0 c1 c2).mono fun e w' ⟨h1, n, h2⟩ => ⟨h1, by rw [h2]; exact hI.drewN n, by rw [h2]; exact pw_below_drewN hB n, by rw [h2]; exact keep_drewN (KeepBut.refl _ _ _) n⟩
 ·
  rename_i he
  cases h
  exact (octet_Reader_End_no g _ w he c2).mono fun e w' ⟨h1, n, h2⟩ => ⟨h1, by rw [h2]; exact hI.drewN n, by rw [h2]; exact pw_below_drewN hB n, by rw [h2]; exact keep_drewN (KeepBut.refl _ _ _) n⟩
def cmd_Decode_txt (k : Nat) (b : Bool) (s : ByteArray) (a e most : Int) : Option (ByteArray × ByteArray × Int × Int) := if b = true then some (⟨#[]⟩, s, a, e) else octet_Reader_Text.f k s a e most
def cmd_Decode_num (k : Nat) (b : Bool) (s : ByteArray) (a e most : Int) : Option (Int × ByteArray × Int × Int) := if b = true then some (0, s, a, e) else octet_Reader_Int.f k s a e most
theorem cmd_Decode_d1 (k gf gr g : Nat) (f bit most : Int) (s : ByteArray) (a e : Int) (r1 : ByteArray) (r2 : ByteArray) (r3 r4 : Int) (w0 W : World) (hB : Below w0.heap.size w0 W) (hI : IsS119 w0 W g s a e) (hf : W.heap[gf]? = some (.cells #[.int .i64 f] 3 (0, 0))) (hr : W.heap[gr]? = some (.cells #[.pointer (some ⟨g, 0, none⟩)] 76 (0, 0))) (h : cmd_Decode_txt k (Go.bits .and .i64 f bit == 0) s a e most = some (r1, r2, r3, r4)) :
  Calls Tryd.prog 48 #[.int .i64 bit, .int .i64 most, .pointer (some ⟨gf, 0, none⟩), .pointer (some ⟨gr, 0, none⟩)] W fun z W' => z = .returned (.string r1) ∧ IsS119 w0 W' g r2 r3 r4 ∧ Below w0.heap.size w0 W' ∧ KeepBut W W' g none := by
 have HI := am hI
 have HB := am hB
 obtain ⟨cf, ff⟩ := cz1 hf
 obtain ⟨cr, fr⟩ := cz1 hr
 clear hf hr hB hI
 unfold cmd_Decode_txt at h
 by_cases hb : (Go.bits .and .i64 f bit == 0) = true
 ·
  rw [if_pos hb] at h
  cases h
  go_enter Tryd.func48, Tryd.ntmps48
  go_wp2
  go_ret
  exact ⟨rfl, HI.out, HB.out, KeepBut.refl _ _ _⟩
 ·
  rw [if_neg hb] at h
  replace hb := Bool.eq_false_iff.mpr hb
  have HA := am h
  clear h
  go_enter Tryd.func48, Tryd.ntmps48
  go_wp2_with (go_at_call 49; (with_reducible refine (octet_Reader_Text.calls k g s a e most r1 r2 r3 r4 w0 _ HI.out HB.out HA.out).mono ?_); rintro z w1 ⟨rfl, hi, hbb, hk⟩; have HR := am (And.intro hi (And.intro hbb hk)); clear hi hbb hk)
  go_ret
  exact ⟨rfl, HR.out⟩
theorem cmd_Decode_d2 (k gf gr g : Nat) (f bit most : Int) (s : ByteArray) (a e : Int) (r1 : Int) (r2 : ByteArray) (r3 r4 : Int) (w0 W : World) (hB : Below w0.heap.size w0 W) (hI : IsS119 w0 W g s a e) (hf : W.heap[gf]? = some (.cells #[.int .i64 f] 3 (0, 0))) (hr : W.heap[gr]? = some (.cells #[.pointer (some ⟨g, 0, none⟩)] 76 (0, 0))) (h : cmd_Decode_num k (Go.bits .and .i64 f bit == 0) s a e most = some (r1, r2, r3, r4)) :
  Calls Tryd.prog 50 #[.int .i64 bit, .int .i64 most, .pointer (some ⟨gf, 0, none⟩), .pointer (some ⟨gr, 0, none⟩)] W fun z W' => z = .returned (.int .i64 r1) ∧ IsS119 w0 W' g r2 r3 r4 ∧ Below w0.heap.size w0 W' ∧ KeepBut W W' g none := by
 have HI := am hI
 have HB := am hB
 obtain ⟨cf, ff⟩ := cz1 hf
 obtain ⟨cr, fr⟩ := cz1 hr
 clear hf hr hB hI
 unfold cmd_Decode_num at h
 by_cases hb : (Go.bits .and .i64 f bit == 0) = true
 ·
  rw [if_pos hb] at h
  cases h
  go_enter Tryd.func50, Tryd.ntmps50
  go_wp2
  go_ret
  exact ⟨rfl, HI.out, HB.out, KeepBut.refl _ _ _⟩
 ·
  rw [if_neg hb] at h
  replace hb := Bool.eq_false_iff.mpr hb
  have HA := am h
  clear h
  go_enter Tryd.func50, Tryd.ntmps50
  go_wp2_with (go_at_call 47; (with_reducible refine (octet_Reader_Int.calls k g s a e most r1 r2 r3 r4 w0 _ HI.out HB.out HA.out).mono ?_); rintro z w1 ⟨rfl, hi, hbb, hk⟩; have HR := am (And.intro hi (And.intro hbb hk)); clear hi hbb hk)
  go_ret
  exact ⟨rfl, HR.out⟩
-- MAIN
def cmd_Decode_l0 (k : Nat) : Nat → ByteArray → Int → Int → List (S82) → Option (ByteArray × Int × Int × List (S82))
 | 0, s, a, e, acc => some (s, a, e, acc)
 | n + 1, s, a, e, acc => (octet_Reader_Text.f k s a e 64).bind fun t => (octet_Reader_Int.f k t.2.1 t.2.2.1 t.2.2.2 4096).bind fun m => if acc.length < 5864062014805 then cmd_Decode_l0 k n m.2.1 m.2.2.1 m.2.2.2 (acc ++ [⟨t.1, m.1⟩]) else none
def cmd_Decode_l1 (k : Nat) : Nat → ByteArray → Int → Int → List (S62) → Option (ByteArray × Int × Int × List (S62))
 | 0, s, a, e, acc => some (s, a, e, acc)
 | n + 1, s, a, e, acc => (octet_Reader_Int.f k s a e 100).bind fun m => (octet_Reader_Text.f k m.2.1 m.2.2.1 m.2.2.2 64).bind fun t => if acc.length < 5864062014805 then cmd_Decode_l1 k n t.2.1 t.2.2.1 t.2.2.2 (acc ++ [⟨m.1, t.1⟩]) else none
abbrev cmd_Decode_Res := Int × ByteArray × ByteArray × ByteArray × Int × Int × ByteArray × List (S82) × List (S62) × Int
def cmd_Decode_none : cmd_Decode_Res := (0, ⟨#[]⟩, ⟨#[]⟩, ⟨#[]⟩, 0, 0, ⟨#[]⟩, [], [], 3)
def cmd_Decode.f (k : Nat) (a0 : ByteArray) : Option cmd_Decode_Res :=
 (octet_NewReader.f a0).bind fun b0 => (octet_Reader_Int.f k b0.1 b0.2.1 b0.2.2 10).bind fun b1 => (cmd_fields.f k b1.1).bind fun f => (cmd_Decode_txt k (Go.bits .and .i64 f 1 == 0) b1.2.1 b1.2.2.1 b1.2.2.2 64).bind fun b2 => (cmd_Decode_txt k (Go.bits .and .i64 f 2 == 0) b2.2.1 b2.2.2.1 b2.2.2.2 63).bind fun b3 => (cmd_Decode_txt k (Go.bits .and .i64 f 4 == 0) b3.2.1 b3.2.2.1 b3.2.2.2 1024).bind fun b4 => (cmd_Decode_num k (Go.bits .and .i64 f 8 == 0) b4.2.1 b4.2.2.1 b4.2.2.2 1099511627776).bind fun b5 => (cmd_Decode_num k (Go.bits .and .i64 f 16 == 0) b5.2.1 b5.2.2.1 b5.2.2.2 100).bind fun b6 => (cmd_Decode_txt k (Go.bits .and .i64 f 32 == 0) b6.2.1 b6.2.2.1 b6.2.2.2 64).bind fun b7 => (cmd_Decode_num k (Go.bits .and .i64 f 64 == 0) b7.2.1 b7.2.2.1 b7.2.2.2 512).bind fun b8 => (if b8.1 ≤ 512 then cmd_Decode_l0 k b8.1.toNat b8.2.1 b8.2.2.1 b8.2.2.2 [] else none).bind fun b9 => (cmd_Decode_num k (Go.bits .and .i64 f 128 == 0) b9.1 b9.2.1 b9.2.2.1 100).bind fun b10 => (if b10.1 ≤ 100 then cmd_Decode_l1 k b10.1.toNat b10.2.1 b10.2.2.1 b10.2.2.2 [] else none).bind fun b11 => (octet_Reader_End.f b11.1 b11.2.1 b11.2.2.1).bind fun b12 => if b12.1 = 0 then ((cmd_Check.f k b1.1 b2.1 b3.1 b4.1 b5.1 b6.1 b7.1 b9.2.2.2 b11.2.2.2).bind fun c => if c = 0 then some (b1.1, b2.1, b3.1, b4.1, b5.1, b6.1, b7.1, b9.2.2.2, b11.2.2.2, 0) else some cmd_Decode_none) else some cmd_Decode_none
theorem cmd_Decode_txt_mono (k : Nat) (b : Bool) (s : ByteArray) (a e m : Int) : LeO (cmd_Decode_txt k b s a e m) (cmd_Decode_txt (k + 1) b s a e m) := by
 unfold cmd_Decode_txt
 exact LeO.ite (LeO.refl _) (octet_Reader_Text.mono _ _ _ _ _)
theorem cmd_Decode_num_mono (k : Nat) (b : Bool) (s : ByteArray) (a e m : Int) : LeO (cmd_Decode_num k b s a e m) (cmd_Decode_num (k + 1) b s a e m) := by
 unfold cmd_Decode_num
 exact LeO.ite (LeO.refl _) (octet_Reader_Int.mono _ _ _ _ _)
theorem cmd_Decode_l0_mono (k : Nat) : ∀ n s a e l, LeO (cmd_Decode_l0 k n s a e l) (cmd_Decode_l0 (k + 1) n s a e l)
 | 0, _, _, _, _ => LeO.refl _
 | n + 1, s, a, e, l => by
  rw [cmd_Decode_l0, cmd_Decode_l0]
  exact LeO.bind (octet_Reader_Text.mono _ _ _ _ _) fun _ => LeO.bind (octet_Reader_Int.mono _ _ _ _ _) fun _ => LeO.ite (cmd_Decode_l0_mono k n _ _ _ _) (LeO.refl _)
theorem cmd_Decode_l1_mono (k : Nat) : ∀ n s a e l, LeO (cmd_Decode_l1 k n s a e l) (cmd_Decode_l1 (k + 1) n s a e l)
 | 0, _, _, _, _ => LeO.refl _
 | n + 1, s, a, e, l => by
  rw [cmd_Decode_l1, cmd_Decode_l1]
  exact LeO.bind (octet_Reader_Int.mono _ _ _ _ _) fun _ => LeO.bind (octet_Reader_Text.mono _ _ _ _ _) fun _ => LeO.ite (cmd_Decode_l1_mono k n _ _ _ _) (LeO.refl _)
theorem cmd_Decode.mono : ∀ a0 k, LeO (cmd_Decode.f k a0) (cmd_Decode.f (k + 1) a0) := by
 intro a0 k
 unfold cmd_Decode.f
 repeat' (with_reducible first | exact octet_Reader_Int.mono _ _ _ _ _ | exact cmd_fields.mono _ _ | exact cmd_Check.mono _ _ _ _ _ _ _ _ _ _ | exact cmd_Decode_txt_mono _ _ _ _ _ _ | exact cmd_Decode_num_mono _ _ _ _ _ _ | exact cmd_Decode_l0_mono _ _ _ _ _ _ | exact cmd_Decode_l1_mono _ _ _ _ _ _ | exact LeO.refl _ | refine LeO.ite ?_ ?_ | refine LeO.bind ?_ (fun _ => ?_))
set_option maxHeartbeats 1000000 in
theorem cmd_Decode_all9 {W : World} {g t : Nat} {a0 a1 a2 a3 a4 a5 a6 a7 a8 : Value} (h : W.heap[g]? = some (.cells #[a0, a1, a2, a3, a4, a5, a6, a7, a8] t (0, 0))) (u0 u1 u2 u3 u4 u5 u6 u7 u8 : Value) :
  (((((((((W.setCell ⟨g, 0, none⟩ u0).setCell ⟨g, 1, none⟩ u1).setCell ⟨g, 2, none⟩ u2).setCell ⟨g, 3, none⟩ u3).setCell ⟨g, 4, none⟩ u4).setCell ⟨g, 5, none⟩ u5).setCell ⟨g, 6, none⟩ u6).setCell ⟨g, 7, none⟩ u7).setCell ⟨g, 8, none⟩ u8).heap[g]? = some (.cells #[u0, u1, u2, u3, u4, u5, u6, u7, u8] t (0, 0)) ∧ (∀ g', g' ≠ g → (((((((((W.setCell ⟨g, 0, none⟩ u0).setCell ⟨g, 1, none⟩ u1).setCell ⟨g, 2, none⟩ u2).setCell ⟨g, 3, none⟩ u3).setCell ⟨g, 4, none⟩ u4).setCell ⟨g, 5, none⟩ u5).setCell ⟨g, 6, none⟩ u6).setCell ⟨g, 7, none⟩ u7).setCell ⟨g, 8, none⟩ u8).heap[g']? = W.heap[g']?) ∧ ∀ w : World, Below w.heap.size w W → w.heap.size ≤ g → Below w.heap.size w (((((((((W.setCell ⟨g, 0, none⟩ u0).setCell ⟨g, 1, none⟩ u1).setCell ⟨g, 2, none⟩ u2).setCell ⟨g, 3, none⟩ u3).setCell ⟨g, 4, none⟩ u4).setCell ⟨g, 5, none⟩ u5).setCell ⟨g, 6, none⟩ u6).setCell ⟨g, 7, none⟩ u7).setCell ⟨g, 8, none⟩ u8) := by
 have b0 := blk_put (cs' := #[u0, a1, a2, a3, a4, a5, a6, a7, a8]) h 0 u0 rfl
 have b1 := blk_put (cs' := #[u0, u1, a2, a3, a4, a5, a6, a7, a8]) b0 1 u1 rfl
 have b2 := blk_put (cs' := #[u0, u1, u2, a3, a4, a5, a6, a7, a8]) b1 2 u2 rfl
 have b3 := blk_put (cs' := #[u0, u1, u2, u3, a4, a5, a6, a7, a8]) b2 3 u3 rfl
 have b4 := blk_put (cs' := #[u0, u1, u2, u3, u4, a5, a6, a7, a8]) b3 4 u4 rfl
 have b5 := blk_put (cs' := #[u0, u1, u2, u3, u4, u5, a6, a7, a8]) b4 5 u5 rfl
 have b6 := blk_put (cs' := #[u0, u1, u2, u3, u4, u5, u6, a7, a8]) b5 6 u6 rfl
 have b7 := blk_put (cs' := #[u0, u1, u2, u3, u4, u5, u6, u7, a8]) b6 7 u7 rfl
 have b8 := blk_put (cs' := #[u0, u1, u2, u3, u4, u5, u6, u7, u8]) b7 8 u8 rfl
 refine ⟨b8, ?_, ?_⟩
 ·
  intro g' hg'
  exact (Below.heap_setCell ((((((((W.setCell ⟨g, 0, none⟩ u0).setCell ⟨g, 1, none⟩ u1).setCell ⟨g, 2, none⟩ u2).setCell ⟨g, 3, none⟩ u3).setCell ⟨g, 4, none⟩ u4).setCell ⟨g, 5, none⟩ u5).setCell ⟨g, 6, none⟩ u6).setCell ⟨g, 7, none⟩ u7) ⟨g, 8, none⟩ u8 g' hg').trans ((Below.heap_setCell (((((((W.setCell ⟨g, 0, none⟩ u0).setCell ⟨g, 1, none⟩ u1).setCell ⟨g, 2, none⟩ u2).setCell ⟨g, 3, none⟩ u3).setCell ⟨g, 4, none⟩ u4).setCell ⟨g, 5, none⟩ u5).setCell ⟨g, 6, none⟩ u6) ⟨g, 7, none⟩ u7 g' hg').trans ((Below.heap_setCell ((((((W.setCell ⟨g, 0, none⟩ u0).setCell ⟨g, 1, none⟩ u1).setCell ⟨g, 2, none⟩ u2).setCell ⟨g, 3, none⟩ u3).setCell ⟨g, 4, none⟩ u4).setCell ⟨g, 5, none⟩ u5) ⟨g, 6, none⟩ u6 g' hg').trans ((Below.heap_setCell (((((W.setCell ⟨g, 0, none⟩ u0).setCell ⟨g, 1, none⟩ u1).setCell ⟨g, 2, none⟩ u2).setCell ⟨g, 3, none⟩ u3).setCell ⟨g, 4, none⟩ u4) ⟨g, 5, none⟩ u5 g' hg').trans ((Below.heap_setCell ((((W.setCell ⟨g, 0, none⟩ u0).setCell ⟨g, 1, none⟩ u1).setCell ⟨g, 2, none⟩ u2).setCell ⟨g, 3, none⟩ u3) ⟨g, 4, none⟩ u4 g' hg').trans ((Below.heap_setCell (((W.setCell ⟨g, 0, none⟩ u0).setCell ⟨g, 1, none⟩ u1).setCell ⟨g, 2, none⟩ u2) ⟨g, 3, none⟩ u3 g' hg').trans ((Below.heap_setCell ((W.setCell ⟨g, 0, none⟩ u0).setCell ⟨g, 1, none⟩ u1) ⟨g, 2, none⟩ u2 g' hg').trans ((Below.heap_setCell (W.setCell ⟨g, 0, none⟩ u0) ⟨g, 1, none⟩ u1 g' hg').trans (Below.heap_setCell W ⟨g, 0, none⟩ u0 g' hg'))))))))
 ·
  exact fun w hb hl => (below_set (below_set (below_set (below_set (below_set (below_set (below_set (below_set (below_set hb hl) hl) hl) hl) hl) hl) hl) hl) hl)
structure cmd_Decode_D (w : World) (gz gr gc gf g : Nat) (f : Int) (CS : Array Value) (s : ByteArray) (a e : Int) (W : World) : Prop where
 z : W.heap[gz]? = some (.cells #[.int .i64 0, .string ⟨#[]⟩, .string ⟨#[]⟩, .string ⟨#[]⟩, .int .i64 0, .int .i64 0, .string ⟨#[]⟩, .slice none 0 0, .slice none 0 0] 25 (0, 0))
 r : W.heap[gr]? = some (.cells #[.pointer (some ⟨g, 0, none⟩)] 76 (0, 0))
 c : W.heap[gc]? = some (.cells CS 25 (0, 0))
 f : W.heap[gf]? = some (.cells #[.int .i64 f] 3 (0, 0))
 i : IsS119 w W g s a e
 b : Below w.heap.size w W
 lz : w.heap.size ≤ gz
 lc : w.heap.size ≤ gc
 nzc : gz ≠ gc
theorem cmd_Decode_D.step {w W : World} {gz gr gc gf g : Nat} {f : Int} {CS : Array Value} {s : ByteArray} {a e : Int} (h : cmd_Decode_D w gz gr gc gf g f CS s a e W) {W' : World} {s' : ByteArray} {a' e' : Int} (hi : IsS119 w W' g s' a' e') (hb : Below w.heap.size w W') (hk : KeepBut W W' g none) : cmd_Decode_D w gz gr gc gf g f CS s' a' e' W' :=
 ⟨hk.blk h.z (blk_ne h.z h.i.1 (by decide)) (by simp), hk.blk h.r (blk_ne h.r h.i.1 (by decide)) (by simp), hk.blk h.c (blk_ne h.c h.i.1 (by decide)) (by simp), hk.blk h.f (blk_ne h.f h.i.1 (by decide)) (by simp), hi, hb, h.lz, h.lc, h.nzc⟩
theorem cmd_Decode_D.put {w W : World} {gz gr gc gf g : Nat} {f : Int} {CS : Array Value} {s : ByteArray} {a e : Int} (h : cmd_Decode_D w gz gr gc gf g f CS s a e W) {CS' : Array Value} (i : Nat) (u : Value) (q : CS.setIfInBounds i u = CS') : cmd_Decode_D w gz gr gc gf g f CS' s a e (W.setCell ⟨gc, i, none⟩ u) :=
 ⟨blk_far h.z h.nzc _, blk_far h.r (blk_ne h.r h.c (by decide)) _, blk_put h.c i u q, blk_far h.f (blk_ne h.f h.c (by decide)) _, ⟨blk_far h.i.1 (blk_ne h.i.1 h.c (by decide)) _, h.i.2⟩, below_set h.b h.lc, h.lz, h.lc, h.nzc⟩
theorem cmd_Decode_D.below {w W : World} {gz gr gc gf g : Nat} {f : Int} {CS : Array Value} {s : ByteArray} {a e : Int} (h : cmd_Decode_D w gz gr gc gf g f CS s a e W) {W' : World} (hb : Below W.heap.size W W') : cmd_Decode_D w gz gr gc gf g f CS s a e W' :=
 ⟨blk_below h.z hb, blk_below h.r hb, blk_below h.c hb, blk_below h.f hb, ⟨blk_below h.i.1 hb, h.i.2⟩, below_step h.b hb, h.lz, h.lc, h.nzc⟩
theorem cmd_Decode_D.drew {w W : World} {gz gr gc gf g : Nat} {f : Int} {CS : Array Value} {s : ByteArray} {a e : Int} (h : cmd_Decode_D w gz gr gc gf g f CS s a e W) : cmd_Decode_D w gz gr gc gf g f CS s a e W.drew := ⟨blk_drew h.z, blk_drew h.r, blk_drew h.c, blk_drew h.f, ⟨blk_drew h.i.1, h.i.2⟩, h.b.drew, h.lz, h.lc, h.nzc⟩
theorem cmd_Decode_D.grown {w W : World} {gz gr gc gf g : Nat} {f : Int} {CS : Array Value} {s : ByteArray} {a e : Int} (h : cmd_Decode_D w gz gr gc gf g f CS s a e W) {W' : World} {α : Type} {d : Kd α} {t : Nat} {v : Value} {xs : List α} (hv : d.R t W w.heap.size (fun _ => True) v xs) (hg : W.grownBy W' v.ownBlock) (hb : Below w.heap.size w W') (t1 : t ≠ 25) (t2 : t ≠ 76) (t3 : t ≠ 3) (t4 : t ≠ 119) : cmd_Decode_D w gz gr gc gf g f CS s a e W' :=
 ⟨blk_grown h.z hg (Kd.R_ne hv h.z t1), blk_grown h.r hg (Kd.R_ne hv h.r t2), blk_grown h.c hg (Kd.R_ne hv h.c t1), blk_grown h.f hg (Kd.R_ne hv h.f t3), ⟨blk_grown h.i.1 hg (Kd.R_ne hv h.i.1 t4), h.i.2⟩, hb, h.lz, h.lc, h.nzc⟩
theorem cmd_Decode_two {W W' : World} {α β : Type} {d : Kd α} {d' : Kd β} {t t' base : Nat} {v v' : Value} {xs : List α} {ys : List β} (h : d.R t W base (fun _ => True) v xs) (h' : d'.R t' W base (fun _ => True) v' ys) (hg : W.grownBy W' v'.ownBlock) (ht : ∀ q, q ∈ t :: d.E → q ≠ t') : d.R t W' base (fun _ => True) v xs :=
 Kd.R_mono (Kd.R_grown (Kd.R_bound h) hg (fun k hk => by
  obtain ⟨_, _, _, q, hq, cells, hc⟩ := hk
  exact Kd.R_ne h' hc (fun e => ht q hq e.symm))) (fun _ _ => trivial)
theorem cmd_Decode_e1 {w W : World} {gz gr gc gf g : Nat} {f : Int} {CS : Array Value} {s : ByteArray} {a e : Int} (h : cmd_Decode_D w gz gr gc gf g f CS s a e W) (k : Nat) (bit most : Int) (r1 r2 : ByteArray) (r3 r4 : Int) (q : cmd_Decode_txt k (Go.bits .and .i64 f bit == 0) s a e most = some (r1, r2, r3, r4)) :
  Calls Tryd.prog 48 #[.int .i64 bit, .int .i64 most, .pointer (some ⟨gf, 0, none⟩), .pointer (some ⟨gr, 0, none⟩)] W fun z W' => z = .returned (.string r1) ∧ cmd_Decode_D w gz gr gc gf g f CS r2 r3 r4 W' ∧ KeepBut W W' g none :=
 (cmd_Decode_d1 k gf gr g f bit most s a e r1 r2 r3 r4 w W h.b h.i h.f h.r q).mono fun _ _ ⟨x1, x2, x3, x4⟩ => ⟨x1, h.step x2 x3 x4, x4⟩
theorem cmd_Decode_e2 {w W : World} {gz gr gc gf g : Nat} {f : Int} {CS : Array Value} {s : ByteArray} {a e : Int} (h : cmd_Decode_D w gz gr gc gf g f CS s a e W) (k : Nat) (bit most : Int) (r1 : Int) (r2 : ByteArray) (r3 r4 : Int) (q : cmd_Decode_num k (Go.bits .and .i64 f bit == 0) s a e most = some (r1, r2, r3, r4)) :
  Calls Tryd.prog 50 #[.int .i64 bit, .int .i64 most, .pointer (some ⟨gf, 0, none⟩), .pointer (some ⟨gr, 0, none⟩)] W fun z W' => z = .returned (.int .i64 r1) ∧ cmd_Decode_D w gz gr gc gf g f CS r2 r3 r4 W' ∧ KeepBut W W' g none :=
 (cmd_Decode_d2 k gf gr g f bit most s a e r1 r2 r3 r4 w W h.b h.i h.f h.r q).mono fun _ _ ⟨x1, x2, x3, x4⟩ => ⟨x1, h.step x2 x3 x4, x4⟩
theorem cmd_Decode_c9 {W : World} {g : Nat} {t : TypeId} {a0 a1 a2 a3 a4 a5 a6 a7 a8 : Value} (h : W.heap[g]? = some (.cells #[a0, a1, a2, a3, a4, a5, a6, a7, a8] t (0, 0))) : W.cell? ⟨g, 0, none⟩ = some a0 ∧ W.cell? ⟨g, 1, none⟩ = some a1 ∧ W.cell? ⟨g, 2, none⟩ = some a2 ∧ W.cell? ⟨g, 3, none⟩ = some a3 ∧ W.cell? ⟨g, 4, none⟩ = some a4 ∧ W.cell? ⟨g, 5, none⟩ = some a5 ∧ W.cell? ⟨g, 6, none⟩ = some a6 ∧ W.cell? ⟨g, 7, none⟩ = some a7 ∧ W.cell? ⟨g, 8, none⟩ = some a8 :=
 ⟨(blk_cell h 0).trans rfl, (blk_cell h 1).trans rfl, (blk_cell h 2).trans rfl, (blk_cell h 3).trans rfl, (blk_cell h 4).trans rfl, (blk_cell h 5).trans rfl, (blk_cell h 6).trans rfl, (blk_cell h 7).trans rfl, (blk_cell h 8).trans rfl⟩
theorem cmd_Decode_f9 {W : World} {g : Nat} {t : TypeId} {CS : Array Value} (h : W.heap[g]? = some (.cells CS t (0, 0))) : W.frozen? ⟨g, 0, none⟩ = false ∧ W.frozen? ⟨g, 1, none⟩ = false ∧ W.frozen? ⟨g, 2, none⟩ = false ∧ W.frozen? ⟨g, 3, none⟩ = false ∧ W.frozen? ⟨g, 4, none⟩ = false ∧ W.frozen? ⟨g, 5, none⟩ = false ∧ W.frozen? ⟨g, 6, none⟩ = false ∧ W.frozen? ⟨g, 7, none⟩ = false ∧ W.frozen? ⟨g, 8, none⟩ = false :=
 ⟨blk_frozen h 0, blk_frozen h 1, blk_frozen h 2, blk_frozen h 3, blk_frozen h 4, blk_frozen h 5, blk_frozen h 6, blk_frozen h 7, blk_frozen h 8⟩
set_option maxHeartbeats 16000000 in
set_option maxRecDepth 100000 in
theorem cmd_Decode.calls (k : Nat) (a0 : ByteArray) (r1 : Int) (r2 : ByteArray) (r3 : ByteArray) (r4 : ByteArray) (r5 : Int) (r6 : Int) (r7 : ByteArray) (r8 : List (S82)) (r9 : List (S62)) (r10 : Int) (w : World) (h : cmd_Decode.f k a0 = some (r1, r2, r3, r4, r5, r6, r7, r8, r9, r10)) (hG : GG w) :
  Calls Tryd.prog 16 #[.string a0] w fun e w' => ∃ v7_ v8_ : Value, e = .returned (.tuple #[.agg #[.int .i64 r1, .string r2, .string r3, .string r4, .int .i64 r5, .int .i64 r6, .string r7, v7_, v8_], .int .i64 r10]) ∧ Kd.R k82 82 w' w.heap.size (fun _ => True) v7_ r8 ∧ Kd.R k62 62 w' w.heap.size (fun _ => True) v8_ r9 ∧ Below w.heap.size w w' := by
 have HG := am hG
 clear hG
 have HB := am (Below.refl w.heap.size w)
 unfold cmd_Decode.f at h
 replace h := obE h
 obtain ⟨⟨x0, s0, p0⟩, A0, h⟩ := h
 try dsimp only at h
 try dsimp only at A0
 replace h := obE h
 obtain ⟨⟨n1, x1, s1, p1⟩, A1, h⟩ := h
 try dsimp only at h
 try dsimp only at A1
 replace h := obE h
 obtain ⟨f, A2, h⟩ := h
 try dsimp only at A2
 replace h := obE h
 obtain ⟨⟨t2, x2, s2, p2⟩, A3, h⟩ := h
 try dsimp only at h
 try dsimp only at A3
 replace h := obE h
 obtain ⟨⟨t3, x3, s3, p3⟩, A4, h⟩ := h
 try dsimp only at h
 try dsimp only at A4
 replace h := obE h
 obtain ⟨⟨t4, x4, s4, p4⟩, A5, h⟩ := h
 try dsimp only at h
 try dsimp only at A5
 replace h := obE h
 obtain ⟨⟨n5, x5, s5, p5⟩, A6, h⟩ := h
 try dsimp only at h
 try dsimp only at A6
 replace h := obE h
 obtain ⟨⟨n6, x6, s6, p6⟩, A7, h⟩ := h
 try dsimp only at h
 try dsimp only at A7
 replace h := obE h
 obtain ⟨⟨t7, x7, s7, p7⟩, A8, h⟩ := h
 try dsimp only at h
 try dsimp only at A8
 replace h := obE h
 obtain ⟨⟨n8, x8, s8, p8⟩, A9, h⟩ := h
 try dsimp only at h
 try dsimp only at A9
 replace h := obE h
 obtain ⟨⟨x9, s9, p9, l9⟩, A10, h⟩ := h
 try dsimp only at h
 try dsimp only at A10
 replace h := obE h
 obtain ⟨⟨n10, x10, s10, p10⟩, A11, h⟩ := h
 try dsimp only at h
 try dsimp only at A11
 replace h := obE h
 obtain ⟨⟨x11, s11, p11, l11⟩, A12, h⟩ := h
 try dsimp only at h
 try dsimp only at A12
 replace h := obE h
 obtain ⟨⟨n12, x12, s12, p12⟩, A13, h⟩ := h
 try dsimp only at h
 try dsimp only at A13
 have HF := am h
 clear h
 have hmf : ∀ (fn : Fn) (first cap : Array Value) (w : World), (Instr.makeFunc fn first cap).run Tryd.prog w = .ok (.func fn first cap) w := fun _ _ _ _ => rfl
 go_enter Tryd.func16, Tryd.ntmps16
 go_wp2_with (first
  | ((with_reducible refine gate_dst (N := 2) rfl ?_); refine bx 2 #[.int .i64 0, .string ⟨#[]⟩, .string ⟨#[]⟩, .string ⟨#[]⟩, .int .i64 0, .int .i64 0, .string ⟨#[]⟩, .slice none 0 0, .slice none 0 0] 25 ?_; intro gz hg w1 hbox hb; have BZ := am hbox; have GZ := gsz hg HB.out; replace HB := am (below_step HB.out hb); clear hb hbox hg)
  | (go_at_call 46; (with_reducible refine (octet_NewReader.calls a0 x0 s0 p0 w _ HB.out A0.out).mono ?_); rintro e w2 ⟨g, rfl, hi, hb, hb2⟩; have HI := am hi; replace BZ := bb BZ.out hb2; replace HB := am hb; clear hi hb hb2)
  | ((with_reducible refine gate_dst (N := 4) rfl ?_); refine bx 4 #[.pointer none] 76 ?_; intro gr hg w3 hbox hb; have BR := am hbox; replace BZ := bb BZ.out hb; replace HI := am (show IsS119 w w3 g x0 s0 p0 from ⟨blk_below HI.out.1 hb, HI.out.2⟩); have GR := gsz hg HB.out; replace HB := am (below_step HB.out hb); clear hb hbox hg; obtain ⟨cr, fr⟩ := cz1 BR.out; have ner := blk_ne BZ.out BR.out (by decide); have nir := blk_ne HI.out.1 BR.out (by decide))
  | (go_at_call 47; (with_reducible refine (octet_Reader_Int.calls k g x0 s0 p0 10 n1 x1 s1 p1 w _ (IsS119.far HI.out nir _) (below_set HB.out GR.out) A1.out).mono ?_); rintro e w4 ⟨rfl, hi, hb, hk⟩; replace BZ := am (hk.blk (g' := gz) (o := .cells #[.int .i64 0, .string ⟨#[]⟩, .string ⟨#[]⟩, .string ⟨#[]⟩, .int .i64 0, .int .i64 0, .string ⟨#[]⟩, .slice none 0 0, .slice none 0 0] 25 (0, 0)) (blk_far BZ.out ner _) (blk_ne BZ.out HI.out.1 (by decide)) (by simp)); replace BR := am (hk.blk (g' := gr) (o := .cells #[.pointer (some ⟨g, 0, none⟩)] 76 (0, 0)) (bkp BR.out) (blk_ne BR.out HI.out.1 (by decide)) (by simp)); replace HI := am hi; replace HB := am hb; clear hi hb hk cr fr ner nir)
  | ((with_reducible refine gate_dst (N := 5) rfl ?_); refine bx 5 #[.int .i64 0, .string ⟨#[]⟩, .string ⟨#[]⟩, .string ⟨#[]⟩, .int .i64 0, .int .i64 0, .string ⟨#[]⟩, .slice none 0 0, .slice none 0 0] 25 ?_; intro gc hg wc hbox hb; have BC := am hbox; have GC := gsz hg HB.out; have NZC := nlt (g := gz) hg BZ.out; replace BZ := bb BZ.out hb; replace BR := bb BR.out hb; replace HI := am (show IsS119 w wc g x1 s1 p1 from ⟨blk_below HI.out.1 hb, HI.out.2⟩); replace HB := am (below_step HB.out hb); clear hb hbox hg; obtain ⟨c0, c1, c2, c3, c4, c5, c6, c7, c8⟩ := cmd_Decode_c9 BC.out; obtain ⟨y0, y1, y2, y3, y4, y5, y6, y7, y8⟩ := cmd_Decode_f9 BC.out)
  | (go_at_call 30; (with_reducible refine (cmd_fields.calls k n1 f _ A2.out).mono ?_); rintro e w5 ⟨rfl, hd⟩; obtain ⟨nd, rfl⟩ := hd.out; have hx := cmd_Decode_all9 BC.out (.int .i64 n1) (.string ⟨#[]⟩) (.string ⟨#[]⟩) (.string ⟨#[]⟩) (.int .i64 0) (.int .i64 0) (.string ⟨#[]⟩) (.slice none 0 0) (.slice none 0 0); have q1 := hx.1; have q2 := hx.2.1; have q3 := hx.2.2 w HB.out GC.out; clear hd hx c0 c1 c2 c3 c4 c5 c6 c7 c8 y0 y1 y2 y3 y4 y5 y6 y7 y8; generalize ((((((((wc.setCell ⟨gc, 0, none⟩ (.int .i64 n1)).setCell ⟨gc, 1, none⟩ (.string ⟨#[]⟩)).setCell ⟨gc, 2, none⟩ (.string ⟨#[]⟩)).setCell ⟨gc, 3, none⟩ (.string ⟨#[]⟩)).setCell ⟨gc, 4, none⟩ (.int .i64 0)).setCell ⟨gc, 5, none⟩ (.int .i64 0)).setCell ⟨gc, 6, none⟩ (.string ⟨#[]⟩)).setCell ⟨gc, 7, none⟩ (.slice none 0 0)).setCell ⟨gc, 8, none⟩ (.slice none 0 0) = w6 at q1 q2 q3 ⊢; replace BZ := am (blk_drewN ((q2 gz NZC.out).trans BZ.out) nd); replace BR := am (blk_drewN ((q2 gr (blk_ne BR.out BC.out (by decide))).trans BR.out) nd); replace HI := am (IsS119.drewN (show IsS119 w w6 g x1 s1 p1 from ⟨(q2 g (blk_ne HI.out.1 BC.out (by decide))).trans HI.out.1, HI.out.2⟩) nd); replace BC := am (blk_drewN q1 nd); replace HB := am (pw_below_drewN q3 nd); clear q1 q2 q3; generalize w6.drewN nd = w7 at BC BZ BR HI HB ⊢)
  | ((with_reducible refine gate_dst (N := 6) rfl ?_); refine bx 6 #[.int .i64 0] 3 ?_; intro gf hg w8 hbox hb; have GF := gsz hg HB.out; have BF := am hbox; replace BZ := bb BZ.out hb; replace BR := bb BR.out hb; replace BC := bb BC.out hb; replace HI := am (show IsS119 w w8 g x1 s1 p1 from ⟨blk_below HI.out.1 hb, HI.out.2⟩); replace HB := am (below_step HB.out hb); clear hb hbox hg; obtain ⟨cf, ff⟩ := cz1 BF.out; have HD := am (show cmd_Decode_D w gz gr gc gf g f #[.int .i64 n1, .string ⟨#[]⟩, .string ⟨#[]⟩, .string ⟨#[]⟩, .int .i64 0, .int .i64 0, .string ⟨#[]⟩, .slice none 0 0, .slice none 0 0] x1 s1 p1 (w8.setCell ⟨gf, 0, none⟩ (.int .i64 f)) from ⟨blk_far BZ.out (blk_ne BZ.out BF.out (by decide)) _, blk_far BR.out (blk_ne BR.out BF.out (by decide)) _, blk_far BC.out (blk_ne BC.out BF.out (by decide)) _, blk_put BF.out 0 _ rfl, ⟨blk_far HI.out.1 (blk_ne HI.out.1 BF.out (by decide)) _, HI.out.2⟩, below_set HB.out GF.out, GZ.out, GC.out, NZC.out⟩); clear BZ BR BC BF HI HB GZ GR GC NZC GF)
  | (go_at_call 48; have hd := HD.out; (with_reducible refine (cmd_Decode_e1 hd k 1 64 t2 x2 s2 p2 A3.out).mono ?_); rintro e w9 ⟨rfl, hd2, hkk⟩; replace HD := am hd2; clear hd hd2 hkk cf ff A3)
  | (go_at_call 48; have hd := HD.out; (with_reducible refine (cmd_Decode_e1 hd k 2 63 t3 x3 s3 p3 A4.out).mono ?_); rintro e w10 ⟨rfl, hd2, hkk⟩; replace HD := am hd2; clear hd hd2 hkk A4)
  | (go_at_call 48; have hd := HD.out; (with_reducible refine (cmd_Decode_e1 hd k 4 1024 t4 x4 s4 p4 A5.out).mono ?_); rintro e w11 ⟨rfl, hd2, hkk⟩; replace HD := am hd2; clear hd hd2 hkk A5; obtain ⟨c0, c1, c2, c3, c4, c5, c6, c7, c8⟩ := cmd_Decode_c9 HD.out.c; obtain ⟨y0, y1, y2, y3, y4, y5, y6, y7, y8⟩ := cmd_Decode_f9 HD.out.c)
  | (go_at_call 50; have hd := (((HD.out.put (CS' := #[.int .i64 n1, .string t2, .string ⟨#[]⟩, .string ⟨#[]⟩, .int .i64 0, .int .i64 0, .string ⟨#[]⟩, .slice none 0 0, .slice none 0 0]) 1 (.string t2) rfl).put (CS' := #[.int .i64 n1, .string t2, .string t3, .string ⟨#[]⟩, .int .i64 0, .int .i64 0, .string ⟨#[]⟩, .slice none 0 0, .slice none 0 0]) 2 (.string t3) rfl).put (CS' := #[.int .i64 n1, .string t2, .string t3, .string t4, .int .i64 0, .int .i64 0, .string ⟨#[]⟩, .slice none 0 0, .slice none 0 0]) 3 (.string t4) rfl); (with_reducible refine (cmd_Decode_e2 hd k 8 1099511627776 n5 x5 s5 p5 A6.out).mono ?_); rintro e w12 ⟨rfl, hd2, hkk⟩; replace HD := am hd2; clear hd hd2 hkk A6 c0 c1 c2 c3 c4 c5 c6 c7 c8 y0 y1 y2 y3 y4 y5 y6 y7 y8)
  | (go_at_call 50; have hd := HD.out; (with_reducible refine (cmd_Decode_e2 hd k 16 100 n6 x6 s6 p6 A7.out).mono ?_); rintro e w13 ⟨rfl, hd2, hkk⟩; replace HD := am hd2; clear hd hd2 hkk A7; obtain ⟨c0, c1, c2, c3, c4, c5, c6, c7, c8⟩ := cmd_Decode_c9 HD.out.c; obtain ⟨y0, y1, y2, y3, y4, y5, y6, y7, y8⟩ := cmd_Decode_f9 HD.out.c)
  | (go_at_call 48; have hd := ((HD.out.put (CS' := #[.int .i64 n1, .string t2, .string t3, .string t4, .int .i64 n5, .int .i64 0, .string ⟨#[]⟩, .slice none 0 0, .slice none 0 0]) 4 (.int .i64 n5) rfl).put (CS' := #[.int .i64 n1, .string t2, .string t3, .string t4, .int .i64 n5, .int .i64 n6, .string ⟨#[]⟩, .slice none 0 0, .slice none 0 0]) 5 (.int .i64 n6) rfl); (with_reducible refine (cmd_Decode_e1 hd k 32 64 t7 x7 s7 p7 A8.out).mono ?_); rintro e w14 ⟨rfl, hd2, hkk⟩; replace HD := am hd2; clear hd hd2 hkk A8 c0 c1 c2 c3 c4 c5 c6 c7 c8 y0 y1 y2 y3 y4 y5 y6 y7 y8; obtain ⟨c0, c1, c2, c3, c4, c5, c6, c7, c8⟩ := cmd_Decode_c9 HD.out.c; obtain ⟨y0, y1, y2, y3, y4, y5, y6, y7, y8⟩ := cmd_Decode_f9 HD.out.c)
  | (go_at_call 50; have hd := (HD.out.put (CS' := #[.int .i64 n1, .string t2, .string t3, .string t4, .int .i64 n5, .int .i64 n6, .string t7, .slice none 0 0, .slice none 0 0]) 6 (.string t7) rfl); (with_reducible refine (cmd_Decode_e2 hd k 64 512 n8 x8 s8 p8 A9.out).mono ?_); rintro e w15 ⟨rfl, hd2, hkk⟩; replace HD := am hd2; clear hd hd2 hkk A9 c0 c1 c2 c3 c4 c5 c6 c7 c8 y0 y1 y2 y3 y4 y5 y6 y7 y8))
 by_cases hn : n8 ≤ 512
 rotate_left
 ·
  exact absurd A10.out (by rw [if_neg hn]; simp)
 replace A10 := am (by have h := A10.out; rw [if_pos hn] at h; exact h)
 go_loopg [39] n8.toNat (fun n v39 w' => ∃ (x : Int) (xs : ByteArray) (ss pp : Int) (acc : List (S82)) (u7 : Value), v39 = .int .i64 x ∧ Aside0 (0 ≤ x ∧ x + (n : Int) = (n8.toNat : Int)) ∧ Aside0 (cmd_Decode_l0 k n xs ss pp acc = some (x9, s9, p9, l9)) ∧ Aside0 (cmd_Decode_D w gz gr gc gf g f #[.int .i64 n1, .string t2, .string t3, .string t4, .int .i64 n5, .int .i64 n6, .string t7, u7, .slice none 0 0] xs ss pp w') ∧ Aside0 (Kd.R k82 82 w' w.heap.size (fun _ => True) u7 acc))
 case atStart => exact ⟨0, x8, s8, p8, [], .slice none 0 0, rfl, am ⟨Int.le_refl _, Int.zero_add _⟩, A10, HD, am (Kd.R_nil _ _ _ _ _)⟩
 case round =>
  clear HD A10
  obtain ⟨x, xs, ss, pp, acc, u7, rfl, HN, HL, HD, HV⟩ := hrel
  obtain ⟨B7, d7, e7⟩ := Kd.R_slice HV.out
  subst e7
  cases gk with
  | zero =>
   have q1 : decide (x < n8) = false := decide_eq_false (by have := HN.out; omega)
   have hl := HL.out
   simp only [cmd_Decode_l0, Option.some.injEq, Prod.mk.injEq] at hl
   obtain ⟨h1, h2, h3, h4⟩ := hl
   replace h1 := h1.symm
   replace h2 := h2.symm
   replace h3 := h3.symm
   replace h4 := h4.symm
   subst h1 h2 h3 h4
   clear HN HL hn
   obtain ⟨B9, d9, e9⟩ : ∃ (B9 : Option Addr) (d9 : Nat), (.slice B7 l9.length d7 : Value) = .slice B9 l9.length d9 := ⟨_, _, rfl⟩
   rw [e9] at HD HV
   have HP := HV
   clear e9 HV
   go_wp2_with (go_at_call 50; (with_reducible refine (cmd_Decode_d2 k gf gr g f 128 100 x9 s9 p9 n10 x10 s10 p10 w _ HD.out.b HD.out.i HD.out.f HD.out.r A11.out).mono ?_); rintro e w16 ⟨rfl, hi, hb, hk⟩; replace HP := am (Kd.R_mono (Kd.R_keep (Kd.R_types HP.out HD.out.i.1 (by decide)) hk (fun _ h => h.2)) (fun _ _ => trivial)); replace HD := am (HD.out.step hi hb hk); clear hi hb hk)
   by_cases hn : n10 ≤ 100
   rotate_left
   ·
    exact absurd A12.out (by rw [if_neg hn]; simp)
   replace A12 := am (by have h := A12.out; rw [if_pos hn] at h; exact h)
   go_loopg [54] n10.toNat (fun n v54 w' => ∃ (x : Int) (xs : ByteArray) (ss pp : Int) (acc : List (S62)) (u8 : Value), v54 = .int .i64 x ∧ Aside0 (0 ≤ x ∧ x + (n : Int) = (n10.toNat : Int)) ∧ Aside0 (cmd_Decode_l1 k n xs ss pp acc = some (x11, s11, p11, l11)) ∧ Aside0 (cmd_Decode_D w gz gr gc gf g f #[.int .i64 n1, .string t2, .string t3, .string t4, .int .i64 n5, .int .i64 n6, .string t7, .slice B9 l9.length d9, u8] xs ss pp w') ∧ Aside0 (Kd.R k62 62 w' w.heap.size (fun _ => True) u8 acc) ∧ Aside0 (Kd.R k82 82 w' w.heap.size (fun _ => True) (.slice B9 l9.length d9) l9))
   case atStart => exact ⟨0, x10, s10, p10, [], .slice none 0 0, rfl, am ⟨Int.le_refl _, Int.zero_add _⟩, A12, HD, am (Kd.R_nil _ _ _ _ _), HP⟩
   case round =>
    clear HD A12 HP
    obtain ⟨x, xs, ss, pp, acc, u8, rfl, HN, HL, HD, HV, HP⟩ := hrel
    obtain ⟨B7, d7, e7⟩ := Kd.R_slice HV.out
    subst e7
    cases gk with
    | zero =>
     have q1 : decide (x < n10) = false := decide_eq_false (by have := HN.out; omega)
     have hl := HL.out
     simp only [cmd_Decode_l1, Option.some.injEq, Prod.mk.injEq] at hl
     obtain ⟨h1, h2, h3, h4⟩ := hl
     replace h1 := h1.symm
     replace h2 := h2.symm
     replace h3 := h3.symm
     replace h4 := h4.symm
     subst h1 h2 h3 h4
     clear HN HL hn
     have hf := HF.out
     have cr := (cz1 HD.out.r).1
     by_cases hc : n12 = 0
     ·
      subst hc
      rw [if_pos rfl] at hf
      replace hf := obE hf
      obtain ⟨c, B1, hf⟩ := hf
      by_cases hc : c = 0
      ·
       subst hc
       rw [if_pos rfl] at hf
       simp only [cmd_Decode_none, Option.some.injEq, Prod.mk.injEq] at hf
       obtain ⟨rfl, rfl, rfl, rfl, rfl, rfl, rfl, rfl, rfl, rfl⟩ := hf
       go_wp2_with (first | (go_at_call 51; (with_reducible refine (octet_Reader_End.calls g x11 s11 p11 0 x12 s12 p12 w _ HD.out.i HD.out.b A13.out).mono ?_); rintro e w17 ⟨rfl, hi, hb, hk⟩; replace HP := am (Kd.R_mono (Kd.R_keep (Kd.R_types HP.out HD.out.i.1 (by decide)) hk (fun _ h => h.2)) (fun _ _ => trivial)); replace HV := am (Kd.R_mono (Kd.R_keep (Kd.R_types HV.out HD.out.i.1 (by decide)) hk (fun _ h => h.2)) (fun _ _ => trivial)); replace HD := am (HD.out.step hi hb hk); clear hi hb hk; clear cr; obtain ⟨c0, c1, c2, c3, c4, c5, c6, c7, c8⟩ := cmd_Decode_c9 HD.out.c) | (go_at_call 14; (with_reducible refine (cmd_Check.calls k n1 t2 t3 t4 n5 n6 t7 B9 d9 l9 B7 d7 l11 0 _ (Kd.R_reads' HP.out).2.2 (Kd.R_reads' HP.out).2.1 (Kd.R_reads' HV.out).2.2 (Kd.R_reads' HV.out).2.1 B1.out (gg_below HG.out HD.out.b)).mono ?_); rintro e w18 ⟨rfl, hb⟩; replace HP := am (Kd.R_below HP.out hb); replace HV := am (Kd.R_below HV.out hb); replace HD := am (HD.out.below hb); clear hb c0 c1 c2 c3 c4 c5 c6 c7 c8; obtain ⟨c0, c1, c2, c3, c4, c5, c6, c7, c8⟩ := cmd_Decode_c9 HD.out.c; obtain ⟨z0, z1, z2, z3, z4, z5, z6, z7, z8⟩ := cmd_Decode_c9 HD.out.z; obtain ⟨y0, y1, y2, y3, y4, y5, y6, y7, y8⟩ := cmd_Decode_f9 HD.out.z))
       have hx := cmd_Decode_all9 HD.out.z (.int .i64 n1) (.string t2) (.string t3) (.string t4) (.int .i64 n5) (.int .i64 n6) (.string t7) (.slice B9 l9.length d9) (.slice B7 l11.length d7)
       have q1 := hx.1
       have q2 := hx.2.1
       have q3 := hx.2.2 w HD.out.b HD.out.lz
       have q4 : Aside0 (Kd.R k82 82 (((((((((w18.setCell ⟨gz, 0, none⟩ (.int .i64 n1)).setCell ⟨gz, 1, none⟩ (.string t2)).setCell ⟨gz, 2, none⟩ (.string t3)).setCell ⟨gz, 3, none⟩ (.string t4)).setCell ⟨gz, 4, none⟩ (.int .i64 n5)).setCell ⟨gz, 5, none⟩ (.int .i64 n6)).setCell ⟨gz, 6, none⟩ (.string t7)).setCell ⟨gz, 7, none⟩ (.slice B9 l9.length d9)).setCell ⟨gz, 8, none⟩ (.slice B7 l11.length d7)) w.heap.size (fun _ => True) (.slice B9 l9.length d9) l9) := am (Kd.R_mono (Kd.R_step (Kd.R_types HP.out HD.out.z (by decide)) (fun k_ hk_ _ => q2 k_ hk_.2)) (fun _ _ => trivial))
       have q5 : Aside0 (Kd.R k62 62 (((((((((w18.setCell ⟨gz, 0, none⟩ (.int .i64 n1)).setCell ⟨gz, 1, none⟩ (.string t2)).setCell ⟨gz, 2, none⟩ (.string t3)).setCell ⟨gz, 3, none⟩ (.string t4)).setCell ⟨gz, 4, none⟩ (.int .i64 n5)).setCell ⟨gz, 5, none⟩ (.int .i64 n6)).setCell ⟨gz, 6, none⟩ (.string t7)).setCell ⟨gz, 7, none⟩ (.slice B9 l9.length d9)).setCell ⟨gz, 8, none⟩ (.slice B7 l11.length d7)) w.heap.size (fun _ => True) (.slice B7 l11.length d7) l11) := am (Kd.R_mono (Kd.R_step (Kd.R_types HV.out HD.out.z (by decide)) (fun k_ hk_ _ => q2 k_ hk_.2)) (fun _ _ => trivial))
       clear hx q2 HD HP HV
       generalize ((((((((w18.setCell ⟨gz, 0, none⟩ (.int .i64 n1)).setCell ⟨gz, 1, none⟩ (.string t2)).setCell ⟨gz, 2, none⟩ (.string t3)).setCell ⟨gz, 3, none⟩ (.string t4)).setCell ⟨gz, 4, none⟩ (.int .i64 n5)).setCell ⟨gz, 5, none⟩ (.int .i64 n6)).setCell ⟨gz, 6, none⟩ (.string t7)).setCell ⟨gz, 7, none⟩ (.slice B9 l9.length d9)).setCell ⟨gz, 8, none⟩ (.slice B7 l11.length d7) = Z9 at q1 q3 q4 q5 ⊢
       refine bodyPost_ret (results_ct rfl _ _ gz 25 #[.int .i64 n1, .string t2, .string t3, .string t4, .int .i64 n5, .int .i64 n6, .string t7, .slice B9 l9.length d9, .slice B7 l11.length d7] (0, 0) _ rfl q1 Tryd.underlying25 rfl (by kernel_rfl)) rfl ?_
       exact ⟨_, _, rfl, q4.out, q5.out, q3⟩
      ·
       rw [if_neg hc] at hf
       have hcb : (c != 0) = true := bne_iff_ne.mpr hc
       clear hc
       simp only [cmd_Decode_none, Option.some.injEq, Prod.mk.injEq] at hf
       obtain ⟨rfl, rfl, rfl, rfl, rfl, rfl, rfl, rfl, rfl, rfl⟩ := hf
       go_wp2_with (first | (go_at_call 51; (with_reducible refine (octet_Reader_End.calls g x11 s11 p11 0 x12 s12 p12 w _ HD.out.i HD.out.b A13.out).mono ?_); rintro e w17 ⟨rfl, hi, hb, hk⟩; replace HP := am (Kd.R_mono (Kd.R_keep (Kd.R_types HP.out HD.out.i.1 (by decide)) hk (fun _ h => h.2)) (fun _ _ => trivial)); replace HV := am (Kd.R_mono (Kd.R_keep (Kd.R_types HV.out HD.out.i.1 (by decide)) hk (fun _ h => h.2)) (fun _ _ => trivial)); replace HD := am (HD.out.step hi hb hk); clear hi hb hk; clear cr; obtain ⟨c0, c1, c2, c3, c4, c5, c6, c7, c8⟩ := cmd_Decode_c9 HD.out.c) | (go_at_call 14; (with_reducible refine (cmd_Check.calls k n1 t2 t3 t4 n5 n6 t7 B9 d9 l9 B7 d7 l11 c _ (Kd.R_reads' HP.out).2.2 (Kd.R_reads' HP.out).2.1 (Kd.R_reads' HV.out).2.2 (Kd.R_reads' HV.out).2.1 B1.out (gg_below HG.out HD.out.b)).mono ?_); rintro e w18 ⟨rfl, hb⟩; replace HP := am (Kd.R_below HP.out hb); replace HV := am (Kd.R_below HV.out hb); replace HD := am (HD.out.below hb); clear hb c0 c1 c2 c3 c4 c5 c6 c7 c8; obtain ⟨c0, c1, c2, c3, c4, c5, c6, c7, c8⟩ := cmd_Decode_c9 HD.out.c; obtain ⟨z0, z1, z2, z3, z4, z5, z6, z7, z8⟩ := cmd_Decode_c9 HD.out.z; obtain ⟨y0, y1, y2, y3, y4, y5, y6, y7, y8⟩ := cmd_Decode_f9 HD.out.z))
       have hx := cmd_Decode_all9 HD.out.z (.int .i64 0) (.string ⟨#[]⟩) (.string ⟨#[]⟩) (.string ⟨#[]⟩) (.int .i64 0) (.int .i64 0) (.string ⟨#[]⟩) (.slice none 0 0) (.slice none 0 0)
       have q1 := hx.1
       have q2 := hx.2.1
       have q3 := hx.2.2 w HD.out.b HD.out.lz
       have q4 : Aside0 (Kd.R k82 82 (((((((((w18.setCell ⟨gz, 0, none⟩ (.int .i64 0)).setCell ⟨gz, 1, none⟩ (.string ⟨#[]⟩)).setCell ⟨gz, 2, none⟩ (.string ⟨#[]⟩)).setCell ⟨gz, 3, none⟩ (.string ⟨#[]⟩)).setCell ⟨gz, 4, none⟩ (.int .i64 0)).setCell ⟨gz, 5, none⟩ (.int .i64 0)).setCell ⟨gz, 6, none⟩ (.string ⟨#[]⟩)).setCell ⟨gz, 7, none⟩ (.slice none 0 0)).setCell ⟨gz, 8, none⟩ (.slice none 0 0)) w.heap.size (fun _ => True) (.slice B9 l9.length d9) l9) := am (Kd.R_mono (Kd.R_step (Kd.R_types HP.out HD.out.z (by decide)) (fun k_ hk_ _ => q2 k_ hk_.2)) (fun _ _ => trivial))
       have q5 : Aside0 (Kd.R k62 62 (((((((((w18.setCell ⟨gz, 0, none⟩ (.int .i64 0)).setCell ⟨gz, 1, none⟩ (.string ⟨#[]⟩)).setCell ⟨gz, 2, none⟩ (.string ⟨#[]⟩)).setCell ⟨gz, 3, none⟩ (.string ⟨#[]⟩)).setCell ⟨gz, 4, none⟩ (.int .i64 0)).setCell ⟨gz, 5, none⟩ (.int .i64 0)).setCell ⟨gz, 6, none⟩ (.string ⟨#[]⟩)).setCell ⟨gz, 7, none⟩ (.slice none 0 0)).setCell ⟨gz, 8, none⟩ (.slice none 0 0)) w.heap.size (fun _ => True) (.slice B7 l11.length d7) l11) := am (Kd.R_mono (Kd.R_step (Kd.R_types HV.out HD.out.z (by decide)) (fun k_ hk_ _ => q2 k_ hk_.2)) (fun _ _ => trivial))
       clear hx q2 HD HP HV
       generalize ((((((((w18.setCell ⟨gz, 0, none⟩ (.int .i64 0)).setCell ⟨gz, 1, none⟩ (.string ⟨#[]⟩)).setCell ⟨gz, 2, none⟩ (.string ⟨#[]⟩)).setCell ⟨gz, 3, none⟩ (.string ⟨#[]⟩)).setCell ⟨gz, 4, none⟩ (.int .i64 0)).setCell ⟨gz, 5, none⟩ (.int .i64 0)).setCell ⟨gz, 6, none⟩ (.string ⟨#[]⟩)).setCell ⟨gz, 7, none⟩ (.slice none 0 0)).setCell ⟨gz, 8, none⟩ (.slice none 0 0) = Z9 at q1 q3 q4 q5 ⊢
       refine bodyPost_ret (results_ct rfl _ _ gz 25 #[.int .i64 0, .string ⟨#[]⟩, .string ⟨#[]⟩, .string ⟨#[]⟩, .int .i64 0, .int .i64 0, .string ⟨#[]⟩, .slice none 0 0, .slice none 0 0] (0, 0) _ rfl q1 Tryd.underlying25 rfl (by kernel_rfl)) rfl ?_
       exact ⟨_, _, rfl, Kd.R_nil _ _ _ _ _, Kd.R_nil _ _ _ _ _, q3⟩
     ·
      rw [if_neg hc] at hf
      have hcb : (n12 != 0) = true := bne_iff_ne.mpr hc
      clear hc
      simp only [cmd_Decode_none, Option.some.injEq, Prod.mk.injEq] at hf
      obtain ⟨rfl, rfl, rfl, rfl, rfl, rfl, rfl, rfl, rfl, rfl⟩ := hf
      go_wp2_with (go_at_call 51; (with_reducible refine (octet_Reader_End.calls g x11 s11 p11 n12 x12 s12 p12 w _ HD.out.i HD.out.b A13.out).mono ?_); rintro e w17 ⟨rfl, hi, hb, hk⟩; replace HP := am (Kd.R_mono (Kd.R_keep (Kd.R_types HP.out HD.out.i.1 (by decide)) hk (fun _ h => h.2)) (fun _ _ => trivial)); replace HV := am (Kd.R_mono (Kd.R_keep (Kd.R_types HV.out HD.out.i.1 (by decide)) hk (fun _ h => h.2)) (fun _ _ => trivial)); replace HD := am (HD.out.step hi hb hk); clear hi hb hk; clear cr; obtain ⟨z0, z1, z2, z3, z4, z5, z6, z7, z8⟩ := cmd_Decode_c9 HD.out.z; obtain ⟨y0, y1, y2, y3, y4, y5, y6, y7, y8⟩ := cmd_Decode_f9 HD.out.z)
      have hx := cmd_Decode_all9 HD.out.z (.int .i64 0) (.string ⟨#[]⟩) (.string ⟨#[]⟩) (.string ⟨#[]⟩) (.int .i64 0) (.int .i64 0) (.string ⟨#[]⟩) (.slice none 0 0) (.slice none 0 0)
      have q1 := hx.1
      have q2 := hx.2.1
      have q3 := hx.2.2 w HD.out.b HD.out.lz
      have q4 : Aside0 (Kd.R k82 82 (((((((((w17.setCell ⟨gz, 0, none⟩ (.int .i64 0)).setCell ⟨gz, 1, none⟩ (.string ⟨#[]⟩)).setCell ⟨gz, 2, none⟩ (.string ⟨#[]⟩)).setCell ⟨gz, 3, none⟩ (.string ⟨#[]⟩)).setCell ⟨gz, 4, none⟩ (.int .i64 0)).setCell ⟨gz, 5, none⟩ (.int .i64 0)).setCell ⟨gz, 6, none⟩ (.string ⟨#[]⟩)).setCell ⟨gz, 7, none⟩ (.slice none 0 0)).setCell ⟨gz, 8, none⟩ (.slice none 0 0)) w.heap.size (fun _ => True) (.slice B9 l9.length d9) l9) := am (Kd.R_mono (Kd.R_step (Kd.R_types HP.out HD.out.z (by decide)) (fun k_ hk_ _ => q2 k_ hk_.2)) (fun _ _ => trivial))
      have q5 : Aside0 (Kd.R k62 62 (((((((((w17.setCell ⟨gz, 0, none⟩ (.int .i64 0)).setCell ⟨gz, 1, none⟩ (.string ⟨#[]⟩)).setCell ⟨gz, 2, none⟩ (.string ⟨#[]⟩)).setCell ⟨gz, 3, none⟩ (.string ⟨#[]⟩)).setCell ⟨gz, 4, none⟩ (.int .i64 0)).setCell ⟨gz, 5, none⟩ (.int .i64 0)).setCell ⟨gz, 6, none⟩ (.string ⟨#[]⟩)).setCell ⟨gz, 7, none⟩ (.slice none 0 0)).setCell ⟨gz, 8, none⟩ (.slice none 0 0)) w.heap.size (fun _ => True) (.slice B7 l11.length d7) l11) := am (Kd.R_mono (Kd.R_step (Kd.R_types HV.out HD.out.z (by decide)) (fun k_ hk_ _ => q2 k_ hk_.2)) (fun _ _ => trivial))
      clear hx q2 HD HP HV
      generalize ((((((((w17.setCell ⟨gz, 0, none⟩ (.int .i64 0)).setCell ⟨gz, 1, none⟩ (.string ⟨#[]⟩)).setCell ⟨gz, 2, none⟩ (.string ⟨#[]⟩)).setCell ⟨gz, 3, none⟩ (.string ⟨#[]⟩)).setCell ⟨gz, 4, none⟩ (.int .i64 0)).setCell ⟨gz, 5, none⟩ (.int .i64 0)).setCell ⟨gz, 6, none⟩ (.string ⟨#[]⟩)).setCell ⟨gz, 7, none⟩ (.slice none 0 0)).setCell ⟨gz, 8, none⟩ (.slice none 0 0) = Z9 at q1 q3 q4 q5 ⊢
      refine bodyPost_ret (results_ct rfl _ _ gz 25 #[.int .i64 0, .string ⟨#[]⟩, .string ⟨#[]⟩, .string ⟨#[]⟩, .int .i64 0, .int .i64 0, .string ⟨#[]⟩, .slice none 0 0, .slice none 0 0] (0, 0) _ rfl q1 Tryd.underlying25 rfl (by kernel_rfl)) rfl ?_
      exact ⟨_, _, rfl, Kd.R_nil _ _ _ _ _, Kd.R_nil _ _ _ _ _, q3⟩
    | succ m =>
     have q1 : decide (x < n10) = true := decide_eq_true (by have := HN.out; omega)
     have HX : Aside0 (wrap64 (x + 1) = x + 1) := am (IntWalk.wrap64_in _ (by have := HN.out; omega))
     have hl := HL.out
     rw [cmd_Decode_l1] at hl
     clear HL
     replace hl := obE hl
     obtain ⟨⟨m_, y1, z1, e1⟩, B1, hl⟩ := hl
     try dsimp only at hl
     replace hl := obE hl
     obtain ⟨⟨b, y2, z2, e2⟩, B2, hl⟩ := hl
     try dsimp only at hl
     try dsimp only at B2
     by_cases hlen : acc.length < 5864062014805
     rotate_left
     ·
      rw [if_neg hlen] at hl
      cases hl
     rw [if_pos hlen] at hl
     have HL := am hl
     have HE := am hlen
     clear hl hlen hn
     go_wp2
     have cc := (blk_cell HD.out.c 8).trans rfl
     have cr := (cz1 HD.out.r).1
     refine start_ (n := 11) (S := fun w' => w'.cell? ⟨gc, 8, none⟩ = some (.slice B7 acc.length d7) ∧ w'.cell? ⟨gr, 0, none⟩ = some (.pointer (some ⟨g, 0, none⟩))) (ds := [10]) #[false, false, false, false, false, false, false, false, false, false, false] (by kernel_rfl) rfl rfl ⟨cc, cr⟩ (fun hHeld => ?_)
     replace HD := am HD.out.drew
     replace HV := am (Kd.R_drew HV.out)
     replace HP := am (Kd.R_drew HP.out)
     clear cc cr
     generalize wr.drew = V1 at HD HV HP hHeld ⊢
     refine hp 0 (some 56) ?_
     refine ht 1 (some 57) hHeld ?_
     refine ht 2 (some 58) hHeld ?_
     refine ht 4 (some 60) hHeld ?_
     refine hcall 3 (some 59) 47 #[.pointer (some ⟨g, 0, none⟩), .int .i64 100] (octet_Reader_Int.calls k g xs ss pp 100 m_ y1 z1 e1 w _ HD.out.i HD.out.b B1.out) ?_
     rintro e V2 ⟨rfl, hi, hb, hk⟩
     replace HV := am (Kd.R_mono (Kd.R_keep (Kd.R_types HV.out HD.out.i.1 (by decide)) hk (fun _ h => h.2)) (fun _ _ => trivial)); replace HP := am (Kd.R_mono (Kd.R_keep (Kd.R_types HP.out HD.out.i.1 (by decide)) hk (fun _ h => h.2)) (fun _ _ => trivial))
     replace HD := am (HD.out.step hi hb hk)
     clear hi hb hk hHeld
     have hHeld := And.intro (show V2.cell? ⟨gc, 8, none⟩ = some (.slice B7 acc.length d7) from (blk_cell HD.out.c 8).trans rfl) (cz1 HD.out.r).1
     refine ⟨_, _, rfl, hHeld, by simp only [Act.put, List.setIfInBounds_toArray, List.set_cons_zero, List.set_cons_succ]; rfl, ?_⟩
     refine hcall 5 (some 61) 49 #[.pointer (some ⟨g, 0, none⟩), .int .i64 64] (octet_Reader_Text.calls k g y1 z1 e1 64 b y2 z2 e2 w _ HD.out.i HD.out.b B2.out) ?_
     rintro e V3 ⟨rfl, hi, hb, hk⟩
     replace HV := am (Kd.R_mono (Kd.R_keep (Kd.R_types HV.out HD.out.i.1 (by decide)) hk (fun _ h => h.2)) (fun _ _ => trivial)); replace HP := am (Kd.R_mono (Kd.R_keep (Kd.R_types HP.out HD.out.i.1 (by decide)) hk (fun _ h => h.2)) (fun _ _ => trivial))
     replace HD := am (HD.out.step hi hb hk)
     clear hi hb hk hHeld
     have hHeld := And.intro (show V3.cell? ⟨gc, 8, none⟩ = some (.slice B7 acc.length d7) from (blk_cell HD.out.c 8).trans rfl) (cz1 HD.out.r).1
     refine ⟨_, _, rfl, hHeld, by simp only [Act.put, List.setIfInBounds_toArray, List.set_cons_zero, List.set_cons_succ]; rfl, ?_⟩
     refine hp 6 (some 62) ?_
     have HD4 := am (HD.out.below (below_alloc (Below.refl _ _) (.cells #[.int .i64 m_, .string b] 62 (0, 0))))
     refine hval 7 (some 63) (.slice (some ⟨V3.heap.size, 0, none⟩) 1 1) (V3.alloc (.cells #[.int .i64 m_, .string b] 62 (0, 0))) ⟨(blk_cell HD4.out.c 8).trans rfl, (cz1 HD4.out.r).1⟩ ?_
     refine one_ (i := 8) (N := some 64) #[true, true, true, true, true, true, true, true, true, false, false] rfl rfl (by kernel_rfl) (by decide) (fun K hK => ?_)
     refine Kd.R_append_step k62 (w0 := w) w.heap.size (by rfl) (.tmp 57) (.tmp 63) 23 62 (.agg #[(.int .i64 0), (.string ⟨#[]⟩)]) 24 rfl Tryd.underlying23 (by kernel_rfl) rfl (by decide) (by omega) (.slice B7 acc.length d7) acc (⟨m_, b⟩ : S62) [.int .i64 m_, .string b] (fun _ => True) (fun _ => False) rfl rfl ?aP (fun _ hk => hk.elim) ?aF ?aO ?aB ?aS ?aL ?_
     (case aP => exact k62_mkM _ _ _ (⟨m_, b⟩ : S62))
     (case aB => exact HD.out.b)
     (case aF => exact (fun _ _ => trivial))
     (case aO => exact HV.out)
     (case aS => exact HD.out.b.size)
     (case aL => have := HE.out; omega)
     intro v2 V5 ho hb hg hat
     replace HD := am (HD.out.grown HV.out hg hb (by decide) (by decide) (by decide) (by decide))
     replace HP := am (cmd_Decode_two HP.out HV.out hg (by decide))
     replace HV := am ho
     clear ho hb hg hat HD4 hHeld
     obtain ⟨B8, d8, e8⟩ := Kd.R_slice HV.out
     rw [show (acc ++ [(⟨m_, b⟩ : S62)]).length = acc.length + 1 by simp] at e8
     subst e8
     refine hK.out _ _ ⟨(blk_cell HD.out.c 8).trans rfl, (cz1 HD.out.r).1⟩ (fun hHeld => ?_)
     clear hK K
     refine norm_ (a' := ?_) ?_ ?_
     rotate_left
     ·
      show Act.put _ (some 64) _ = _
      simp only [Act.put, List.setIfInBounds_toArray, List.set_cons_zero, List.set_cons_succ, i64_w, i32_w]
      rfl
     refine hp 9 (some 65) ?_
     have co : V5.cell? ⟨gc, 8, none⟩ = some (.slice B7 acc.length d7) := (blk_cell HD.out.c 8).trans rfl
     have fo := blk_frozen HD.out.c 8
     refine hstore 10 ?_
     refine done_ (by kernel_rfl) ?_
     clear co fo hHeld
     go_wp2
     go_roundg m
     case measure => omega
     case rel => exact ⟨_, _, _, _, _, _, rfl, am (by rw [HX.out]; have := HN.out; omega), HL, am (HD.out.put (CS' := #[.int .i64 n1, .string t2, .string t3, .string t4, .int .i64 n5, .int .i64 n6, .string t7, .slice B9 l9.length d9, .slice B8 (acc.length + 1) d8]) 8 _ rfl), am (Kd.R_mono (Kd.R_far (p := ⟨gc, 8, none⟩) (Kd.R_types HV.out HD.out.c (by decide)) (fun _ hk => hk.2) _) (fun _ _ => trivial)), am (Kd.R_mono (Kd.R_far (p := ⟨gc, 8, none⟩) (Kd.R_types HP.out HD.out.c (by decide)) (fun _ hk => hk.2) _) (fun _ _ => trivial))⟩
  | succ m =>
   have q1 : decide (x < n8) = true := decide_eq_true (by have := HN.out; omega)
   have HX : Aside0 (wrap64 (x + 1) = x + 1) := am (IntWalk.wrap64_in _ (by have := HN.out; omega))
   have hl := HL.out
   rw [cmd_Decode_l0] at hl
   clear HL
   replace hl := obE hl
   obtain ⟨⟨b, y1, z1, e1⟩, B1, hl⟩ := hl
   try dsimp only at hl
   replace hl := obE hl
   obtain ⟨⟨m_, y2, z2, e2⟩, B2, hl⟩ := hl
   try dsimp only at hl
   try dsimp only at B2
   by_cases hlen : acc.length < 5864062014805
   rotate_left
   ·
    rw [if_neg hlen] at hl
    cases hl
   rw [if_pos hlen] at hl
   have HL := am hl
   have HE := am hlen
   clear hl hlen hn
   go_wp2
   have cc := (blk_cell HD.out.c 7).trans rfl
   have cr := (cz1 HD.out.r).1
   refine start_ (n := 11) (S := fun w' => w'.cell? ⟨gc, 7, none⟩ = some (.slice B7 acc.length d7) ∧ w'.cell? ⟨gr, 0, none⟩ = some (.pointer (some ⟨g, 0, none⟩))) (ds := [10]) #[false, false, false, false, false, false, false, false, false, false, false] (by kernel_rfl) rfl rfl ⟨cc, cr⟩ (fun hHeld => ?_)
   replace HD := am HD.out.drew
   replace HV := am (Kd.R_drew HV.out)
   clear cc cr
   generalize wr.drew = V1 at HD HV hHeld ⊢
   refine hp 0 (some 41) ?_
   refine ht 1 (some 42) hHeld ?_
   refine ht 2 (some 43) hHeld ?_
   refine ht 4 (some 45) hHeld ?_
   refine hcall 3 (some 44) 49 #[.pointer (some ⟨g, 0, none⟩), .int .i64 64] (octet_Reader_Text.calls k g xs ss pp 64 b y1 z1 e1 w _ HD.out.i HD.out.b B1.out) ?_
   rintro e V2 ⟨rfl, hi, hb, hk⟩
   replace HV := am (Kd.R_mono (Kd.R_keep (Kd.R_types HV.out HD.out.i.1 (by decide)) hk (fun _ h => h.2)) (fun _ _ => trivial))
   replace HD := am (HD.out.step hi hb hk)
   clear hi hb hk hHeld
   have hHeld := And.intro (show V2.cell? ⟨gc, 7, none⟩ = some (.slice B7 acc.length d7) from (blk_cell HD.out.c 7).trans rfl) (cz1 HD.out.r).1
   refine ⟨_, _, rfl, hHeld, by simp only [Act.put, List.setIfInBounds_toArray, List.set_cons_zero, List.set_cons_succ]; rfl, ?_⟩
   refine hcall 5 (some 46) 47 #[.pointer (some ⟨g, 0, none⟩), .int .i64 4096] (octet_Reader_Int.calls k g y1 z1 e1 4096 m_ y2 z2 e2 w _ HD.out.i HD.out.b B2.out) ?_
   rintro e V3 ⟨rfl, hi, hb, hk⟩
   replace HV := am (Kd.R_mono (Kd.R_keep (Kd.R_types HV.out HD.out.i.1 (by decide)) hk (fun _ h => h.2)) (fun _ _ => trivial))
   replace HD := am (HD.out.step hi hb hk)
   clear hi hb hk hHeld
   have hHeld := And.intro (show V3.cell? ⟨gc, 7, none⟩ = some (.slice B7 acc.length d7) from (blk_cell HD.out.c 7).trans rfl) (cz1 HD.out.r).1
   refine ⟨_, _, rfl, hHeld, by simp only [Act.put, List.setIfInBounds_toArray, List.set_cons_zero, List.set_cons_succ]; rfl, ?_⟩
   refine hp 6 (some 47) ?_
   have HD4 := am (HD.out.below (below_alloc (Below.refl _ _) (.cells #[.string b, .int .i64 m_] 82 (0, 0))))
   refine hval 7 (some 48) (.slice (some ⟨V3.heap.size, 0, none⟩) 1 1) (V3.alloc (.cells #[.string b, .int .i64 m_] 82 (0, 0))) ⟨(blk_cell HD4.out.c 7).trans rfl, (cz1 HD4.out.r).1⟩ ?_
   refine one_ (i := 8) (N := some 49) #[true, true, true, true, true, true, true, true, true, false, false] rfl rfl (by kernel_rfl) (by decide) (fun K hK => ?_)
   refine Kd.R_append_step k82 (w0 := w) w.heap.size (by rfl) (.tmp 42) (.tmp 48) 22 82 (.agg #[(.string ⟨#[]⟩), (.int .i64 0)]) 24 rfl Tryd.underlying22 (by kernel_rfl) rfl (by decide) (by omega) (.slice B7 acc.length d7) acc (⟨b, m_⟩ : S82) [.string b, .int .i64 m_] (fun _ => True) (fun _ => False) rfl rfl ?aP (fun _ hk => hk.elim) ?aF ?aO ?aB ?aS ?aL ?_
   (case aP => exact k82_mkM _ _ _ (⟨b, m_⟩ : S82))
   (case aB => exact HD.out.b)
   (case aF => exact (fun _ _ => trivial))
   (case aO => exact HV.out)
   (case aS => exact HD.out.b.size)
   (case aL => have := HE.out; omega)
   intro v2 V5 ho hb hg hat
   replace HD := am (HD.out.grown HV.out hg hb (by decide) (by decide) (by decide) (by decide))
   replace HV := am ho
   clear ho hb hg hat HD4 hHeld
   obtain ⟨B8, d8, e8⟩ := Kd.R_slice HV.out
   rw [show (acc ++ [(⟨b, m_⟩ : S82)]).length = acc.length + 1 by simp] at e8
   subst e8
   refine hK.out _ _ ⟨(blk_cell HD.out.c 7).trans rfl, (cz1 HD.out.r).1⟩ (fun hHeld => ?_)
   clear hK K
   refine norm_ (a' := ?_) ?_ ?_
   rotate_left
   ·
    show Act.put _ (some 49) _ = _
    simp only [Act.put, List.setIfInBounds_toArray, List.set_cons_zero, List.set_cons_succ, i64_w, i32_w]
    rfl
   refine hp 9 (some 50) ?_
   have co : V5.cell? ⟨gc, 7, none⟩ = some (.slice B7 acc.length d7) := (blk_cell HD.out.c 7).trans rfl
   have fo := blk_frozen HD.out.c 7
   refine hstore 10 ?_
   refine done_ (by kernel_rfl) ?_
   clear co fo hHeld
   go_wp2
   go_roundg m
   case measure => omega
   case rel => exact ⟨_, _, _, _, _, _, rfl, am (by rw [HX.out]; have := HN.out; omega), HL, am (HD.out.put (CS' := #[.int .i64 n1, .string t2, .string t3, .string t4, .int .i64 n5, .int .i64 n6, .string t7, .slice B8 (acc.length + 1) d8, .slice none 0 0]) 7 _ rfl), am (Kd.R_mono (Kd.R_far (p := ⟨gc, 7, none⟩) (Kd.R_types HV.out HD.out.c (by decide)) (fun _ hk => hk.2) _) (fun _ _ => trivial))⟩
def stowagelaw16_awake.f (k : Nat)  : Option (Bool) := (cmd_Encode.f k 1 (⟨#[]⟩ : ByteArray) (⟨#[111, 110, 101]⟩ : ByteArray) (⟨#[]⟩ : ByteArray) 0 0 (⟨#[]⟩ : ByteArray) ([] : List (S82)) ([] : List (S62))).bind fun bt292 => ((cmd_Decode.f k bt292.1).bind fun bt294 => ((cmd_Digest.f k 1 (⟨#[]⟩ : ByteArray) (⟨#[111, 110, 101]⟩ : ByteArray) (⟨#[]⟩ : ByteArray) 0 0 (⟨#[]⟩ : ByteArray) ([] : List (S82)) ([] : List (S62))).bind fun bt309 => ((cmd_Digest.f k 1 (⟨#[116]⟩ : ByteArray) (⟨#[111, 110, 101]⟩ : ByteArray) (⟨#[]⟩ : ByteArray) 0 0 (⟨#[]⟩ : ByteArray) ([] : List (S82)) ([] : List (S62))).bind fun bt311 => (if bt292.2 = 0 then (if bt294.2.2.2.2.2.2.2.2.2 = 0 then (if bt292.1.toList = ([1, 0, 3, 111, 110, 101] : List UInt8) then (if bt294.2.2.1.toList = ([111, 110, 101] : List UInt8) then (if bt309.2 = 0 then (if bt311.2 = 0 then (if bt309.1.toList = bt311.1.toList then (some ((bt309.1.size : Int) == 64)) else (some false)) else (some false)) else (some false)) else (some false)) else (some false)) else (some false)) else (some false)))))
theorem stowagelaw16_awake.mono : ∀ k, LeO (stowagelaw16_awake.f k ) (stowagelaw16_awake.f (k + 1) ) := by
 intro  k
 unfold stowagelaw16_awake.f
 repeat' (with_reducible first | exact cmd_Decode.mono _ _ | exact cmd_Digest.mono _ _ _ _ _ _ _ _ _ _ | exact cmd_Encode.mono _ _ _ _ _ _ _ _ _ _ | exact LeO.refl _ | exact LeO.none _ | refine LeO.ite ?_ ?_ | refine LeO.bind ?_ (fun _ => ?_))
theorem st9_ {W : World} {g : Nat} {t : TypeId} {a0 a1 a2 a3 a4 a5 a6 a7 a8 : Value} (hr : W.heap[g]? = some (.cells #[a0, a1, a2, a3, a4, a5, a6, a7, a8] t (0, 0))) (u0 u1 u2 u3 u4 u5 u6 u7 u8 : Value) {W' : World}
    (e : (((((((((W.setCell ⟨g, 0, none⟩ u0).setCell ⟨g, 1, none⟩ u1).setCell ⟨g, 2, none⟩ u2).setCell ⟨g, 3, none⟩ u3).setCell ⟨g, 4, none⟩ u4).setCell ⟨g, 5, none⟩ u5).setCell ⟨g, 6, none⟩ u6).setCell ⟨g, 7, none⟩ u7).setCell ⟨g, 8, none⟩ u8) = W') :
    W'.heap[g]? = some (.cells #[u0, u1, u2, u3, u4, u5, u6, u7, u8] t (0, 0)) ∧ (∀ w : World, Below w.heap.size w W → w.heap.size ≤ g → Below w.heap.size w W') ∧ (∀ h cs t1, h ≠ g → W.heap[h]? = some (.cells cs t1 (0, 0)) → W'.heap[h]? = some (.cells cs t1 (0, 0))) := by
  subst e
  have b0 := blk_put (cs' := #[u0, a1, a2, a3, a4, a5, a6, a7, a8]) hr 0 u0 rfl
  have b1 := blk_put (cs' := #[u0, u1, a2, a3, a4, a5, a6, a7, a8]) b0 1 u1 rfl
  have b2 := blk_put (cs' := #[u0, u1, u2, a3, a4, a5, a6, a7, a8]) b1 2 u2 rfl
  have b3 := blk_put (cs' := #[u0, u1, u2, u3, a4, a5, a6, a7, a8]) b2 3 u3 rfl
  have b4 := blk_put (cs' := #[u0, u1, u2, u3, u4, a5, a6, a7, a8]) b3 4 u4 rfl
  have b5 := blk_put (cs' := #[u0, u1, u2, u3, u4, u5, a6, a7, a8]) b4 5 u5 rfl
  have b6 := blk_put (cs' := #[u0, u1, u2, u3, u4, u5, u6, a7, a8]) b5 6 u6 rfl
  have b7 := blk_put (cs' := #[u0, u1, u2, u3, u4, u5, u6, u7, a8]) b6 7 u7 rfl
  have b8 := blk_put (cs' := #[u0, u1, u2, u3, u4, u5, u6, u7, u8]) b7 8 u8 rfl
  refine ⟨b8, ?_, ?_⟩
  · exact fun w hb hl => below_set (below_set (below_set (below_set (below_set (below_set (below_set (below_set (below_set hb hl) hl) hl) hl) hl) hl) hl) hl) hl
  · exact fun h cs t1 hn ho => blk_far (blk_far (blk_far (blk_far (blk_far (blk_far (blk_far (blk_far (blk_far ho hn _) hn _) hn _) hn _) hn _) hn _) hn _) hn _) hn _
theorem c9_ {W : World} {g : Nat} {t : TypeId} {a0 a1 a2 a3 a4 a5 a6 a7 a8 : Value} (h : W.heap[g]? = some (.cells #[a0, a1, a2, a3, a4, a5, a6, a7, a8] t (0, 0))) : W.cell? ⟨g, 0, none⟩ = some a0 ∧ W.cell? ⟨g, 1, none⟩ = some a1 ∧ W.cell? ⟨g, 2, none⟩ = some a2 ∧ W.cell? ⟨g, 3, none⟩ = some a3 ∧ W.cell? ⟨g, 4, none⟩ = some a4 ∧ W.cell? ⟨g, 5, none⟩ = some a5 ∧ W.cell? ⟨g, 6, none⟩ = some a6 ∧ W.cell? ⟨g, 7, none⟩ = some a7 ∧ W.cell? ⟨g, 8, none⟩ = some a8 := by
  exact ⟨(blk_cell h 0).trans rfl, (blk_cell h 1).trans rfl, (blk_cell h 2).trans rfl, (blk_cell h 3).trans rfl, (blk_cell h 4).trans rfl, (blk_cell h 5).trans rfl, (blk_cell h 6).trans rfl, (blk_cell h 7).trans rfl, (blk_cell h 8).trans rfl⟩
theorem f9_ {W : World} {g : Nat} {t : TypeId} {CS : Array Value} (h : W.heap[g]? = some (.cells CS t (0, 0))) : W.frozen? ⟨g, 0, none⟩ = false ∧ W.frozen? ⟨g, 1, none⟩ = false ∧ W.frozen? ⟨g, 2, none⟩ = false ∧ W.frozen? ⟨g, 3, none⟩ = false ∧ W.frozen? ⟨g, 4, none⟩ = false ∧ W.frozen? ⟨g, 5, none⟩ = false ∧ W.frozen? ⟨g, 6, none⟩ = false ∧ W.frozen? ⟨g, 7, none⟩ = false ∧ W.frozen? ⟨g, 8, none⟩ = false :=
  ⟨blk_frozen h 0, blk_frozen h 1, blk_frozen h 2, blk_frozen h 3, blk_frozen h 4, blk_frozen h 5, blk_frozen h 6, blk_frozen h 7, blk_frozen h 8⟩
set_option maxHeartbeats 8000000 in
set_option maxRecDepth 100000 in
theorem stowagelaw16_awake.calls (k : Nat)  (r : Bool) (w : World) (h : stowagelaw16_awake.f k  = some r) (hG : GG w) :
    Calls Tryd.prog 13 #[] w fun e w' => e = .returned (.bool r) ∧ Below w.heap.size w w' := by
 have HG := am hG
 clear hG
 have hu25 := Tryd.underlying25
 have HB := am (Below.refl w.heap.size w)
 have H := h
 clear h
 unfold stowagelaw16_awake.f at H
 replace H := obE H
 obtain ⟨⟨t196, t197⟩, A1, H⟩ := H
 try dsimp only at H
 replace H := obE H
 obtain ⟨⟨t198, t199, t200, t201, t202, t203, t204, t205, t208, t211⟩, A2, H⟩ := H
 try dsimp only at H
 replace H := obE H
 obtain ⟨⟨t213, t214⟩, A3, H⟩ := H
 try dsimp only at H
 replace H := obE H
 obtain ⟨⟨t215, t216⟩, A4, H⟩ := H
 try dsimp only at H
 replace H := am H
 go_enter Tryd.func13, Tryd.ntmps13
 go_upto_region 2 with (first | ((with_reducible refine gate_dst (N := 1) rfl ?_); (try (refine gate_guard (by rfl) ?_; dsimp only)); refine bx 1 #[.int .i64 0, .string (⟨#[]⟩ : ByteArray), .string (⟨#[]⟩ : ByteArray), .string (⟨#[]⟩ : ByteArray), .int .i64 0, .int .i64 0, .string (⟨#[]⟩ : ByteArray), .slice none 0 0, .slice none 0 0] 25 ?_; intro gc hg w1 hbox hb; have BKgc := am (hbox); have GEgc := am ((by rw [hg]; exact HB.out.size : w.heap.size ≤ gc)); replace HB := am (below_step HB.out hb); clear hb hbox hg; obtain ⟨z0, z1, z2, z3, z4, z5, z6, z7, z8⟩ := c9_ BKgc.out; obtain ⟨y0, y1, y2, y3, y4, y5, y6, y7, y8⟩ := f9_ BKgc.out))
 generalize hW : ((((((((w1.setCell ⟨gc, 0, none⟩ (.int .i64 1)).setCell ⟨gc, 1, none⟩ (.string (⟨#[]⟩ : ByteArray))).setCell ⟨gc, 2, none⟩ (.string (⟨#[111, 110, 101]⟩ : ByteArray))).setCell ⟨gc, 3, none⟩ (.string (⟨#[]⟩ : ByteArray))).setCell ⟨gc, 4, none⟩ (.int .i64 0)).setCell ⟨gc, 5, none⟩ (.int .i64 0)).setCell ⟨gc, 6, none⟩ (.string (⟨#[]⟩ : ByteArray))).setCell ⟨gc, 7, none⟩ (.slice none 0 0)).setCell ⟨gc, 8, none⟩ (.slice none 0 0) = W
 obtain ⟨q1, q2, -⟩ := st9_ BKgc.out _ _ _ _ _ _ _ _ _ hW
 replace BKgc := am q1
 replace HB := am (q2 _ HB.out GEgc.out)
 clear hW q1 q2 z0 z1 z2 z3 z4 z5 z6 z7 z8 y0 y1 y2 y3 y4 y5 y6 y7 y8 w1
 obtain ⟨z0, z1, z2, z3, z4, z5, z6, z7, z8⟩ := c9_ BKgc.out
 obtain ⟨y0, y1, y2, y3, y4, y5, y6, y7, y8⟩ := f9_ BKgc.out
 go_upto_region 4 with (first | (go_at_call 8; (refine (cmd_Encode.calls k 1 (⟨#[]⟩ : ByteArray) (⟨#[111, 110, 101]⟩ : ByteArray) (⟨#[]⟩ : ByteArray) 0 0 (⟨#[]⟩ : ByteArray) _ _ ([] : List (S82)) _ _ ([] : List (S62)) t196 t197 _ ?side1 ?side2 ?side3 ?side4 A1.out ?sideG).mono ?_); (case sideG => exact gg_below HG.out HB.out); (case side1 => exact Kd.C_nil _ _); (case side2 => exact Nat.le_refl _); (case side3 => exact Kd.C_nil _ _); (case side4 => exact Nat.le_refl _); rintro e w2 ⟨rfl, hb⟩; (try dsimp only); replace BKgc := am (blk_below BKgc.out hb); replace HB := am (below_step HB.out hb); clear hb z0 z1 z2 z3 z4 z5 z6 z7 z8 y0 y1 y2 y3 y4 y5 y6 y7 y8) | (go_at_call 16; (with_reducible refine (cmd_Decode.calls k t196 t198 t199 t200 t201 t202 t203 t204 t205 t208 t211 _ A2.out ?sideG).mono ?_); (case sideG => exact gg_below HG.out HB.out); rintro e w3 ⟨v206, v209, rfl, ho0, ho1, hb⟩; (try dsimp only); obtain ⟨Ao19, co19, rfl⟩ := Kd.R_slice ho0; obtain ⟨Ao20, co20, rfl⟩ := Kd.R_slice ho1; replace BKgc := am (blk_below BKgc.out hb); replace HB := am (below_step HB.out hb); clear hb ho0 ho1) | ((with_reducible refine gate_dst (N := 4) rfl ?_); (try (refine gate_guard (by rfl) ?_; dsimp only)); refine bx 4 #[.int .i64 0, .string (⟨#[]⟩ : ByteArray), .string (⟨#[]⟩ : ByteArray), .string (⟨#[]⟩ : ByteArray), .int .i64 0, .int .i64 0, .string (⟨#[]⟩ : ByteArray), .slice none 0 0, .slice none 0 0] 25 ?_; intro gd hg w4 hbox hb; have BKgd := am (hbox); have GEgd := am ((by rw [hg]; exact HB.out.size : w.heap.size ≤ gd)); have NE := am ((by rw [hg]; exact Nat.ne_of_lt (blk_lt BKgc.out) : gc ≠ gd)); replace BKgc := am (blk_below BKgc.out hb); replace HB := am (below_step HB.out hb); clear hb hbox hg; obtain ⟨z0, z1, z2, z3, z4, z5, z6, z7, z8⟩ := c9_ BKgd.out; obtain ⟨y0, y1, y2, y3, y4, y5, y6, y7, y8⟩ := f9_ BKgd.out))
 generalize hW : ((((((((w4.setCell ⟨gd, 0, none⟩ (.int .i64 t198)).setCell ⟨gd, 1, none⟩ (.string t199)).setCell ⟨gd, 2, none⟩ (.string t200)).setCell ⟨gd, 3, none⟩ (.string t201)).setCell ⟨gd, 4, none⟩ (.int .i64 t202)).setCell ⟨gd, 5, none⟩ (.int .i64 t203)).setCell ⟨gd, 6, none⟩ (.string t204)).setCell ⟨gd, 7, none⟩ (.slice Ao19 t205.length co19)).setCell ⟨gd, 8, none⟩ (.slice Ao20 t208.length co20) = V
 obtain ⟨q1, q2, q3⟩ := st9_ BKgd.out _ _ _ _ _ _ _ _ _ hW
 replace BKgd := am q1
 replace HB := am (q2 _ HB.out GEgd.out)
 replace BKgc := am (q3 _ _ _ NE.out BKgc.out)
 clear hW q1 q2 q3 z0 z1 z2 z3 z4 z5 z6 z7 z8 y0 y1 y2 y3 y4 y5 y6 y7 y8 w4
 obtain ⟨z0, z1, z2, z3, z4, z5, z6, z7, z8⟩ := c9_ BKgc.out
 obtain ⟨y0, y1, y2, y3, y4, y5, y6, y7, y8⟩ := f9_ BKgc.out
 go_upto_region 5 with (first | (go_at_call 11; (refine (cmd_Digest.calls k 1 (⟨#[]⟩ : ByteArray) (⟨#[111, 110, 101]⟩ : ByteArray) (⟨#[]⟩ : ByteArray) 0 0 (⟨#[]⟩ : ByteArray) _ _ ([] : List (S82)) _ _ ([] : List (S62)) t213 t214 _ ?side1 ?side2 ?side3 ?side4 A3.out ?sideG).mono ?_); (case sideG => exact gg_below HG.out (by first | exact HB.out | exact below_set HB.out GEgc.out)); (case side1 => exact Kd.C_nil _ _); (case side2 => exact Nat.le_refl _); (case side3 => exact Kd.C_nil _ _); (case side4 => exact Nat.le_refl _); rintro e w5 ⟨rfl, hb⟩; (try dsimp only); replace BKgc := am (blk_below BKgc.out hb); replace BKgd := am (blk_below BKgd.out hb); replace HB := am (below_step HB.out hb); clear hb A3 z0 z1 z2 z3 z4 z5 z6 z7 z8 y0 y1 y2 y3 y4 y5 y6 y7 y8; obtain ⟨z0, z1, z2, z3, z4, z5, z6, z7, z8⟩ := c9_ BKgc.out; obtain ⟨y0, y1, y2, y3, y4, y5, y6, y7, y8⟩ := f9_ BKgc.out))
 go_upto_region 6 with (fail)
 generalize hW : w5.setCell ⟨gc, 1, none⟩ (.string (⟨#[116]⟩ : ByteArray)) = V2
 replace HB := am (hW ▸ below_set HB.out GEgc.out)
 replace BKgd := am (hW ▸ blk_far BKgd.out (Ne.symm NE.out) _)
 replace BKgc := am (hW ▸ blk_put (cs' := #[.int .i64 1, .string (⟨#[116]⟩ : ByteArray), .string (⟨#[111, 110, 101]⟩ : ByteArray), .string (⟨#[]⟩ : ByteArray), .int .i64 0, .int .i64 0, .string (⟨#[]⟩ : ByteArray), .slice none 0 0, .slice none 0 0]) BKgc.out 1 _ rfl)
 clear hW z0 z1 z2 z3 z4 z5 z6 z7 z8 y0 y1 y2 y3 y4 y5 y6 y7 y8 w5
 obtain ⟨z0, z1, z2, z3, z4, z5, z6, z7, z8⟩ := c9_ BKgc.out
 obtain ⟨y0, y1, y2, y3, y4, y5, y6, y7, y8⟩ := f9_ BKgc.out
 go_upto_region 7 with (first | (go_at_call 11; (refine (cmd_Digest.calls k 1 (⟨#[116]⟩ : ByteArray) (⟨#[111, 110, 101]⟩ : ByteArray) (⟨#[]⟩ : ByteArray) 0 0 (⟨#[]⟩ : ByteArray) _ _ ([] : List (S82)) _ _ ([] : List (S62)) t215 t216 _ ?side1 ?side2 ?side3 ?side4 A4.out ?sideG).mono ?_); (case sideG => exact gg_below HG.out (by first | exact HB.out | exact below_set HB.out GEgc.out)); (case side1 => exact Kd.C_nil _ _); (case side2 => exact Nat.le_refl _); (case side3 => exact Kd.C_nil _ _); (case side4 => exact Nat.le_refl _); rintro e w6 ⟨rfl, hb⟩; (try dsimp only); replace BKgd := am (blk_below BKgd.out hb); replace HB := am (below_step HB.out hb); clear hb A4 BKgc z0 z1 z2 z3 z4 z5 z6 z7 z8 y0 y1 y2 y3 y4 y5 y6 y7 y8; obtain ⟨z0, z1, z2, z3, z4, z5, z6, z7, z8⟩ := c9_ BKgd.out))
 replace H := H.out
 by_cases c5 : t197 = 0
 ·
  rw [if_pos c5] at H
  have c5b0 := beq_iff_eq.mpr c5
  have c5b1 := bne_eq_false_iff_eq.mpr c5
  clear c5
  by_cases c6 : t211 = 0
  ·
   rw [if_pos c6] at H
   have c6b0 := beq_iff_eq.mpr c6
   have c6b1 := bne_eq_false_iff_eq.mpr c6
   clear c6
   by_cases c7 : t196.toList = ([1, 0, 3, 111, 110, 101] : List UInt8)
   ·
    rw [if_pos c7] at H
    have c7b0 := beq_iff_eq.mpr c7
    have c7b1 := bne_eq_false_iff_eq.mpr c7
    clear c7
    by_cases c8 : t200.toList = ([111, 110, 101] : List UInt8)
    ·
     rw [if_pos c8] at H
     have c8b0 := beq_iff_eq.mpr c8
     have c8b1 := bne_eq_false_iff_eq.mpr c8
     clear c8
     by_cases c9 : t214 = 0
     ·
      rw [if_pos c9] at H
      have c9b0 := beq_iff_eq.mpr c9
      have c9b1 := bne_eq_false_iff_eq.mpr c9
      clear c9
      by_cases c10 : t216 = 0
      ·
       rw [if_pos c10] at H
       have c10b0 := beq_iff_eq.mpr c10
       have c10b1 := bne_eq_false_iff_eq.mpr c10
       clear c10
       by_cases c11 : t213.toList = t215.toList
       ·
        rw [if_pos c11] at H
        have c11b0 := beq_iff_eq.mpr c11
        have c11b1 := bne_eq_false_iff_eq.mpr c11
        clear c11
        obtain rfl := Option.some.inj H
        go_wp2
        go_ret
        exact ⟨rf, HB.out⟩
       ·
        rw [if_neg c11] at H
        have c11b0 := beq_eq_false_iff_ne.mpr c11
        have c11b1 := bne_iff_ne.mpr c11
        clear c11
        obtain rfl := Option.some.inj H
        go_wp2
        go_ret
        exact ⟨rf, HB.out⟩
      ·
       rw [if_neg c10] at H
       have c10b0 := beq_eq_false_iff_ne.mpr c10
       have c10b1 := bne_iff_ne.mpr c10
       clear c10
       obtain rfl := Option.some.inj H
       go_wp2
       go_ret
       exact ⟨rf, HB.out⟩
     ·
      rw [if_neg c9] at H
      have c9b0 := beq_eq_false_iff_ne.mpr c9
      have c9b1 := bne_iff_ne.mpr c9
      clear c9
      obtain rfl := Option.some.inj H
      go_wp2
      go_ret
      exact ⟨rf, HB.out⟩
    ·
     rw [if_neg c8] at H
     have c8b0 := beq_eq_false_iff_ne.mpr c8
     have c8b1 := bne_iff_ne.mpr c8
     clear c8
     obtain rfl := Option.some.inj H
     go_wp2
     go_ret
     exact ⟨rf, HB.out⟩
   ·
    rw [if_neg c7] at H
    have c7b0 := beq_eq_false_iff_ne.mpr c7
    have c7b1 := bne_iff_ne.mpr c7
    clear c7
    obtain rfl := Option.some.inj H
    go_wp2
    go_ret
    exact ⟨rf, HB.out⟩
  ·
   rw [if_neg c6] at H
   have c6b0 := beq_eq_false_iff_ne.mpr c6
   have c6b1 := bne_iff_ne.mpr c6
   clear c6
   obtain rfl := Option.some.inj H
   go_wp2
   go_ret
   exact ⟨rf, HB.out⟩
 ·
  rw [if_neg c5] at H
  have c5b0 := beq_eq_false_iff_ne.mpr c5
  have c5b1 := bne_iff_ne.mpr c5
  clear c5
  obtain rfl := Option.some.inj H
  go_wp2
  go_ret
  exact ⟨rf, HB.out⟩
end Go.Proofs.YtdidopoalmkhlaaDoor.Ot
end
section
namespace Go.Proofs.YtdidopoalmkhlaaDoor.Ot
open Go.RowKit Go.Proofs.YtdidopoalmkhlaaDoorW.PrintWords Go.Proofs.YtdidopoalmkhlaaDoorW.PrintLast Go.Proofs.YtdidopoalmkhlaaDoorW.PrintMore
set_option linter.unusedVariables false
set_option linter.unusedSimpArgs false
def stowagelaw16_CmdTexts.F (k : Nat) (c0 : Int) (c1 c2 c3 : ByteArray) (c4 c5 : Int) (c6 : ByteArray) (c7 : List (S82)) (c8 : List (S62)) : Prop :=
 ∃ a e q0 q1 q2 q3 q4 q5 q6 q7 q8 x z, cmd_Encode.f k c0 c1 c2 c3 c4 c5 c6 c7 c8 = some (a, e) ∧ stowagelaw16_Ref.f k c0 c1 c2 c3 c4 c5 c6 c7 c8 = some (q0, q1, q2, q3, q4, q5, q6, q7, q8) ∧ stowageref16_Encode.f k q0 q1 q2 q3 q4 q5 q6 q7 q8 = some (a, e) ∧
  cmd_Digest.f k c0 c1 c2 c3 c4 c5 c6 c7 c8 = some (x, e) ∧ stowageref16_Digest.f k q0 q1 q2 q3 q4 q5 q6 q7 q8 = some (x, e) ∧ stowagelaw16_awake.f k = some true ∧ cmd_Check.f k c0 c1 c2 c3 c4 c5 c6 c7 c8 = some z ∧ stowageref16_Check.f k q0 q1 q2 q3 q4 q5 q6 q7 q8 = some z
open Classical in
noncomputable def stowagelaw16_CmdTexts.f (k : Nat) (c0 : Int) (c1 c2 c3 : ByteArray) (c4 c5 : Int) (c6 : ByteArray) (c7 : List (S82)) (c8 : List (S62)) : Option Bool :=
 if stowagelaw16_CmdTexts.F k c0 c1 c2 c3 c4 c5 c6 c7 c8 then some true else none
set_option maxHeartbeats 8000000 in
set_option maxRecDepth 100000 in
theorem stowagelaw16_CmdTexts_go (k : Nat) (c0 : Int) (c1 : ByteArray) (c2 : ByteArray) (c3 : ByteArray) (c4 : Int) (c5 : Int) (c6 : ByteArray) (A7 : Option Addr) (n7 : Nat) (c7 : List (S82)) (A8 : Option Addr) (n8 : Nat) (c8 : List (S62)) (w : World) (hr7 : Kd.C k82 w A7 c7.length c7) (hc7 : c7.length ≤ n7) (hr8 : Kd.C k62 w A8 c8.length c8) (hc8 : c8.length ≤ n8) (h : stowagelaw16_CmdTexts.F k c0 c1 c2 c3 c4 c5 c6 c7 c8) (hG : GG w) :
  Calls Tryd.prog 3 #[.agg #[.int .i64 c0, .string c1, .string c2, .string c3, .int .i64 c4, .int .i64 c5, .string c6, .slice A7 c7.length n7, .slice A8 c8.length n8]] w fun e w' => e = .returned (.bool true) ∧ Below w.heap.size w w' := by
 have HG := am hG
 have HR7 := am hr7
 have HR8 := am hr8
 have HC7 := am hc7
 have HC8 := am hc8
 clear hG hr7 hr8 hc7 hc8
 have HB := am (Below.refl w.heap.size w)
 obtain ⟨a, e, q0, q1, q2, q3, q4, q5, q6, q7, q8, x, z, A1, A2, A3, A4, A5, AW, A6, A7_⟩ := h
 replace A1 := am A1
 replace A2 := am A2
 replace A3 := am A3
 replace A4 := am A4
 replace A5 := am A5
 replace AW := am AW
 replace A6 := am A6
 replace A7_ := am A7_
 go_enter Tryd.func3, Tryd.ntmps3
 go_upto_region 5 with (first
  | ((with_reducible refine gate_dst (N := 1) rfl ?_); (try (refine gate_guard (by rfl) ?_; dsimp only)); refine bx 1 #[.int .i64 c0, .string c1, .string c2, .string c3, .int .i64 c4, .int .i64 c5, .string c6, .slice A7 c7.length n7, .slice A8 c8.length n8] 25 ?_; intro gc hg w0 hbox hb; have BKgc := am (hbox); have GEgc := am ((by rw [hg]; exact HB.out.size : w.heap.size ≤ gc)); replace HB := am (below_step HB.out hb); clear hb hbox hg; obtain ⟨zc0, zc1, zc2, zc3, zc4, zc5, zc6, zc7, zc8⟩ := c9_ BKgc.out; obtain ⟨yc0, yc1, yc2, yc3, yc4, yc5, yc6, yc7, yc8⟩ := f9_ BKgc.out)
  | (go_at_call 8; (refine (cmd_Encode.calls k c0 c1 c2 c3 c4 c5 c6 A7 n7 c7 A8 n8 c8 a e _ ?s1 HC7.out ?s2 HC8.out A1.out ?sG).mono ?_); (case s1 => exact Kd.C_below HR7.out HB.out); (case s2 => exact Kd.C_below HR8.out HB.out); (case sG => exact gg_below HG.out HB.out); rintro q w1 ⟨rfl, hb⟩; (try dsimp only); replace BKgc := am (blk_below BKgc.out hb); replace HB := am (below_step HB.out hb); clear hb zc0 zc1 zc2 zc3 zc4 zc5 zc6 zc7 zc8 yc0 yc1 yc2 yc3 yc4 yc5 yc6 yc7 yc8; obtain ⟨zc0, zc1, zc2, zc3, zc4, zc5, zc6, zc7, zc8⟩ := c9_ BKgc.out; obtain ⟨yc0, yc1, yc2, yc3, yc4, yc5, yc6, yc7, yc8⟩ := f9_ BKgc.out)
  | (go_at_call 10; (refine (stowagelaw16_Ref.calls k c0 c1 c2 c3 c4 c5 c6 A7 n7 c7 A8 n8 c8 q0 q1 q2 q3 q4 q5 q6 q7 q8 _ ?s1 HC7.out ?s2 HC8.out A2.out).mono ?_); (case s1 => exact Kd.C_below HR7.out HB.out); (case s2 => exact Kd.C_below HR8.out HB.out); rintro q w2 ⟨v7, v8, rfl, ho7, ho8, hb⟩; (try dsimp only); obtain ⟨qA, qa, rfl⟩ := Kd.R_slice ho7; obtain ⟨qB, qb, rfl⟩ := Kd.R_slice ho8; have HQ7 := am (Kd.R_V (base' := 0) ho7); have HQ8 := am (Kd.R_V (base' := 0) ho8); replace BKgc := am (blk_below BKgc.out hb); replace HB := am (below_step HB.out hb); clear hb ho7 ho8 zc0 zc1 zc2 zc3 zc4 zc5 zc6 zc7 zc8 yc0 yc1 yc2 yc3 yc4 yc5 yc6 yc7 yc8; obtain ⟨zc0, zc1, zc2, zc3, zc4, zc5, zc6, zc7, zc8⟩ := c9_ BKgc.out; obtain ⟨yc0, yc1, yc2, yc3, yc4, yc5, yc6, yc7, yc8⟩ := f9_ BKgc.out)
  | (go_at_call 9; (refine (stowageref16_Encode.calls k q0 q1 q2 q3 q4 q5 q6 qA qa q7 qB qb q8 a e _ ?s1 ?s2 ?s3 ?s4 A3.out).mono ?_); (case s1 => exact (Kd.V_reads' HQ7.out).2.2); (case s2 => exact (Kd.V_reads' HQ7.out).2.1); (case s3 => exact (Kd.V_reads' HQ8.out).2.2); (case s4 => exact (Kd.V_reads' HQ8.out).2.1); rintro q w3 ⟨rfl, hb⟩; (try dsimp only); replace BKgc := am (blk_below BKgc.out hb); replace HB := am (below_step HB.out hb); clear hb HQ7 HQ8 zc0 zc1 zc2 zc3 zc4 zc5 zc6 zc7 zc8 yc0 yc1 yc2 yc3 yc4 yc5 yc6 yc7 yc8; obtain ⟨zc0, zc1, zc2, zc3, zc4, zc5, zc6, zc7, zc8⟩ := c9_ BKgc.out; obtain ⟨yc0, yc1, yc2, yc3, yc4, yc5, yc6, yc7, yc8⟩ := f9_ BKgc.out)
  | (go_at_call 11; (refine (cmd_Digest.calls k c0 c1 c2 c3 c4 c5 c6 A7 n7 c7 A8 n8 c8 x e _ ?s1 HC7.out ?s2 HC8.out A4.out ?sG).mono ?_); (case s1 => exact Kd.C_below HR7.out HB.out); (case s2 => exact Kd.C_below HR8.out HB.out); (case sG => exact gg_below HG.out HB.out); rintro q w4 ⟨rfl, hb⟩; (try dsimp only); replace BKgc := am (blk_below BKgc.out hb); replace HB := am (below_step HB.out hb); clear hb zc0 zc1 zc2 zc3 zc4 zc5 zc6 zc7 zc8 yc0 yc1 yc2 yc3 yc4 yc5 yc6 yc7 yc8; obtain ⟨zc0, zc1, zc2, zc3, zc4, zc5, zc6, zc7, zc8⟩ := c9_ BKgc.out; obtain ⟨yc0, yc1, yc2, yc3, yc4, yc5, yc6, yc7, yc8⟩ := f9_ BKgc.out)
  | (go_at_call 12; (refine (stowageref16_Digest.calls k q0 q1 q2 q3 q4 q5 q6 qA qa q7 qB qb q8 x e _ ?s1 ?s2 ?s3 ?s4 A5.out).mono ?_); (case s1 => exact (Kd.V_reads' HQ7.out).2.2); (case s2 => exact (Kd.V_reads' HQ7.out).2.1); (case s3 => exact (Kd.V_reads' HQ8.out).2.2); (case s4 => exact (Kd.V_reads' HQ8.out).2.1); rintro q w5 ⟨rfl, hb⟩; (try dsimp only); replace BKgc := am (blk_below BKgc.out hb); replace HB := am (below_step HB.out hb); clear hb HQ7 HQ8 zc0 zc1 zc2 zc3 zc4 zc5 zc6 zc7 zc8 yc0 yc1 yc2 yc3 yc4 yc5 yc6 yc7 yc8; obtain ⟨zc0, zc1, zc2, zc3, zc4, zc5, zc6, zc7, zc8⟩ := c9_ BKgc.out; obtain ⟨yc0, yc1, yc2, yc3, yc4, yc5, yc6, yc7, yc8⟩ := f9_ BKgc.out))
 have SH : ∀ V : World, V.heap[gc]? = some (.cells #[.int .i64 c0, .string c1, .string c2, .string c3, .int .i64 c4, .int .i64 c5, .string c6, .slice A7 c7.length n7, .slice A8 c8.length n8] 25 (0, 0)) → (V.cell? ⟨gc, 0, none⟩ = some (.int .i64 c0) ∧ V.cell? ⟨gc, 1, none⟩ = some (.string c1) ∧ V.cell? ⟨gc, 2, none⟩ = some (.string c2) ∧ V.cell? ⟨gc, 3, none⟩ = some (.string c3) ∧ V.cell? ⟨gc, 4, none⟩ = some (.int .i64 c4) ∧ V.cell? ⟨gc, 5, none⟩ = some (.int .i64 c5) ∧ V.cell? ⟨gc, 6, none⟩ = some (.string c6) ∧ V.cell? ⟨gc, 7, none⟩ = some (.slice A7 c7.length n7) ∧ V.cell? ⟨gc, 8, none⟩ = some (.slice A8 c8.length n8)) := fun V h => c9_ h
 have SH := am SH
 clear A1 A3 A4 A5 zc0 zc1 zc2 zc3 zc4 zc5 zc6 zc7 zc8 yc0 yc1 yc2 yc3 yc4 yc5 yc6 yc7 yc8
 refine start_ (n := 30) (S := fun w' => w'.cell? ⟨gc, 0, none⟩ = some (.int .i64 c0) ∧ w'.cell? ⟨gc, 1, none⟩ = some (.string c1) ∧ w'.cell? ⟨gc, 2, none⟩ = some (.string c2) ∧ w'.cell? ⟨gc, 3, none⟩ = some (.string c3) ∧ w'.cell? ⟨gc, 4, none⟩ = some (.int .i64 c4) ∧ w'.cell? ⟨gc, 5, none⟩ = some (.int .i64 c5) ∧ w'.cell? ⟨gc, 6, none⟩ = some (.string c6) ∧ w'.cell? ⟨gc, 7, none⟩ = some (.slice A7 c7.length n7) ∧ w'.cell? ⟨gc, 8, none⟩ = some (.slice A8 c8.length n8)) (ds := []) #[false, false, false, false, false, false, false, false, false, false, false, false, false, false, false, false, false, false, false, false, false, false, false, false, false, false, false, false, false, false] (by kernel_rfl) rfl rfl (SH.out _ BKgc.out) (fun hHeld => ?_)
 replace BKgc := am (blk_drew BKgc.out)
 replace HB := am HB.out.drew
 generalize w5.drew = V0 at BKgc HB hHeld ⊢
 refine hcall 0 (some 33) 13 #[] (stowagelaw16_awake.calls k true V0 AW.out (gg_below HG.out HB.out)) ?_
 rintro e1 V1 ⟨rfl, hb⟩
 replace BKgc := am (blk_below BKgc.out hb)
 replace HB := am (below_step HB.out hb)
 clear hb hHeld
 have hHeld := SH.out _ BKgc.out
 refine ⟨_, _, rfl, hHeld, by simp only [Act.put, List.setIfInBounds_toArray, List.set_cons_zero, List.set_cons_succ]; rfl, ?_⟩
 refine hp 1 (some 34) ?_
 refine ht 2 (some 35) hHeld ?_
 refine ht 4 (some 37) hHeld ?_
 refine hcall 3 (some 36) 14 #[.agg #[.int .i64 c0, .string c1, .string c2, .string c3, .int .i64 c4, .int .i64 c5, .string c6, .slice A7 c7.length n7, .slice A8 c8.length n8]] (cmd_Check.calls k c0 c1 c2 c3 c4 c5 c6 A7 n7 c7 A8 n8 c8 z V1 (Kd.C_below HR7.out HB.out) HC7.out (Kd.C_below HR8.out HB.out) HC8.out A6.out (gg_below HG.out HB.out)) ?_
 rintro e1 V2 ⟨rfl, hb⟩
 replace BKgc := am (blk_below BKgc.out hb)
 replace HB := am (below_step HB.out hb)
 clear hb hHeld
 refine ⟨_, _, rfl, SH.out _ BKgc.out, by simp only [Act.put, List.setIfInBounds_toArray, List.set_cons_zero, List.set_cons_succ]; rfl, ?_⟩
 refine hcall 5 (some 38) 10 #[.agg #[.int .i64 c0, .string c1, .string c2, .string c3, .int .i64 c4, .int .i64 c5, .string c6, .slice A7 c7.length n7, .slice A8 c8.length n8]] (stowagelaw16_Ref.calls k c0 c1 c2 c3 c4 c5 c6 A7 n7 c7 A8 n8 c8 q0 q1 q2 q3 q4 q5 q6 q7 q8 V2 (Kd.C_below HR7.out HB.out) HC7.out (Kd.C_below HR8.out HB.out) HC8.out A2.out) ?_
 rintro e1 V3 ⟨v7, v8, rfl, ho7, ho8, hb⟩
 obtain ⟨qA, qa, rfl⟩ := Kd.R_slice ho7
 obtain ⟨qB, qb, rfl⟩ := Kd.R_slice ho8
 have HQ7 := am (Kd.R_V (base' := 0) ho7)
 have HQ8 := am (Kd.R_V (base' := 0) ho8)
 replace BKgc := am (blk_below BKgc.out hb)
 replace HB := am (below_step HB.out hb)
 clear hb ho7 ho8
 refine ⟨_, _, rfl, SH.out _ BKgc.out, by simp only [Act.put, List.setIfInBounds_toArray, List.set_cons_zero, List.set_cons_succ]; rfl, ?_⟩
 refine hcall 6 (some 39) 15 #[.agg #[.int .i64 q0, .string q1, .string q2, .string q3, .int .i64 q4, .int .i64 q5, .string q6, .slice qA q7.length qa, .slice qB q8.length qb]] (stowageref16_Check.calls k q0 q1 q2 q3 q4 q5 q6 qA qa q7 qB qb q8 z V3 (Kd.V_reads' HQ7.out).2.2 (Kd.V_reads' HQ7.out).2.1 (Kd.V_reads' HQ8.out).2.2 (Kd.V_reads' HQ8.out).2.1 A7_.out) ?_
 rintro e1 V4 ⟨rfl, hb⟩
 replace BKgc := am (blk_below BKgc.out hb)
 replace HB := am (below_step HB.out hb)
 clear hb HQ7 HQ8
 refine ⟨_, _, rfl, SH.out _ BKgc.out, by simp only [Act.put, List.setIfInBounds_toArray, List.set_cons_zero, List.set_cons_succ]; rfl, ?_⟩
 refine hp 7 (some 40) (v := .bool true) ?_ (hy := by intro w'; go_simp; try rfl)
 refine hp 8 (some 41) ?_
 refine hp 9 (some 42) ?_
 refine hp 10 (some 43) ?_
 refine hp 11 (some 44) ?_
 refine hp 12 (some 45) (v := .bool true) ?_ (hy := by intro w'; go_simp; try rfl)
 refine hp 13 (some 46) ?_
 refine hp 14 (some 47) ?_
 refine hp 15 (some 48) ?_
 refine hp 16 (some 49) ?_
 refine hp 17 (some 50) (v := .bool true) ?_ (hy := by intro w'; go_simp; try rfl)
 refine hp 18 (some 51) ?_
 refine hp 19 (some 52) ?_
 refine hp 20 (some 53) ?_
 refine hp 21 (some 54) ?_
 refine hp 22 (some 55) (v := .bool true) ?_ (hy := by intro w'; go_simp; try rfl)
 refine hp 23 (some 56) ?_
 refine hp 24 (some 57) ?_
 refine hp 25 (some 58) ?_
 refine hp 26 (some 59) ?_
 refine hp 27 (some 60) (v := .bool true) ?_ (hy := by intro w'; go_simp; try rfl)
 refine hp 28 (some 61) ?_
 refine hp 29 (some 2) ?_
 refine done_ (by kernel_rfl) ?_
 go_wp2
 go_ret
 exact ⟨rf, HB.out⟩
theorem stowagelaw16_CmdTexts.calls (k : Nat) (c0 : Int) (c1 : ByteArray) (c2 : ByteArray) (c3 : ByteArray) (c4 : Int) (c5 : Int) (c6 : ByteArray) (A7 : Option Addr) (n7 : Nat) (c7 : List (S82)) (A8 : Option Addr) (n8 : Nat) (c8 : List (S62)) (r : Bool) (w : World) (hr7 : Kd.C k82 w A7 c7.length c7) (hc7 : c7.length ≤ n7) (hr8 : Kd.C k62 w A8 c8.length c8) (hc8 : c8.length ≤ n8) (h : stowagelaw16_CmdTexts.f k c0 c1 c2 c3 c4 c5 c6 c7 c8 = some r) (hG : GG w) :
  Calls Tryd.prog 3 #[.agg #[.int .i64 c0, .string c1, .string c2, .string c3, .int .i64 c4, .int .i64 c5, .string c6, .slice A7 c7.length n7, .slice A8 c8.length n8]] w fun e w' => e = .returned (.bool r) ∧ Below w.heap.size w w' := by
 unfold stowagelaw16_CmdTexts.f at h
 split at h
 ·
  rename_i hc
  obtain rfl := Option.some.inj h
  exact stowagelaw16_CmdTexts_go k c0 c1 c2 c3 c4 c5 c6 A7 n7 c7 A8 n8 c8 w hr7 hc7 hr8 hc8 hc hG
 ·
  cases h
end Go.Proofs.YtdidopoalmkhlaaDoor.Ot
end
section
namespace Go.Proofs.YtdidopoalmkhlaaDoor.Pure
open Go.RowKit Go.Proofs.YtdidopoalmkhlaaDoor.Ot Go.Proofs.YtdidopoalmkhlaaDoorW.PrintWords Go.Proofs.YtdidopoalmkhlaaDoorW.PrintLast Go.Proofs.YtdidopoalmkhlaaDoorW.PrintMore
set_option linter.unusedVariables false
set_option linter.unusedSimpArgs false
theorem up {α : Type} {f : Nat → Option α} (h : ∀ k, LeO (f k) (f (k + 1))) {r : α} {k : Nat} (h0 : f k = some r) : ∀ n, f (k + n) = some r
 | 0 => h0
 | n + 1 => h (k + n) r (up h h0 n)
theorem up_to {α : Type} {f : Nat → Option α} (h : ∀ k, LeO (f k) (f (k + 1))) {r : α} {k m : Nat} (h0 : f k = some r) (hm : k ≤ m) : f m = some r := by
 have := up h h0 (m - k)
 rwa [Nat.add_sub_cancel' hm] at this
theorem w1 (i : Nat) (h : i ≤ 4611686018427387904) : wrap64 ((i : Int) + 1) = ((i + 1 : Nat) : Int) := by
 rw [IntWalk.wrap64_in _ (by omega)]
 omega
theorem len_eq (a : ByteArray) : a.data.toList.length = a.size := Array.length_toList (xs := a.data)
theorem bt_get (a : ByteArray) (i : Nat) (h : i < a.size) : ∃ c, a.data.toList.drop i = c :: a.data.toList.drop (i + 1) ∧ bt a (i : Int) = (c.toNat : Int) := by
 have hl : i < a.data.toList.length := by rw [len_eq]; exact h
 refine ⟨a.data.toList[i], List.drop_eq_getElem_cons hl, ?_⟩
 unfold bt
 rw [dif_pos (by rw [Int.toNat_natCast]; exact h)]
 simp only [Int.toNat_natCast, Array.getElem_toList]
 rfl
theorem bt_rng (s : ByteArray) (i : Int) : 0 ≤ bt s i ∧ bt s i ≤ 255 := by
 unfold bt
 split
 ·
  rename_i h
  have := (s.get i.toNat h).toNat_lt
  constructor
  ·
   omega
  ·
   show ((s.get i.toNat h).toNat : Int) ≤ 255
   omega
 ·
  omega
theorem or128 (m : Int) (h0 : 0 ≤ m) (h1 : m < 256) : Go.bits .or .u8 m 128 = m % 128 + 128 := by
 obtain ⟨n, rfl⟩ : ∃ n : Nat, m = (n : Int) := ⟨m.toNat, by omega⟩
 have h : ∀ n, n < 256 → Go.bits .or .u8 ((n : Nat) : Int) 128 = ((n : Nat) : Int) % 128 + 128 := by decide +kernel
 exact h n (by omega)
def nl : Nat → Int → List Int
 | 0, n => [n]
 | d + 1, n => if n < 128 then [n] else (n % 128 + 128) :: nl d (n / 128)
theorem nl_len : ∀ d n, (nl d n).length ≤ d + 1
 | 0, _ => by simp [nl]
 | d + 1, n => by
  rw [nl]
  split
  ·
   simp
  ·
   have := nl_len d (n / 128)
   simp only [List.length_cons]; omega
theorem sn_append (a b : List Int) : strOfNums (a ++ b) = strOfNums a ++ strOfNums b := by
 apply ByteArray.ext
 rw [ByteArray.data_append]
 simp [strOfNums]
theorem oct_num : ∀ (d k : Nat) (n : Int) (x3 : List Int), 0 ≤ n → n < 128 ^ (d + 1) → d < k → x3.length + d ≤ 100 → octet_Number.l0 k n x3 = some (strOfNums (x3 ++ nl d n)) := by
 intro d
 induction d with
 | zero =>
  intro k n x3 h0 h1 hk h3
  obtain ⟨k, rfl⟩ : ∃ j, k = j + 1 := ⟨k - 1, by omega⟩
  have h1' : n < 128 := by simpa using h1
  rw [octet_Number.l0, if_neg (by omega), if_pos (by omega), nl, Int.emod_eq_of_lt h0 (by omega)]
 | succ d ih =>
  intro k n x3 h0 h1 hk h3
  obtain ⟨k, rfl⟩ : ∃ j, k = j + 1 := ⟨k - 1, by omega⟩
  rw [octet_Number.l0, nl]
  by_cases h : n < 128
  ·
   rw [if_neg (by omega), if_pos (by omega), if_pos h, Int.emod_eq_of_lt h0 (by omega)]
  ·
   rw [if_pos (by omega), if_pos (by omega), if_neg h, or128 _ (by omega) (by omega), show n % 256 % 128 = n % 128 by omega, ih k (n / 128) _ (by omega) (Int.ediv_lt_of_lt_mul (by omega) (by rw [← Int.pow_succ]; exact h1)) (by omega) (by simp; omega), List.append_assoc]
   rfl
theorem ref_num : ∀ (d k : Nat) (n : Int), 0 ≤ n → n < 128 ^ (d + 1) → n ≤ 18446744073709551615 → d < k → d ≤ 100 → stowageref01_Number.f k n = some (strOfNums (nl d n)) := by
 intro d
 induction d with
 | zero =>
  intro k n h0 h1 h2 hk h3
  obtain ⟨k, rfl⟩ : ∃ j, k = j + 1 := ⟨k - 1, by omega⟩
  have h1' : n < 128 := by simpa using h1
  rw [stowageref01_Number.f, if_pos h1', nl, Int.emod_eq_of_lt h0 (by omega)]
 | succ d ih =>
  intro k n h0 h1 h2 hk h3
  obtain ⟨k, rfl⟩ : ∃ j, k = j + 1 := ⟨k - 1, by omega⟩
  rw [stowageref01_Number.f, nl]
  by_cases h : n < 128
  ·
   rw [if_pos h, if_pos h, Int.emod_eq_of_lt h0 (by omega)]
  ·
   rw [if_neg h, if_neg h, Option.bind_some, Int.tmod_eq_emod_of_nonneg h0, Int.tdiv_eq_ediv_of_nonneg h0, IntWalk.u64_in (n / 128) (by omega), ih k (n / 128) (by omega) (Int.ediv_lt_of_lt_mul (by omega) (by rw [← Int.pow_succ]; exact h1)) (by omega) (by omega) (by omega), Option.bind_some, IntWalk.u64_in _ (by omega), Int.emod_eq_of_lt (by omega) (by omega)]
   have := nl_len d (n / 128)
   rw [if_pos (by rw [strOfNums_size, strOfNums_size]; simp only [List.length_cons, List.length_nil]; omega), ← sn_append]
   rfl
def num (n : Int) : ByteArray := strOfNums (nl 9 n)
theorem num_size (n : Int) : (num n).size ≤ 10 := by
 unfold num
 rw [strOfNums_size]
 exact nl_len 9 n
theorem oct_Number (n : Int) (h0 : 0 ≤ n) (h1 : n ≤ 18446744073709551615) (k : Nat) (hk : 10 ≤ k) : octet_Number.f k n = some (num n) := by
 unfold octet_Number.f
 rw [oct_num 9 k n [] h0 (by omega) (by omega) (by simp)]
 rfl
theorem ref_Number (n : Int) (h0 : 0 ≤ n) (h1 : n ≤ 18446744073709551615) (k : Nat) (hk : 10 ≤ k) : stowageref01_Number.f k n = some (num n) :=
 ref_num 9 k n h0 (by omega) h1 (by omega) (by omega)
def txt (a : ByteArray) : ByteArray := num (a.size : Int) ++ a
theorem oct_Text (a : ByteArray) (ha : a.size ≤ 1073741824) (k : Nat) (hk : 10 ≤ k) : octet_Text.f k a = some (txt a) := by
 unfold octet_Text.f
 have := num_size (a.size : Int)
 rw [IntWalk.u64_in _ (by omega), oct_Number _ (by omega) (by omega) k hk, Option.bind_some, if_pos (by omega)]
 rfl
theorem ref_Text (a : ByteArray) (ha : a.size ≤ 1073741824) (k : Nat) (hk : 10 ≤ k) : stowageref01_Text.f k a = some (txt a) := by
 unfold stowageref01_Text.f
 have := num_size (a.size : Int)
 rw [IntWalk.u64_in _ (by omega), ref_Number _ (by omega) (by omega) k hk, Option.bind_some, if_pos (by omega)]
 rfl
theorem and127 (m : Int) (h0 : 0 ≤ m) (h1 : m < 256) : Go.bits .and .u8 m 127 = m % 128 := by
 obtain ⟨n, rfl⟩ : ∃ n : Nat, m = (n : Int) := ⟨m.toNat, by omega⟩
 have h : ∀ n, n < 256 → Go.bits .and .u8 ((n : Nat) : Int) 127 = ((n : Nat) : Int) % 128 := by decide +kernel
 exact h n (by omega)
def rn (s : ByteArray) (a : Nat) : Nat → Nat → Int → Int × Int × Int
 | 0, _, _ => (0, 0, 3)
 | n + 1, i, x => if s.size ≤ a + i then (0, 0, 5) else if (i = 9 ∧ bt s ((a + i : Nat) : Int) > 1) ∨ (0 < i ∧ bt s ((a + i : Nat) : Int) = 0) then (0, 0, 3)
  else if bt s ((a + i : Nat) : Int) < 128 then (x + bt s ((a + i : Nat) : Int) % 128 * 128 ^ i, ((a + i + 1 : Nat) : Int), 0) else rn s a n (i + 1) (x + bt s ((a + i : Nat) : Int) % 128 * 128 ^ i)
theorem or_add (x d : Nat) (i : Nat) (hx : x < 128 ^ i) : x ||| (d * 128 ^ i) = x + d * 128 ^ i := by
 have h : (128 : Nat) ^ i = 2 ^ (7 * i) := by rw [Nat.pow_mul]
 rw [h] at hx ⊢
 rw [Nat.or_comm, Nat.mul_comm d, ← Nat.two_pow_add_eq_or_of_lt hx d, Nat.add_comm]
theorem step_bits (x b : Int) (i : Nat) (h0 : 0 ≤ x) (hx : x < 128 ^ i) (hb0 : 0 ≤ b) (hb : b < 256) (hi : i < 9 ∨ (i = 9 ∧ b ≤ 1)) :
  Go.bits .or .u64 x (shl .u64 (IntKind.u64.wrap (Go.bits .and .u8 b 127)) (7 * (i : Int))) = x + b % 128 * 128 ^ i ∧ 0 ≤ x + b % 128 * 128 ^ i ∧ x + b % 128 * 128 ^ i < 128 ^ (i + 1) ∧ x + b % 128 * 128 ^ i ≤ 18446744073709551615 := by
 obtain ⟨n, rfl⟩ : ∃ n : Nat, x = (n : Int) := ⟨x.toNat, by omega⟩
 obtain ⟨d, hd⟩ : ∃ d : Nat, b % 128 = (d : Int) := ⟨(b % 128).toNat, by omega⟩
 have hd1 : d < 128 := by omega
 have hn : n < 128 ^ i := by exact_mod_cast hx
 have hpow : (128 : Nat) ^ i = 2 ^ (7 * i) := by rw [Nat.pow_mul]
 have hlt : n + d * 128 ^ i < 128 ^ (i + 1) := by
  have h1 : d * 128 ^ i ≤ 127 * 128 ^ i := Nat.mul_le_mul_right _ (by omega)
  rw [Nat.pow_succ]; omega
 have hmax : n + d * 128 ^ i < 18446744073709551616 := by
  rcases hi with hi | ⟨rfl, hb1⟩
  ·
   have h2 : (128 : Nat) ^ (i + 1) ≤ 128 ^ 9 := Nat.pow_le_pow_right (by decide) (by omega)
   have h3 : (128 : Nat) ^ 9 = 9223372036854775808 := by decide
   omega
  ·
   have h3 : (128 : Nat) ^ 9 = 9223372036854775808 := by decide
   have h4 : d ≤ 1 := by omega
   rw [h3] at hn ⊢
   rcases (show d = 0 ∨ d = 1 by omega) with rfl | rfl <;> omega
 have hpi : (0 : Nat) < 128 ^ i := Nat.pow_pos (by decide)
 have hdm : d * 128 ^ i < 18446744073709551616 := by omega
 have hi9 : i ≤ 9 := by omega
 have hshl : shl .u64 (IntKind.u64.wrap (Go.bits .and .u8 b 127)) (7 * (i : Int)) = ((d * 128 ^ i : Nat) : Int) := by
  rw [and127 b hb0 hb, hd, IntWalk.u64_in _ (by omega)]
  unfold shl
  have hbits : IntKind.u64.bits = 64 := rfl
  rw [hbits, show (7 * (i : Int)).toNat = 7 * i by omega, Nat.min_eq_left (by omega), hpow]
  rw [hpow] at hdm
  have hc : ((d : Int) * 2 ^ (7 * i)) = ((d * 2 ^ (7 * i) : Nat) : Int) := by rw [Int.natCast_mul, Int.natCast_pow]; rfl
  rw [hc, IntWalk.u64_in _ (by omega)]
 have hc2 : (n : Int) + b % 128 * 128 ^ i = ((n + d * 128 ^ i : Nat) : Int) := by rw [hd, Int.natCast_add, Int.natCast_mul, Int.natCast_pow]; rfl
 rw [hshl, bits_or_u64_nat n _ (by omega) hdm, or_add n d i hn, hc2]
 refine ⟨rfl, by omega, ?_, by omega⟩
 have : ((128 : Int) ^ (i + 1)) = ((128 ^ (i + 1) : Nat) : Int) := by rw [Int.natCast_pow]; rfl
 rw [this]
 omega
theorem oct_rn (s : ByteArray) (a : Nat) (hs : s.size ≤ 1073741824) (ha : a ≤ s.size) : ∀ (n i k : Nat) (x : Int), i + n = 10 → 2 * n < k → 0 ≤ x → x < 128 ^ i → octet_ReadNumber.l0 k s (a : Int) x (i : Int) = some (rn s a n i x) := by
 intro n
 induction n with
 | zero =>
  intro i k x hi hk h0 hx
  obtain ⟨k, rfl⟩ : ∃ j, k = j + 1 := ⟨k - 1, by omega⟩
  rw [octet_ReadNumber.l0, if_neg (by omega)]
  rfl
 | succ n ih =>
  intro i k x hi hk h0 hx
  obtain ⟨k, rfl⟩ : ∃ j, k = j + 1 + 1 := ⟨k - 2, by omega⟩
  have hbr := bt_rng s ((a + i : Nat) : Int)
  rw [octet_ReadNumber.l0, if_pos (by omega), IntWalk.wrap64_in ((a : Int) + (i : Int)) (by omega), show ((a : Int) + (i : Int)) = ((a + i : Nat) : Int) by omega, rn]
  obtain ⟨b, hb⟩ : ∃ b, bt s ((a + i : Nat) : Int) = b := ⟨_, rfl⟩
  rw [hb] at hbr ⊢
  by_cases he : s.size ≤ a + i
  ·
   rw [if_pos (by omega), if_pos he]
  ·
   rw [if_neg (by omega), if_neg he, if_pos (by omega), if_pos (by omega)]
   have tail : ∀ c : Bool, (c = true ↔ ((i = 9 ∧ b > 1) ∨ (0 < i ∧ b = 0))) → octet_ReadNumber.j2 (k + 1) s (a : Int) x (i : Int) b (i : Int) c = some (if (i = 9 ∧ b > 1) ∨ (0 < i ∧ b = 0) then (0, 0, 3) else if b < 128 then (x + b % 128 * 128 ^ i, ((a + i + 1 : Nat) : Int), 0) else rn s a n (i + 1) (x + b % 128 * 128 ^ i)) := by
    intro c hc
    rw [octet_ReadNumber.j2]
    by_cases hq : (i = 9 ∧ b > 1) ∨ (0 < i ∧ b = 0)
    ·
     rw [if_pos (hc.2 hq), if_pos hq]
    ·
     rw [if_neg (fun h => hq (hc.1 h)), if_neg hq, IntWalk.wrap64_in (7 * (i : Int)) (by omega), if_pos (by omega)]
     obtain ⟨e1, e2, e3, e4⟩ := step_bits x b i h0 hx hbr.1 (by omega) (by omega)
     rw [e1]
     by_cases hlt : b < 128
     ·
      rw [if_pos hlt, if_pos hlt, IntWalk.wrap64_in ((a : Int) + (i : Int)) (by omega), IntWalk.wrap64_in _ (by omega)]
      rfl
     ·
      rw [if_neg hlt, if_neg hlt, IntWalk.wrap64_in ((i : Int) + 1) (by omega), show ((i : Int) + 1) = ((i + 1 : Nat) : Int) by omega]
      exact ih (i + 1) k _ (by omega) (by omega) e2 e3
   by_cases h9 : i = 9
   ·
    rw [if_pos (by omega)]
    by_cases hb1 : b > 1
    ·
     rw [if_pos hb1]; exact tail true (by simp; omega)
    ·
     rw [if_neg hb1, if_pos (by omega)]; exact tail _ (by simp; omega)
   ·
    rw [if_neg (by omega)]
    by_cases hi0 : i = 0
    ·
     rw [if_neg (by omega)]; exact tail false (by simp; omega)
    ·
     rw [if_pos (by omega)]; exact tail _ (by simp; omega)
theorem rn_spec (s : ByteArray) (a : Nat) : ∀ (n i : Nat) (x : Int), i + n = 10 → 0 ≤ x → x < 128 ^ i → (rn s a n i x).2.2 = 0 → 0 ≤ (rn s a n i x).1 ∧ (rn s a n i x).1 ≤ 18446744073709551615 ∧ ∃ m : Nat, (rn s a n i x).2.1 = (m : Int) ∧ a ≤ m ∧ m ≤ s.size
 | 0, _, _, _, _, _, h => by simp [rn] at h
 | n + 1, i, x, hi, h0, hx, h => by
  have hbr := bt_rng s ((a + i : Nat) : Int)
  rw [rn] at h ⊢
  split at h
  ·
   simp at h
  ·
   rename_i he
   split at h
   ·
    simp at h
   ·
    rename_i hq
    obtain ⟨e1, e2, e3, e4⟩ := step_bits x _ i h0 hx hbr.1 (by omega) (by omega)
    rw [if_neg he, if_neg hq]
    split at h
    ·
     rename_i hlt
     rw [if_pos hlt]
     exact ⟨e2, e4, a + i + 1, rfl, by omega, by omega⟩
    ·
     rename_i hlt
     rw [if_neg hlt]
     exact rn_spec s a n (i + 1) _ (by omega) e2 e3 h
def rd0 (s : ByteArray) (a : Nat) : Int × Int × Int := rn s a 10 0 0
theorem oct_ReadNumber (s : ByteArray) (a : Nat) (hs : s.size ≤ 1073741824) (ha : a ≤ s.size) (k : Nat) (hk : 25 ≤ k) : octet_ReadNumber.f k s (a : Int) = some (rd0 s a) := by
 unfold octet_ReadNumber.f
 obtain ⟨k, rfl⟩ : ∃ j, k = j + 1 := ⟨k - 1, by omega⟩
 rw [if_neg (by omega), decide_eq_false (by omega), octet_ReadNumber.j0, if_neg (by simp)]
 exact oct_rn s a hs ha 10 0 k 0 (by omega) (by omega) (by omega) (by decide)
theorem rd0_spec (s : ByteArray) (a : Nat) (h : (rd0 s a).2.2 = 0) : 0 ≤ (rd0 s a).1 ∧ (rd0 s a).1 ≤ 18446744073709551615 ∧ ∃ m : Nat, (rd0 s a).2.1 = (m : Int) ∧ a ≤ m ∧ m ≤ s.size :=
 rn_spec s a 10 0 0 (by omega) (by omega) (by decide) h
theorem txt_size (a : ByteArray) : (txt a).size ≤ a.size + 10 := by
 unfold txt
 have := num_size (a.size : Int)
 rw [ByteArray.size_append]; omega
theorem ba_assoc (a b c : ByteArray) : a ++ b ++ c = a ++ (b ++ c) := by
 apply ByteArray.ext
 simp only [ByteArray.data_append, Array.append_assoc]
def xn (s : ByteArray) (a : Nat) (e : Int) (most : Int) : Int × Int × Int :=
 if e = 0 then (if (rd0 s a).2.2 = 0 then (if (rd0 s a).1 > most then (0, (a : Int), 2) else ((rd0 s a).1, (rd0 s a).2.1, 0)) else (0, (a : Int), (rd0 s a).2.2)) else (0, (a : Int), e)
theorem oct_RNumber (s : ByteArray) (a : Nat) (hs : s.size ≤ 1073741824) (ha : a ≤ s.size) (e most : Int) (k : Nat) (hk : 30 ≤ k) :
  octet_Reader_Number.f k s (a : Int) e most = some ((xn s a e most).1, s, (xn s a e most).2.1, (xn s a e most).2.2) := by
 unfold octet_Reader_Number.f octet_Reader_Err.f xn
 obtain ⟨k, rfl⟩ : ∃ j, k = j + 1 := ⟨k - 1, by omega⟩
 rw [Option.bind_some]
 by_cases he : e = 0
 ·
  rw [if_pos he, if_pos he, oct_ReadNumber s a hs ha (k + 1) (by omega), Option.bind_some]
  by_cases h0 : (rd0 s a).2.2 = 0
  ·
   rw [if_pos h0, if_pos h0, octet_Reader_Number.j0]
   by_cases hm : (rd0 s a).1 > most
   ·
    rw [if_pos (decide_eq_true hm), if_neg (by omega), if_pos hm]
   ·
    rw [if_neg (by simpa using hm), if_pos h0, if_neg hm, he]
  ·
   rw [if_neg h0, if_neg h0, octet_Reader_Number.j0, if_neg (by simp), if_neg h0]
 ·
  rw [if_neg he, if_neg he]
theorem xn_at (s : ByteArray) (a : Nat) (ha : a ≤ s.size) (e most : Int) (hm : 0 ≤ most) : 0 ≤ (xn s a e most).1 ∧ (xn s a e most).1 ≤ most ∧ ∃ m : Nat, (xn s a e most).2.1 = (m : Int) ∧ a ≤ m ∧ m ≤ s.size := by
 unfold xn
 by_cases he : e = 0
 ·
  rw [if_pos he]
  by_cases h0 : (rd0 s a).2.2 = 0
  ·
   rw [if_pos h0]
   obtain ⟨g1, g2, m, g3, g4, g5⟩ := rd0_spec s a h0
   by_cases hmm : (rd0 s a).1 > most
   ·
    rw [if_pos hmm]; exact ⟨Int.le_refl _, hm, a, rfl, Nat.le_refl _, ha⟩
   ·
    rw [if_neg hmm]; exact ⟨g1, by omega, m, g3, g4, g5⟩
  ·
   rw [if_neg h0]; exact ⟨Int.le_refl _, hm, a, rfl, Nat.le_refl _, ha⟩
 ·
  rw [if_neg he]; exact ⟨Int.le_refl _, hm, a, rfl, Nat.le_refl _, ha⟩
theorem oct_RInt (s : ByteArray) (a : Nat) (hs : s.size ≤ 1073741824) (ha : a ≤ s.size) (e most : Int) (hm : 0 ≤ most) (hm2 : most ≤ 9223372036854775807) (k : Nat) (hk : 30 ≤ k) :
  octet_Reader_Int.f k s (a : Int) e most = some ((xn s a e most).1, s, (xn s a e most).2.1, (xn s a e most).2.2) := by
 unfold octet_Reader_Int.f
 obtain ⟨h1, h2, _⟩ := xn_at s a ha e most hm
 rw [if_neg (by omega), IntWalk.u64_in most (by omega), oct_RNumber s a hs ha e most k hk, Option.bind_some]
 show some (wrap64 ((xn s a e most).1), s, (xn s a e most).2.1, (xn s a e most).2.2) = _
 rw [IntWalk.wrap64_in _ (by omega)]
def rt (s : ByteArray) (a : Nat) : ByteArray × Int × Int :=
 if (rd0 s a).2.2 = 0 then (if (rd0 s a).1 > (s.size : Int) - (rd0 s a).2.1 then ((⟨#[]⟩ : ByteArray), 0, 5) else (s.extract (rd0 s a).2.1.toNat ((rd0 s a).2.1 + (rd0 s a).1).toNat, (rd0 s a).2.1 + (rd0 s a).1, 0)) else ((⟨#[]⟩ : ByteArray), 0, (rd0 s a).2.2)
theorem oct_ReadText (s : ByteArray) (a : Nat) (hs : s.size ≤ 1073741824) (ha : a ≤ s.size) (k : Nat) (hk : 25 ≤ k) : octet_ReadText.f k s (a : Int) = some (rt s a) := by
 unfold octet_ReadText.f rt
 rw [oct_ReadNumber s a hs ha k hk, Option.bind_some]
 by_cases h0 : (rd0 s a).2.2 = 0
 ·
  obtain ⟨g1, g2, m, g3, g4, g5⟩ := rd0_spec s a h0
  rw [if_pos h0, if_pos h0, g3, IntWalk.wrap64_in ((s.size : Int) - (m : Int)) (by omega), IntWalk.u64_in _ (by omega)]
  by_cases hm : (rd0 s a).1 > (s.size : Int) - (m : Int)
  ·
   rw [if_pos hm, if_pos hm]
  ·
   rw [if_neg hm, if_neg hm, IntWalk.wrap64_in (rd0 s a).1 (by omega), IntWalk.wrap64_in _ (by omega), if_pos (by omega), if_pos (by omega), if_pos (by omega)]
 ·
  rw [if_neg h0, if_neg h0]
theorem rt_spec (s : ByteArray) (a : Nat) (h : (rt s a).2.2 = 0) : ∃ m : Nat, (rt s a).2.1 = (m : Int) ∧ a ≤ m ∧ m ≤ s.size := by
 unfold rt at h ⊢
 by_cases h0 : (rd0 s a).2.2 = 0
 ·
  obtain ⟨g1, g2, m, g3, g4, g5⟩ := rd0_spec s a h0
  rw [if_pos h0] at h ⊢
  by_cases hm : (rd0 s a).1 > (s.size : Int) - (rd0 s a).2.1
  ·
   rw [if_pos hm] at h; simp at h
  ·
   rw [if_neg hm]
   exact ⟨m + (rd0 s a).1.toNat, by show (rd0 s a).2.1 + (rd0 s a).1 = _; omega, by omega, by omega⟩
 ·
  rw [if_neg h0] at h
  exact absurd h h0
def xt (s : ByteArray) (a : Nat) (e : Int) (most : Int) : ByteArray × Int × Int :=
 if e = 0 then (if (rt s a).2.2 = 0 then (if ((rt s a).1.size : Int) > most then ((⟨#[]⟩ : ByteArray), (a : Int), 2) else ((rt s a).1, (rt s a).2.1, 0)) else ((⟨#[]⟩ : ByteArray), (a : Int), (rt s a).2.2)) else ((⟨#[]⟩ : ByteArray), (a : Int), e)
theorem oct_RText (s : ByteArray) (a : Nat) (hs : s.size ≤ 1073741824) (ha : a ≤ s.size) (e most : Int) (k : Nat) (hk : 30 ≤ k) :
  octet_Reader_Text.f k s (a : Int) e most = some ((xt s a e most).1, s, (xt s a e most).2.1, (xt s a e most).2.2) := by
 unfold octet_Reader_Text.f octet_Reader_Err.f xt
 obtain ⟨k, rfl⟩ : ∃ j, k = j + 1 := ⟨k - 1, by omega⟩
 rw [Option.bind_some]
 by_cases he : e = 0
 ·
  rw [if_pos he, if_pos he, oct_ReadText s a hs ha (k + 1) (by omega), Option.bind_some]
  by_cases h0 : (rt s a).2.2 = 0
  ·
   rw [if_pos h0, if_pos h0, octet_Reader_Text.j0]
   by_cases hm : ((rt s a).1.size : Int) > most
   ·
    rw [if_pos (decide_eq_true hm), if_neg (by omega), if_pos hm]
   ·
    rw [if_neg (by simpa using hm), if_pos h0, if_neg hm, he]
  ·
   rw [if_neg h0, if_neg h0, octet_Reader_Text.j0, if_neg (by simp), if_neg h0]
 ·
  rw [if_neg he, if_neg he]
theorem xt_at (s : ByteArray) (a : Nat) (ha : a ≤ s.size) (e most : Int) (hm : 0 ≤ most) : ((xt s a e most).1.size : Int) ≤ most ∧ ∃ m : Nat, (xt s a e most).2.1 = (m : Int) ∧ a ≤ m ∧ m ≤ s.size := by
 have hz : (((⟨#[]⟩ : ByteArray).size : Nat) : Int) = 0 := rfl
 unfold xt
 by_cases he : e = 0
 ·
  rw [if_pos he]
  by_cases h0 : (rt s a).2.2 = 0
  ·
   rw [if_pos h0]
   by_cases hmm : ((rt s a).1.size : Int) > most
   ·
    rw [if_pos hmm]; exact ⟨by show (((⟨#[]⟩ : ByteArray).size : Nat) : Int) ≤ most; omega, a, rfl, Nat.le_refl _, ha⟩
   ·
    rw [if_neg hmm]; exact ⟨by show ((rt s a).1.size : Int) ≤ most; omega, rt_spec s a h0⟩
  ·
   rw [if_neg h0]; exact ⟨by show (((⟨#[]⟩ : ByteArray).size : Nat) : Int) ≤ most; omega, a, rfl, Nat.le_refl _, ha⟩
 ·
  rw [if_neg he]; exact ⟨by show (((⟨#[]⟩ : ByteArray).size : Nat) : Int) ≤ most; omega, a, rfl, Nat.le_refl _, ha⟩
def by_ (l : List Int) : List UInt8 := l.map fun n => UInt8.ofNat n.toNat
theorem num_by (n : Int) : (num n).data.toList = by_ (nl 9 n) := rfl
theorem bt_head (s : ByteArray) (p : Nat) (b : Int) (h0 : 0 ≤ b) (h1 : b < 256) (rest : List UInt8) (h : s.data.toList.drop p = UInt8.ofNat b.toNat :: rest) : p < s.size ∧ bt s (p : Int) = b ∧ s.data.toList.drop (p + 1) = rest := by
 have hp : p < s.size := by
  rcases Nat.lt_or_ge p s.size with h2 | h2
  ·
   exact h2
  ·
   rw [List.drop_of_length_le (by rw [len_eq]; exact h2)] at h; cases h
 obtain ⟨c, hc, hb⟩ := bt_get s p hp
 rw [hc] at h
 injection h with e1 e2
 refine ⟨hp, ?_, e2⟩
 rw [hb, e1, UInt8.toNat_ofNat']
 omega
theorem rn_back (s : ByteArray) (a : Nat) : ∀ (d i : Nat) (x n : Int) (rest : List UInt8), i + d = 9 → 0 ≤ n → n < 128 ^ (d + 1) → (i = 9 → n ≤ 1) → (0 < i → n ≠ 0) → (8 < i → n < 128) → n * 128 ^ i ≤ 18446744073709551615 → s.data.toList.drop (a + i) = by_ (nl d n) ++ rest →
  rn s a (d + 1) i x = (x + n * 128 ^ i, ((a + i + (nl d n).length : Nat) : Int), 0) := by
 intro d
 induction d with
 | zero =>
  intro i x n rest hi h0 h1 h9 hz h8 hm h
  have h1' : n < 128 := by simpa using h1
  rw [nl] at h ⊢
  obtain ⟨hp, hb, _⟩ := bt_head s (a + i) n h0 (by omega) rest h
  rw [rn, hb, if_neg (by omega), if_neg (by omega), if_pos h1', Int.emod_eq_of_lt h0 h1']
  rfl
 | succ d ih =>
  intro i x n rest hi h0 h1 h9 hz h8 hm h
  by_cases h128 : n < 128
  ·
   have e1 : nl (d + 1) n = [n] := by rw [nl, if_pos h128]
   rw [e1] at h ⊢
   obtain ⟨hp, hb, _⟩ := bt_head s (a + i) n h0 (by omega) rest h
   rw [rn, hb, if_neg (by omega), if_neg (by omega), if_pos h128, Int.emod_eq_of_lt h0 h128]
   rfl
  ·
   have e1 : nl (d + 1) n = (n % 128 + 128) :: nl d (n / 128) := by rw [nl, if_neg h128]
   rw [e1] at h ⊢
   obtain ⟨hp, hb, ht⟩ := bt_head s (a + i) (n % 128 + 128) (by omega) (by omega) (by_ (nl d (n / 128)) ++ rest) h
   have hpow : (128 : Int) ^ (i + 1) = 128 ^ i * 128 := Int.pow_succ _ _
   have hpi : (0 : Int) < 128 ^ i := Int.pow_pos (by omega)
   have hsum : n % 128 * 128 ^ i + n / 128 * 128 ^ (i + 1) = n * 128 ^ i := by
    rw [hpow, Int.mul_comm (128 ^ i) 128, ← Int.mul_assoc, ← Int.add_mul]
    congr 1
    omega
   have hle : n / 128 * 128 ^ (i + 1) ≤ 18446744073709551615 := by
    have : 0 ≤ n % 128 * 128 ^ i := Int.mul_nonneg (by omega) (by omega)
    omega
   rw [rn, hb, if_neg (by omega), if_neg (by omega), if_neg (by omega), show (n % 128 + 128) % 128 = n % 128 by omega]
   rw [ih (i + 1) _ (n / 128) rest (by omega) (by omega) (Int.ediv_lt_of_lt_mul (by omega) (by rw [← Int.pow_succ]; exact h1)) ?_ (by omega) ?_ hle (by rw [← Nat.add_assoc]; exact ht)]
   ·
    rw [Int.add_assoc, hsum]
    congr 2
    simp only [List.length_cons]; omega
   ·
    intro hi9
    obtain rfl : i = 8 := by omega
    have h3 : (128 : Int) ^ (8 + 1) = 9223372036854775808 := by decide
    rw [h3] at hle
    omega
   ·
    intro h8'
    have hi8 : i = 8 := by omega
    subst hi8
    have h3 : (128 : Int) ^ (8 + 1) = 9223372036854775808 := by decide
    rw [h3] at hle
    omega
theorem rd0_back (s : ByteArray) (a : Nat) (n : Int) (rest : List UInt8) (h0 : 0 ≤ n) (h1 : n ≤ 18446744073709551615) (h : s.data.toList.drop a = (num n).data.toList ++ rest) : rd0 s a = (n, ((a + (num n).size : Nat) : Int), 0) := by
 unfold rd0
 rw [rn_back s a 9 0 0 n rest rfl h0 (by omega) (by omega) (by omega) (by omega) (by omega) (by rw [Nat.add_zero]; exact h)]
 have : (num n).size = (nl 9 n).length := strOfNums_size _
 rw [this]
 simp
theorem rn_only (s : ByteArray) (a : Nat) : ∀ (d i : Nat) (x : Int), (rn s a (d + 1) i x).2.2 = 0 → ∃ (n : Int) (m : Nat), 0 ≤ n ∧ (0 < i → n ≠ 0) ∧ (rn s a (d + 1) i x).1 = x + n * 128 ^ i ∧ (rn s a (d + 1) i x).2.1 = (m : Int) ∧ m ≤ s.size ∧ m = a + i + (nl d n).length ∧ s.data.toList.drop (a + i) = by_ (nl d n) ++ s.data.toList.drop m := by
 intro d
 induction d with
 | zero =>
  intro i x h
  rw [rn] at h ⊢
  split at h
  ·
   simp at h
  ·
   rename_i he
   obtain ⟨c, hc, hb⟩ := bt_get s (a + i) (by omega)
   have hc8 := UInt8.toNat_lt c
   split at h
   ·
    simp at h
   ·
    rename_i hq
    split at h
    ·
     rename_i hlt
     rw [if_neg he, if_neg hq, if_pos hlt]
     rw [hb] at hq hlt ⊢
     refine ⟨(c.toNat : Int), a + i + 1, by omega, by omega, by rw [Int.emod_eq_of_lt (by omega) hlt], rfl, by omega, rfl, ?_⟩
     rw [hc]
     show _ = UInt8.ofNat (c.toNat : Int).toNat :: _
     rw [Int.toNat_natCast, UInt8.ofNat_toNat]
     rfl
    ·
     rw [rn] at h; simp at h
 | succ d ih =>
  intro i x h
  rw [rn] at h ⊢
  split at h
  ·
   simp at h
  ·
   rename_i he
   obtain ⟨c, hc, hb⟩ := bt_get s (a + i) (by omega)
   have hc8 := UInt8.toNat_lt c
   split at h
   ·
    simp at h
   ·
    rename_i hq
    split at h
    ·
     rename_i hlt
     rw [if_neg he, if_neg hq, if_pos hlt]
     rw [hb] at hq hlt ⊢
     refine ⟨(c.toNat : Int), a + i + 1, by omega, by omega, by rw [Int.emod_eq_of_lt (by omega) hlt], rfl, by omega, by rw [nl, if_pos hlt]; rfl, ?_⟩
     rw [hc, nl, if_pos hlt]
     show _ = UInt8.ofNat (c.toNat : Int).toNat :: _
     rw [Int.toNat_natCast, UInt8.ofNat_toNat]
     rfl
    ·
     rename_i hlt
     rw [if_neg he, if_neg hq, if_neg hlt]
     obtain ⟨n, m, g0, g1, g2, g3, g4, g5, g6⟩ := ih (i + 1) _ h
     rw [g2, g3]
     rw [hb] at hq hlt ⊢
     have hn1 : n ≠ 0 := g1 (by omega)
     have hge : ¬ (((c.toNat : Int) % 128 + 128 * n) < 128) := by omega
     have hnl : nl (d + 1) ((c.toNat : Int) % 128 + 128 * n) = (c.toNat : Int) :: nl d n := by
      rw [nl, if_neg hge, show ((c.toNat : Int) % 128 + 128 * n) % 128 + 128 = (c.toNat : Int) by omega, show ((c.toNat : Int) % 128 + 128 * n) / 128 = n by omega]
     refine ⟨(c.toNat : Int) % 128 + 128 * n, m, by omega, by omega, ?_, rfl, g4, by rw [hnl, List.length_cons]; omega, ?_⟩
     ·
      have hpow : (128 : Int) ^ (i + 1) = 128 ^ i * 128 := Int.pow_succ _ _
      rw [hpow, Int.mul_comm (128 ^ i) 128, ← Int.mul_assoc, Int.mul_comm n 128, Int.add_assoc, ← Int.add_mul]
     ·
      rw [hc, hnl]
      show _ = UInt8.ofNat (c.toNat : Int).toNat :: _
      rw [Int.toNat_natCast, UInt8.ofNat_toNat]
      show c :: _ = c :: (by_ (nl d n) ++ _)
      rw [← g6, Nat.add_assoc]
theorem rd0_only (s : ByteArray) (a : Nat) (h : (rd0 s a).2.2 = 0) : ∃ m : Nat, (rd0 s a).2.1 = (m : Int) ∧ m ≤ s.size ∧ m = a + (num (rd0 s a).1).size ∧ s.data.toList.drop a = (num (rd0 s a).1).data.toList ++ s.data.toList.drop m := by
 obtain ⟨n, m, g0, g1, g2, g3, g4, g5, g6⟩ := rn_only s a 9 0 0 h
 have e1 : (rd0 s a).1 = n := by
  show (rn s a 10 0 0).1 = n
  rw [g2]; simp
 have hsz : (num n).size = (nl 9 n).length := strOfNums_size _
 rw [e1]
 refine ⟨m, g3, g4, by rw [hsz]; omega, ?_⟩
 rw [num_by]
 simpa using g6
theorem extract_list (s : ByteArray) (i j : Nat) : (s.extract i j).data.toList = (s.data.toList.drop i).take (j - i) := by
 rw [ByteArray.data_extract, Array.toList_extract, List.extract_eq_take_drop]
theorem txt_list (t : ByteArray) : (txt t).data.toList = (num (t.size : Int)).data.toList ++ t.data.toList := by
 unfold txt
 rw [ByteArray.data_append, Array.toList_append]
theorem drop_add (s : ByteArray) (a : Nat) (p q : List UInt8) (h : s.data.toList.drop a = p ++ q) : s.data.toList.drop (a + p.length) = q := by
 rw [← List.drop_drop, h, List.drop_left]
set_option maxRecDepth 100000 in
theorem rt_back (s t : ByteArray) (a : Nat) (rest : List UInt8) (ht : t.size ≤ 1073741824) (h : s.data.toList.drop a = (txt t).data.toList ++ rest) : rt s a = (t, ((a + (txt t).size : Nat) : Int), 0) := by
 rw [txt_list, List.append_assoc] at h
 have h1 := rd0_back s a (t.size : Int) _ (by omega) (by omega) h
 have h2 := drop_add s a _ _ h
 rw [len_eq] at h2
 have h3 : a + (num (t.size : Int)).size + t.size ≤ s.size := by
  have := congrArg List.length h2
  rw [List.length_drop, List.length_append, len_eq, len_eq] at this
  by_cases h0 : t.size = 0
  ·
   have h4 := congrArg List.length h
   rw [List.length_drop, List.length_append, len_eq, len_eq] at h4
   have h5 : 0 < (num (t.size : Int)).size := by
    have : (num (t.size : Int)).size = (nl 9 (t.size : Int)).length := strOfNums_size _
    rw [this, nl]
    split <;> simp
   omega
  ·
   omega
 have hts : (txt t).size = (num (t.size : Int)).size + t.size := ByteArray.size_append ..
 unfold rt
 rw [h1]
 rw [if_pos rfl, if_neg (by show ¬ ((t.size : Int) > (s.size : Int) - ((a + (num (t.size : Int)).size : Nat) : Int)); omega)]
 show (s.extract ((a + (num (t.size : Int)).size : Nat) : Int).toNat (((a + (num (t.size : Int)).size : Nat) : Int) + (t.size : Int)).toNat, ((a + (num (t.size : Int)).size : Nat) : Int) + (t.size : Int), (0 : Int)) = _
 have e2 : s.extract ((a + (num (t.size : Int)).size : Nat) : Int).toNat (((a + (num (t.size : Int)).size : Nat) : Int) + (t.size : Int)).toNat = t := by
  apply ByteArray.ext
  apply Array.ext'
  rw [extract_list, Int.toNat_natCast, h2, show (((a + (num (t.size : Int)).size : Nat) : Int) + (t.size : Int)).toNat - (a + (num (t.size : Int)).size) = t.data.toList.length by rw [len_eq]; omega, List.take_left]
 rw [e2, hts]
 congr 2
 omega
theorem rt_only (s : ByteArray) (a : Nat) (h : (rt s a).2.2 = 0) : ∃ m : Nat, (rt s a).2.1 = (m : Int) ∧ m ≤ s.size ∧ s.data.toList.drop a = (txt (rt s a).1).data.toList ++ s.data.toList.drop m := by
 unfold rt at h ⊢
 by_cases h0 : (rd0 s a).2.2 = 0
 ·
  rw [if_pos h0] at h ⊢
  obtain ⟨m, g1, g2, g3, g4⟩ := rd0_only s a h0
  have hsp := rd0_spec s a h0
  rw [g1] at h ⊢
  by_cases hm : (rd0 s a).1 > (s.size : Int) - (m : Int)
  ·
   rw [if_pos hm] at h; simp at h
  ·
   rw [if_neg hm] at h ⊢
   have hz : (s.extract (m : Int).toNat ((m : Int) + (rd0 s a).1).toNat).data.toList = (s.data.toList.drop m).take (rd0 s a).1.toNat := by
    rw [extract_list, Int.toNat_natCast]
    congr 1
    omega
   have hsz : (((s.extract (m : Int).toNat ((m : Int) + (rd0 s a).1).toNat).size : Nat) : Int) = (rd0 s a).1 := by
    have := congrArg List.length hz
    rw [len_eq, List.length_take, List.length_drop, len_eq] at this
    omega
   refine ⟨m + (rd0 s a).1.toNat, by show (m : Int) + (rd0 s a).1 = _; omega, by omega, ?_⟩
   show _ = (txt (s.extract (m : Int).toNat ((m : Int) + (rd0 s a).1).toNat)).data.toList ++ _
   rw [txt_list, hsz, hz, g4, List.append_assoc]
   congr 1
   rw [← List.drop_drop, List.take_append_drop]
 ·
  rw [if_neg h0] at h
  exact absurd h h0
theorem xt_back (s t : ByteArray) (a : Nat) (most : Int) (rest : List UInt8) (ht : t.size ≤ 1073741824) (hm : (t.size : Int) ≤ most) (h : s.data.toList.drop a = (txt t).data.toList ++ rest) : xt s a 0 most = (t, ((a + (txt t).size : Nat) : Int), 0) := by
 unfold xt
 rw [rt_back s t a rest ht h, if_pos rfl, if_pos rfl, if_neg (by show ¬ ((t.size : Int) > most); omega)]
theorem xn_back (s : ByteArray) (a : Nat) (n most : Int) (rest : List UInt8) (h0 : 0 ≤ n) (h1 : n ≤ 18446744073709551615) (hm : n ≤ most) (h : s.data.toList.drop a = (num n).data.toList ++ rest) : xn s a 0 most = (n, ((a + (num n).size : Nat) : Int), 0) := by
 unfold xn
 rw [rd0_back s a n rest h0 h1 h, if_pos rfl, if_pos rfl, if_neg (by show ¬ (n > most); omega)]
theorem size_le (s : ByteArray) (a : Nat) (p q : List UInt8) (hp : 0 < p.length) (h : s.data.toList.drop a = p ++ q) : a + p.length ≤ s.size := by
 have := congrArg List.length h
 rw [List.length_drop, List.length_append, len_eq] at this
 omega
theorem num_pos (n : Int) : 0 < (num n).data.toList.length := by
 rw [len_eq, show (num n).size = (nl 9 n).length from strOfNums_size _, nl]
 split <;> simp
theorem txt_pos (t : ByteArray) : 0 < (txt t).data.toList.length := by
 rw [txt_list, List.length_append]
 have := num_pos (t.size : Int)
 omega
theorem xn_e (s : ByteArray) (a : Nat) (e most : Int) (h : (xn s a e most).2.2 = 0) : e = 0 ∧ ∃ m : Nat, (xn s a e most).2.1 = (m : Int) ∧ m ≤ s.size ∧ s.data.toList.drop a = (num (xn s a e most).1).data.toList ++ s.data.toList.drop m := by
 unfold xn at h ⊢
 by_cases he : e = 0
 ·
  rw [if_pos he] at h ⊢
  by_cases h0 : (rd0 s a).2.2 = 0
  ·
   rw [if_pos h0] at h ⊢
   by_cases hm : (rd0 s a).1 > most
   ·
    rw [if_pos hm] at h; simp at h
   ·
    rw [if_neg hm]
    obtain ⟨m, g1, g2, g3, g4⟩ := rd0_only s a h0
    exact ⟨he, m, g1, g2, g4⟩
  ·
   rw [if_neg h0] at h; exact absurd h h0
 ·
  rw [if_neg he] at h; exact absurd h he
theorem xt_e (s : ByteArray) (a : Nat) (e most : Int) (h : (xt s a e most).2.2 = 0) : e = 0 ∧ ∃ m : Nat, (xt s a e most).2.1 = (m : Int) ∧ m ≤ s.size ∧ s.data.toList.drop a = (txt (xt s a e most).1).data.toList ++ s.data.toList.drop m := by
 unfold xt at h ⊢
 by_cases he : e = 0
 ·
  rw [if_pos he] at h ⊢
  by_cases h0 : (rt s a).2.2 = 0
  ·
   rw [if_pos h0] at h ⊢
   by_cases hm : ((rt s a).1.size : Int) > most
   ·
    rw [if_pos hm] at h; simp at h
   ·
    rw [if_neg hm]
    obtain ⟨m, g1, g2, g4⟩ := rt_only s a h0
    exact ⟨he, m, g1, g2, g4⟩
  ·
   rw [if_neg h0] at h; exact absurd h h0
 ·
  rw [if_neg he] at h; exact absurd h he
end Go.Proofs.YtdidopoalmkhlaaDoor.Pure
end
section
namespace Go.Proofs.YtdidopoalmkhlaaDoor.Pure
open Go.RowKit Go.Proofs.YtdidopoalmkhlaaDoor.Ot Go.Proofs.YtdidopoalmkhlaaDoorW.PrintWords Go.Proofs.YtdidopoalmkhlaaDoorW.PrintLast Go.Proofs.YtdidopoalmkhlaaDoorW.PrintMore
set_option linter.unusedVariables false
set_option linter.unusedSimpArgs false
set_option maxRecDepth 100000
abbrev Piece := S82
abbrev Pick := S62
def dig (s : ByteArray) : ByteArray := Sha.ofB (Sha.hexL (Sha.ofB (Sha.sha (Sha.tagB (BitVec.ofInt 8 67) [s]))).data.toList)
theorem sum_size (ss : List ByteArray) : (Sha.ofB (Sha.sha (Sha.tagB (BitVec.ofInt 8 67) ss))).size = 32 := by
 rw [Sha.ofB_size, Sha.sha, Sha.out_length]
theorem dig_size (s : ByteArray) : (dig s).size = 64 := by
 unfold dig
 rw [Sha.ofB_size, Sha.two_length, len_eq, sum_size]
theorem tag_one (s : ByteArray) : (Sha.tagB (BitVec.ofInt 8 67) [s]).length = 9 + s.size := by
 unfold Sha.tagB
 rw [List.length_append, List.flatMap_cons, List.length_append, Sha.partB_length, List.flatMap_nil]
 simp only [List.length_cons, List.length_nil]
 omega
theorem dig_tag (s : ByteArray) (h : s.size ≤ 1073741824) : digest_Tagged.f 67 [s] = some (Sha.ofB (Sha.sha (Sha.tagB (BitVec.ofInt 8 67) [s]))) := by
 show Sha.tagF 67 [s] = _
 unfold Sha.tagF
 rw [if_pos ⟨by decide, by decide, by rw [tag_one]; omega⟩]
theorem dig_hex (s : ByteArray) : digest_Hex.f (Sha.ofB (Sha.sha (Sha.tagB (BitVec.ofInt 8 67) [s]))) = some (dig s) := by
 show Sha.hexF _ = _
 unfold Sha.hexF
 rw [if_pos (by rw [sum_size]; decide)]
 rfl
def B0 : ByteArray := ⟨#[]⟩
def B1 : ByteArray := ⟨#[111, 110, 101]⟩
def B2 : ByteArray := ⟨#[1, 0, 3, 111, 110, 101]⟩
def B3 : ByteArray := ⟨#[116]⟩
theorem aw_chk1 : cmd_Check.f 200 1 (⟨#[]⟩ : ByteArray) (⟨#[111, 110, 101]⟩ : ByteArray) (⟨#[]⟩ : ByteArray) 0 0 (⟨#[]⟩ : ByteArray) ([] : List Piece) ([] : List Pick) = some 0 := by kernel_rfl
theorem aw_chk2 : cmd_Check.f 200 1 (⟨#[116]⟩ : ByteArray) (⟨#[111, 110, 101]⟩ : ByteArray) (⟨#[]⟩ : ByteArray) 0 0 (⟨#[]⟩ : ByteArray) ([] : List Piece) ([] : List Pick) = some 0 := by kernel_rfl
theorem aw_told : cmd_told.f 200 1 (⟨#[]⟩ : ByteArray) (⟨#[111, 110, 101]⟩ : ByteArray) (⟨#[]⟩ : ByteArray) 0 0 (⟨#[]⟩ : ByteArray) ([] : List Piece) ([] : List Pick) = some B2 := by kernel_rfl
theorem aw_dec : cmd_Decode.f 200 B2 = some (1, B0, B1, B0, 0, 0, B0, ([] : List Piece), ([] : List Pick), 0) := by kernel_rfl
theorem awake_true (k : Nat) (hk : 200 ≤ k) : stowagelaw16_awake.f k = some true := by
 have h1 := up_to (f := fun k => cmd_Check.f k 1 (⟨#[]⟩ : ByteArray) (⟨#[111, 110, 101]⟩ : ByteArray) (⟨#[]⟩ : ByteArray) 0 0 (⟨#[]⟩ : ByteArray) ([] : List Piece) ([] : List Pick)) (fun k => cmd_Check.mono _ _ _ _ _ _ _ _ _ k) aw_chk1 hk
 have h2 := up_to (f := fun k => cmd_Check.f k 1 (⟨#[116]⟩ : ByteArray) (⟨#[111, 110, 101]⟩ : ByteArray) (⟨#[]⟩ : ByteArray) 0 0 (⟨#[]⟩ : ByteArray) ([] : List Piece) ([] : List Pick)) (fun k => cmd_Check.mono _ _ _ _ _ _ _ _ _ k) aw_chk2 hk
 have h3 := up_to (f := fun k => cmd_told.f k 1 (⟨#[]⟩ : ByteArray) (⟨#[111, 110, 101]⟩ : ByteArray) (⟨#[]⟩ : ByteArray) 0 0 (⟨#[]⟩ : ByteArray) ([] : List Piece) ([] : List Pick)) (fun k => cmd_told.mono _ _ _ _ _ _ _ _ _ k) aw_told hk
 have h4 := up_to (f := fun k => cmd_Decode.f k B2) (fun k => cmd_Decode.mono _ k) aw_dec hk
 have h5 := dig_tag B2 (by decide +kernel)
 have h6 := dig_hex B2
 unfold stowagelaw16_awake.f cmd_Encode.f cmd_Digest.f
 simp only [h1, h2, h3, h4, h5, h6, Option.bind_some, if_true]
 rw [if_pos (by kernel_rfl), if_pos (by kernel_rfl)]
 have h7 : ((((dig B2).size : Nat) : Int) == 64) = true := by rw [dig_size]; rfl
 rw [h7]
end Go.Proofs.YtdidopoalmkhlaaDoor.Pure
end
