/- Merged of several texts of this session's by merge.py. -/
import Derived.Test.YtdidopoalmkhlaaDoorMo3
import Derived.Test.YtdidopoalmkhlaaDoorMo6
import Derived.IntWalk
import Derived.Laws.Bits64b
section
namespace Go.Proofs.YtdidopoalmkhlaaDoor.Oo
open Go.RowKit Go.Proofs.YtdidopoalmkhlaaDoorW.PrintWords Go.Proofs.YtdidopoalmkhlaaDoorW.PrintLast Go.Proofs.YtdidopoalmkhlaaDoorW.PrintMore
attribute [local go_sem] max2_int min2_int max_two min_two max_three min_three max_four min_four
set_option linter.unusedVariables false
set_option linter.unusedSimpArgs false
def stowagelaw16_awake.f (k : Nat)  : Option (Bool) := (cmd_Encode.f k 1 (⟨#[]⟩ : ByteArray) (⟨#[111, 110, 101]⟩ : ByteArray) (⟨#[]⟩ : ByteArray) 0 0 (⟨#[]⟩ : ByteArray) ([] : List (S82)) ([] : List (S62))).bind fun bt196 => ((cmd_Decode.f k bt196.1).bind fun bt198 => ((cmd_Digest.f k 1 (⟨#[]⟩ : ByteArray) (⟨#[111, 110, 101]⟩ : ByteArray) (⟨#[]⟩ : ByteArray) 0 0 (⟨#[]⟩ : ByteArray) ([] : List (S82)) ([] : List (S62))).bind fun bt213 => ((cmd_Digest.f k 1 (⟨#[116]⟩ : ByteArray) (⟨#[111, 110, 101]⟩ : ByteArray) (⟨#[]⟩ : ByteArray) 0 0 (⟨#[]⟩ : ByteArray) ([] : List (S82)) ([] : List (S62))).bind fun bt215 => (if bt196.2 = 0 then (if bt198.2.2.2.2.2.2.2.2.2 = 0 then (if bt196.1.toList = ([1, 0, 3, 111, 110, 101] : List UInt8) then (if bt198.2.2.1.toList = ([111, 110, 101] : List UInt8) then (if bt213.2 = 0 then (if bt215.2 = 0 then (if bt213.1.toList = bt215.1.toList then (some ((bt213.1.size : Int) == 64)) else (some false)) else (some false)) else (some false)) else (some false)) else (some false)) else (some false)) else (some false)))))
theorem stowagelaw16_awake.mono : ∀ k, LeO (stowagelaw16_awake.f k ) (stowagelaw16_awake.f (k + 1) ) := by
 intro  k
 unfold stowagelaw16_awake.f
 repeat' (with_reducible first | exact cmd_Decode.mono _ _ | exact cmd_Digest.mono _ _ _ _ _ _ _ _ _ _ | exact cmd_Encode.mono _ _ _ _ _ _ _ _ _ _ | exact LeO.refl _ | exact LeO.none _ | refine LeO.ite ?_ ?_ | refine LeO.bind ?_ (fun _ => ?_))
theorem st9_ {W : World} {g : Nat} {t : TypeId} {a0 a1 a2 a3 a4 a5 a6 a7 a8 : Value} (hr : W.heap[g]? = some (.cells #[a0, a1, a2, a3, a4, a5, a6, a7, a8] t (0, 0))) (u0 u1 u2 u3 u4 u5 u6 u7 u8 : Value) {W' : World}
    (e : (((((((((W.setCell ⟨g, 0, none⟩ u0).setCell ⟨g, 1, none⟩ u1).setCell ⟨g, 2, none⟩ u2).setCell ⟨g, 3, none⟩ u3).setCell ⟨g, 4, none⟩ u4).setCell ⟨g, 5, none⟩ u5).setCell ⟨g, 6, none⟩ u6).setCell ⟨g, 7, none⟩ u7).setCell ⟨g, 8, none⟩ u8) = W') :
    W'.heap[g]? = some (.cells #[u0, u1, u2, u3, u4, u5, u6, u7, u8] t (0, 0)) ∧ (∀ w : World, Below w.heap.size w W → w.heap.size ≤ g → Below w.heap.size w W') ∧ (∀ h cs t1, h ≠ g → W.heap[h]? = some (.cells cs t1 (0, 0)) → W'.heap[h]? = some (.cells cs t1 (0, 0))) := by
  subst e
  have b0 := blk_put (cs' := #[u0, a1, a2, a3, a4, a5, a6, a7, a8]) hr 0 u0 rfl
  have b1 := blk_put (cs' := #[u0, u1, a2, a3, a4, a5, a6, a7, a8]) b0 1 u1 rfl
  have b2 := blk_put (cs' := #[u0, u1, u2, a3, a4, a5, a6, a7, a8]) b1 2 u2 rfl
  have b3 := blk_put (cs' := #[u0, u1, u2, u3, a4, a5, a6, a7, a8]) b2 3 u3 rfl
  have b4 := blk_put (cs' := #[u0, u1, u2, u3, u4, a5, a6, a7, a8]) b3 4 u4 rfl
  have b5 := blk_put (cs' := #[u0, u1, u2, u3, u4, u5, a6, a7, a8]) b4 5 u5 rfl
  have b6 := blk_put (cs' := #[u0, u1, u2, u3, u4, u5, u6, a7, a8]) b5 6 u6 rfl
  have b7 := blk_put (cs' := #[u0, u1, u2, u3, u4, u5, u6, u7, a8]) b6 7 u7 rfl
  have b8 := blk_put (cs' := #[u0, u1, u2, u3, u4, u5, u6, u7, u8]) b7 8 u8 rfl
  refine ⟨b8, ?_, ?_⟩
  · exact fun w hb hl => below_set (below_set (below_set (below_set (below_set (below_set (below_set (below_set (below_set hb hl) hl) hl) hl) hl) hl) hl) hl) hl
  · exact fun h cs t1 hn ho => blk_far (blk_far (blk_far (blk_far (blk_far (blk_far (blk_far (blk_far (blk_far ho hn _) hn _) hn _) hn _) hn _) hn _) hn _) hn _) hn _
theorem c9_ {W : World} {g : Nat} {t : TypeId} {a0 a1 a2 a3 a4 a5 a6 a7 a8 : Value} (h : W.heap[g]? = some (.cells #[a0, a1, a2, a3, a4, a5, a6, a7, a8] t (0, 0))) : W.cell? ⟨g, 0, none⟩ = some a0 ∧ W.cell? ⟨g, 1, none⟩ = some a1 ∧ W.cell? ⟨g, 2, none⟩ = some a2 ∧ W.cell? ⟨g, 3, none⟩ = some a3 ∧ W.cell? ⟨g, 4, none⟩ = some a4 ∧ W.cell? ⟨g, 5, none⟩ = some a5 ∧ W.cell? ⟨g, 6, none⟩ = some a6 ∧ W.cell? ⟨g, 7, none⟩ = some a7 ∧ W.cell? ⟨g, 8, none⟩ = some a8 := by
  exact ⟨(blk_cell h 0).trans rfl, (blk_cell h 1).trans rfl, (blk_cell h 2).trans rfl, (blk_cell h 3).trans rfl, (blk_cell h 4).trans rfl, (blk_cell h 5).trans rfl, (blk_cell h 6).trans rfl, (blk_cell h 7).trans rfl, (blk_cell h 8).trans rfl⟩
theorem f9_ {W : World} {g : Nat} {t : TypeId} {CS : Array Value} (h : W.heap[g]? = some (.cells CS t (0, 0))) : W.frozen? ⟨g, 0, none⟩ = false ∧ W.frozen? ⟨g, 1, none⟩ = false ∧ W.frozen? ⟨g, 2, none⟩ = false ∧ W.frozen? ⟨g, 3, none⟩ = false ∧ W.frozen? ⟨g, 4, none⟩ = false ∧ W.frozen? ⟨g, 5, none⟩ = false ∧ W.frozen? ⟨g, 6, none⟩ = false ∧ W.frozen? ⟨g, 7, none⟩ = false ∧ W.frozen? ⟨g, 8, none⟩ = false :=
  ⟨blk_frozen h 0, blk_frozen h 1, blk_frozen h 2, blk_frozen h 3, blk_frozen h 4, blk_frozen h 5, blk_frozen h 6, blk_frozen h 7, blk_frozen h 8⟩
set_option maxHeartbeats 8000000 in
set_option maxRecDepth 100000 in
theorem stowagelaw16_awake.calls (k : Nat)  (r : Bool) (w : World) (h : stowagelaw16_awake.f k  = some r) (hG : GG w) :
    Calls Tryd.prog 13 #[] w fun e w' => e = .returned (.bool r) ∧ Below w.heap.size w w' := by
 have HG := am hG
 clear hG
 have hu25 := Tryd.underlying25
 have HB := am (Below.refl w.heap.size w)
 have H := h
 clear h
 unfold stowagelaw16_awake.f at H
 replace H := obE H
 obtain ⟨⟨t196, t197⟩, A1, H⟩ := H
 try dsimp only at H
 replace H := obE H
 obtain ⟨⟨t198, t199, t200, t201, t202, t203, t204, t205, t208, t211⟩, A2, H⟩ := H
 try dsimp only at H
 replace H := obE H
 obtain ⟨⟨t213, t214⟩, A3, H⟩ := H
 try dsimp only at H
 replace H := obE H
 obtain ⟨⟨t215, t216⟩, A4, H⟩ := H
 try dsimp only at H
 replace H := am H
 go_enter Tryd.func13, Tryd.ntmps13
 go_upto_region 2 with (first | ((with_reducible refine gate_dst (N := 1) rfl ?_); (try (refine gate_guard (by rfl) ?_; dsimp only)); refine bx 1 #[.int .i64 0, .string (⟨#[]⟩ : ByteArray), .string (⟨#[]⟩ : ByteArray), .string (⟨#[]⟩ : ByteArray), .int .i64 0, .int .i64 0, .string (⟨#[]⟩ : ByteArray), .slice none 0 0, .slice none 0 0] 25 ?_; intro gc hg w1 hbox hb; have BKgc := am (hbox); have GEgc := am ((by rw [hg]; exact HB.out.size : w.heap.size ≤ gc)); replace HB := am (below_step HB.out hb); clear hb hbox hg; obtain ⟨z0, z1, z2, z3, z4, z5, z6, z7, z8⟩ := c9_ BKgc.out; obtain ⟨y0, y1, y2, y3, y4, y5, y6, y7, y8⟩ := f9_ BKgc.out))
 generalize hW : ((((((((w1.setCell ⟨gc, 0, none⟩ (.int .i64 1)).setCell ⟨gc, 1, none⟩ (.string (⟨#[]⟩ : ByteArray))).setCell ⟨gc, 2, none⟩ (.string (⟨#[111, 110, 101]⟩ : ByteArray))).setCell ⟨gc, 3, none⟩ (.string (⟨#[]⟩ : ByteArray))).setCell ⟨gc, 4, none⟩ (.int .i64 0)).setCell ⟨gc, 5, none⟩ (.int .i64 0)).setCell ⟨gc, 6, none⟩ (.string (⟨#[]⟩ : ByteArray))).setCell ⟨gc, 7, none⟩ (.slice none 0 0)).setCell ⟨gc, 8, none⟩ (.slice none 0 0) = W
 obtain ⟨q1, q2, -⟩ := st9_ BKgc.out _ _ _ _ _ _ _ _ _ hW
 replace BKgc := am q1
 replace HB := am (q2 _ HB.out GEgc.out)
 clear hW q1 q2 z0 z1 z2 z3 z4 z5 z6 z7 z8 y0 y1 y2 y3 y4 y5 y6 y7 y8 w1
 obtain ⟨z0, z1, z2, z3, z4, z5, z6, z7, z8⟩ := c9_ BKgc.out
 obtain ⟨y0, y1, y2, y3, y4, y5, y6, y7, y8⟩ := f9_ BKgc.out
 go_upto_region 4 with (first | (go_at_call 8; (refine (cmd_Encode.calls k 1 (⟨#[]⟩ : ByteArray) (⟨#[111, 110, 101]⟩ : ByteArray) (⟨#[]⟩ : ByteArray) 0 0 (⟨#[]⟩ : ByteArray) _ _ ([] : List (S82)) _ _ ([] : List (S62)) t196 t197 _ ?side1 ?side2 ?side3 ?side4 A1.out ?sideG).mono ?_); (case sideG => exact gg_below HG.out HB.out); (case side1 => exact Kd.C_nil _ _); (case side2 => exact Nat.le_refl _); (case side3 => exact Kd.C_nil _ _); (case side4 => exact Nat.le_refl _); rintro e w2 ⟨rfl, hb⟩; (try dsimp only); replace BKgc := am (blk_below BKgc.out hb); replace HB := am (below_step HB.out hb); clear hb z0 z1 z2 z3 z4 z5 z6 z7 z8 y0 y1 y2 y3 y4 y5 y6 y7 y8) | (go_at_call 16; (with_reducible refine (cmd_Decode.calls k t196 t198 t199 t200 t201 t202 t203 t204 t205 t208 t211 _ A2.out ?sideG).mono ?_); (case sideG => exact gg_below HG.out HB.out); rintro e w3 ⟨v206, v209, rfl, ho0, ho1, hb⟩; (try dsimp only); obtain ⟨Ao19, co19, rfl⟩ := Kd.R_slice ho0; obtain ⟨Ao20, co20, rfl⟩ := Kd.R_slice ho1; replace BKgc := am (blk_below BKgc.out hb); replace HB := am (below_step HB.out hb); clear hb ho0 ho1) | ((with_reducible refine gate_dst (N := 4) rfl ?_); (try (refine gate_guard (by rfl) ?_; dsimp only)); refine bx 4 #[.int .i64 0, .string (⟨#[]⟩ : ByteArray), .string (⟨#[]⟩ : ByteArray), .string (⟨#[]⟩ : ByteArray), .int .i64 0, .int .i64 0, .string (⟨#[]⟩ : ByteArray), .slice none 0 0, .slice none 0 0] 25 ?_; intro gd hg w4 hbox hb; have BKgd := am (hbox); have GEgd := am ((by rw [hg]; exact HB.out.size : w.heap.size ≤ gd)); have NE := am ((by rw [hg]; exact Nat.ne_of_lt (blk_lt BKgc.out) : gc ≠ gd)); replace BKgc := am (blk_below BKgc.out hb); replace HB := am (below_step HB.out hb); clear hb hbox hg; obtain ⟨z0, z1, z2, z3, z4, z5, z6, z7, z8⟩ := c9_ BKgd.out; obtain ⟨y0, y1, y2, y3, y4, y5, y6, y7, y8⟩ := f9_ BKgd.out))
 generalize hW : ((((((((w4.setCell ⟨gd, 0, none⟩ (.int .i64 t198)).setCell ⟨gd, 1, none⟩ (.string t199)).setCell ⟨gd, 2, none⟩ (.string t200)).setCell ⟨gd, 3, none⟩ (.string t201)).setCell ⟨gd, 4, none⟩ (.int .i64 t202)).setCell ⟨gd, 5, none⟩ (.int .i64 t203)).setCell ⟨gd, 6, none⟩ (.string t204)).setCell ⟨gd, 7, none⟩ (.slice Ao19 t205.length co19)).setCell ⟨gd, 8, none⟩ (.slice Ao20 t208.length co20) = V
 obtain ⟨q1, q2, q3⟩ := st9_ BKgd.out _ _ _ _ _ _ _ _ _ hW
 replace BKgd := am q1
 replace HB := am (q2 _ HB.out GEgd.out)
 replace BKgc := am (q3 _ _ _ NE.out BKgc.out)
 clear hW q1 q2 q3 z0 z1 z2 z3 z4 z5 z6 z7 z8 y0 y1 y2 y3 y4 y5 y6 y7 y8 w4
 obtain ⟨z0, z1, z2, z3, z4, z5, z6, z7, z8⟩ := c9_ BKgc.out
 obtain ⟨y0, y1, y2, y3, y4, y5, y6, y7, y8⟩ := f9_ BKgc.out
 go_upto_region 5 with (first | (go_at_call 11; (refine (cmd_Digest.calls k 1 (⟨#[]⟩ : ByteArray) (⟨#[111, 110, 101]⟩ : ByteArray) (⟨#[]⟩ : ByteArray) 0 0 (⟨#[]⟩ : ByteArray) _ _ ([] : List (S82)) _ _ ([] : List (S62)) t213 t214 _ ?side1 ?side2 ?side3 ?side4 A3.out ?sideG).mono ?_); (case sideG => exact gg_below HG.out (by first | exact HB.out | exact below_set HB.out GEgc.out)); (case side1 => exact Kd.C_nil _ _); (case side2 => exact Nat.le_refl _); (case side3 => exact Kd.C_nil _ _); (case side4 => exact Nat.le_refl _); rintro e w5 ⟨rfl, hb⟩; (try dsimp only); replace BKgc := am (blk_below BKgc.out hb); replace BKgd := am (blk_below BKgd.out hb); replace HB := am (below_step HB.out hb); clear hb A3 z0 z1 z2 z3 z4 z5 z6 z7 z8 y0 y1 y2 y3 y4 y5 y6 y7 y8; obtain ⟨z0, z1, z2, z3, z4, z5, z6, z7, z8⟩ := c9_ BKgc.out; obtain ⟨y0, y1, y2, y3, y4, y5, y6, y7, y8⟩ := f9_ BKgc.out))
 go_upto_region 6 with (fail)
 generalize hW : w5.setCell ⟨gc, 1, none⟩ (.string (⟨#[116]⟩ : ByteArray)) = V2
 replace HB := am (hW ▸ below_set HB.out GEgc.out)
 replace BKgd := am (hW ▸ blk_far BKgd.out (Ne.symm NE.out) _)
 replace BKgc := am (hW ▸ blk_put (cs' := #[.int .i64 1, .string (⟨#[116]⟩ : ByteArray), .string (⟨#[111, 110, 101]⟩ : ByteArray), .string (⟨#[]⟩ : ByteArray), .int .i64 0, .int .i64 0, .string (⟨#[]⟩ : ByteArray), .slice none 0 0, .slice none 0 0]) BKgc.out 1 _ rfl)
 clear hW z0 z1 z2 z3 z4 z5 z6 z7 z8 y0 y1 y2 y3 y4 y5 y6 y7 y8 w5
 obtain ⟨z0, z1, z2, z3, z4, z5, z6, z7, z8⟩ := c9_ BKgc.out
 obtain ⟨y0, y1, y2, y3, y4, y5, y6, y7, y8⟩ := f9_ BKgc.out
 go_upto_region 7 with (first | (go_at_call 11; (refine (cmd_Digest.calls k 1 (⟨#[116]⟩ : ByteArray) (⟨#[111, 110, 101]⟩ : ByteArray) (⟨#[]⟩ : ByteArray) 0 0 (⟨#[]⟩ : ByteArray) _ _ ([] : List (S82)) _ _ ([] : List (S62)) t215 t216 _ ?side1 ?side2 ?side3 ?side4 A4.out ?sideG).mono ?_); (case sideG => exact gg_below HG.out (by first | exact HB.out | exact below_set HB.out GEgc.out)); (case side1 => exact Kd.C_nil _ _); (case side2 => exact Nat.le_refl _); (case side3 => exact Kd.C_nil _ _); (case side4 => exact Nat.le_refl _); rintro e w6 ⟨rfl, hb⟩; (try dsimp only); replace BKgd := am (blk_below BKgd.out hb); replace HB := am (below_step HB.out hb); clear hb A4 BKgc z0 z1 z2 z3 z4 z5 z6 z7 z8 y0 y1 y2 y3 y4 y5 y6 y7 y8; obtain ⟨z0, z1, z2, z3, z4, z5, z6, z7, z8⟩ := c9_ BKgd.out))
 replace H := H.out
 by_cases c5 : t197 = 0
 ·
  rw [if_pos c5] at H
  have c5b0 := beq_iff_eq.mpr c5
  have c5b1 := bne_eq_false_iff_eq.mpr c5
  clear c5
  by_cases c6 : t211 = 0
  ·
   rw [if_pos c6] at H
   have c6b0 := beq_iff_eq.mpr c6
   have c6b1 := bne_eq_false_iff_eq.mpr c6
   clear c6
   by_cases c7 : t196.toList = ([1, 0, 3, 111, 110, 101] : List UInt8)
   ·
    rw [if_pos c7] at H
    have c7b0 := beq_iff_eq.mpr c7
    have c7b1 := bne_eq_false_iff_eq.mpr c7
    clear c7
    by_cases c8 : t200.toList = ([111, 110, 101] : List UInt8)
    ·
     rw [if_pos c8] at H
     have c8b0 := beq_iff_eq.mpr c8
     have c8b1 := bne_eq_false_iff_eq.mpr c8
     clear c8
     by_cases c9 : t214 = 0
     ·
      rw [if_pos c9] at H
      have c9b0 := beq_iff_eq.mpr c9
      have c9b1 := bne_eq_false_iff_eq.mpr c9
      clear c9
      by_cases c10 : t216 = 0
      ·
       rw [if_pos c10] at H
       have c10b0 := beq_iff_eq.mpr c10
       have c10b1 := bne_eq_false_iff_eq.mpr c10
       clear c10
       by_cases c11 : t213.toList = t215.toList
       ·
        rw [if_pos c11] at H
        have c11b0 := beq_iff_eq.mpr c11
        have c11b1 := bne_eq_false_iff_eq.mpr c11
        clear c11
        obtain rfl := Option.some.inj H
        go_wp2
        go_ret
        exact ⟨rf, HB.out⟩
       ·
        rw [if_neg c11] at H
        have c11b0 := beq_eq_false_iff_ne.mpr c11
        have c11b1 := bne_iff_ne.mpr c11
        clear c11
        obtain rfl := Option.some.inj H
        go_wp2
        go_ret
        exact ⟨rf, HB.out⟩
      ·
       rw [if_neg c10] at H
       have c10b0 := beq_eq_false_iff_ne.mpr c10
       have c10b1 := bne_iff_ne.mpr c10
       clear c10
       obtain rfl := Option.some.inj H
       go_wp2
       go_ret
       exact ⟨rf, HB.out⟩
     ·
      rw [if_neg c9] at H
      have c9b0 := beq_eq_false_iff_ne.mpr c9
      have c9b1 := bne_iff_ne.mpr c9
      clear c9
      obtain rfl := Option.some.inj H
      go_wp2
      go_ret
      exact ⟨rf, HB.out⟩
    ·
     rw [if_neg c8] at H
     have c8b0 := beq_eq_false_iff_ne.mpr c8
     have c8b1 := bne_iff_ne.mpr c8
     clear c8
     obtain rfl := Option.some.inj H
     go_wp2
     go_ret
     exact ⟨rf, HB.out⟩
   ·
    rw [if_neg c7] at H
    have c7b0 := beq_eq_false_iff_ne.mpr c7
    have c7b1 := bne_iff_ne.mpr c7
    clear c7
    obtain rfl := Option.some.inj H
    go_wp2
    go_ret
    exact ⟨rf, HB.out⟩
  ·
   rw [if_neg c6] at H
   have c6b0 := beq_eq_false_iff_ne.mpr c6
   have c6b1 := bne_iff_ne.mpr c6
   clear c6
   obtain rfl := Option.some.inj H
   go_wp2
   go_ret
   exact ⟨rf, HB.out⟩
 ·
  rw [if_neg c5] at H
  have c5b0 := beq_eq_false_iff_ne.mpr c5
  have c5b1 := bne_iff_ne.mpr c5
  clear c5
  obtain rfl := Option.some.inj H
  go_wp2
  go_ret
  exact ⟨rf, HB.out⟩
def cmd_EncodeOut.j0 : Nat → Bool → Int → Int → ByteArray → Option (ByteArray × Int)
 | 0, _, _, _, _ => none
 | k + 1, x27, x218000, x218001, x218002 => if x27 = true then (some ((⟨#[]⟩ : ByteArray), 1)) else ((octet_Number.f k (IntKind.u64.wrap (x218000))).bind fun t218 => ((octet_Number.f k (IntKind.u64.wrap (x218001))).bind fun t219 => (if t218.size + t219.size ≤ 9223372036854775807 then ((octet_Text.f k x218002).bind fun t220 => (if (t218 ++ t219).size + t220.size ≤ 9223372036854775807 then (some ((t218 ++ t219) ++ t220, 0)) else (none))) else (none))))
def cmd_EncodeOut.f (k : Nat) (a0_0 : Int) (a0_1 : Int) (a0_2 : ByteArray) : Option (ByteArray × Int) := if a0_0 < 0 then (cmd_EncodeOut.j0 k true a0_0 a0_1 a0_2) else (if a0_0 > 999 then (cmd_EncodeOut.j0 k true a0_0 a0_1 a0_2) else (if a0_1 < 0 then (cmd_EncodeOut.j0 k true a0_0 a0_1 a0_2) else (if a0_1 > 1099511627776 then (cmd_EncodeOut.j0 k true a0_0 a0_1 a0_2) else (cmd_EncodeOut.j0 k (decide ((a0_2.size : Int) > 64)) a0_0 a0_1 a0_2))))
theorem cmd_EncodeOut.mono_l : ∀ k, (∀ y0 y1 y2 y3, LeO (cmd_EncodeOut.j0 k y0 y1 y2 y3) (cmd_EncodeOut.j0 (k + 1) y0 y1 y2 y3))
 | 0 => fun _ _ _ _ r h => by simp [cmd_EncodeOut.j0] at h
 | k + 1 => by
  have ih0 := cmd_EncodeOut.mono_l k
  ·
   intro y0 y1 y2 y3
   unfold cmd_EncodeOut.j0
   repeat' (with_reducible first | exact ih0 _ _ _ _ | exact octet_Number.mono _ _ | exact octet_Text.mono _ _ | exact LeO.refl _ | exact LeO.none _ | refine LeO.ite ?_ ?_ | refine LeO.bind ?_ (fun _ => ?_))
theorem cmd_EncodeOut.mono : ∀ a0 a1 a2 k, LeO (cmd_EncodeOut.f k a0 a1 a2) (cmd_EncodeOut.f (k + 1) a0 a1 a2) := by
 intro a0 a1 a2 k
 have ih0 := cmd_EncodeOut.mono_l k
 unfold cmd_EncodeOut.f
 repeat' (with_reducible first | exact ih0 _ _ _ _ | exact octet_Number.mono _ _ | exact octet_Text.mono _ _ | exact LeO.refl _ | exact LeO.none _ | refine LeO.ite ?_ ?_ | refine LeO.bind ?_ (fun _ => ?_))
def cmd_EncodeOut.T3 : Bool × List (List Nat × List Nat) := (true, [([], []), ([0], [0]), ([1], [1]), ([2], [2]), ([], []), ([4], [4]), ([5], [5]), ([6, 3], [6]), ([3, 7], [3, 7]), ([], []), ([9], [9]), ([10, 7], [10]), ([8, 11], [8, 11]), ([12, 11, 0, 1, 2, 3, 4, 5, 6, 7, 8, 9, 10, 11, 12], [12]), ([13, 0, 1, 2, 3, 4, 5, 6, 7, 8, 9, 10, 11, 12, 13], [])])
def cmd_EncodeOut.B3 : List Nat := [0, 1, 3, 7, 0, 16, 48, 127, 255, 0, 512, 1791, 4095, 8191, 16383]
theorem cmd_EncodeOut.tab3 : rtab .any (opsOf Tryd.f19 3) = cmd_EncodeOut.T3 := by kernel_rfl
theorem cmd_EncodeOut.bits3 : waitsOk cmd_EncodeOut.T3.2 cmd_EncodeOut.B3 = true := by kernel_rfl
set_option maxHeartbeats 8000000 in
set_option maxRecDepth 100000 in
theorem cmd_EncodeOut.calls (k : Nat) (a0_0 : Int) (a0_1 : Int) (a0_2 : ByteArray) (r1 : ByteArray) (r2 : Int) (w : World) (h : cmd_EncodeOut.f k a0_0 a0_1 a0_2 = some (r1, r2)) :
  Calls Tryd.prog 19 #[.agg #[.int .i64 a0_0, .int .i64 a0_1, .string a0_2]] w fun e w' => e = .returned (.tuple #[.string r1, .int .i64 r2]) ∧ Below w.heap.size w w' := by
 have hu49 := Tryd.underlying49
 have HB := am (Below.refl w.heap.size w)
 have H := h
 clear h
 unfold cmd_EncodeOut.f at H
 have HC2 := am H
 clear H
 go_enter Tryd.func19, Tryd.ntmps19
 go_upto_region 1 with (first | ((with_reducible refine gate_dst (N := 1) rfl ?_); (try (refine gate_guard (by rfl) ?_; dsimp only)); refine bx 1 #[.int .i64 a0_0, .int .i64 a0_1, .string a0_2] 49 ?_; intro gb217 hg w3 hbox hb; have BK217 := am (hbox); have GW217 := gsz hg HB.out; have GE217 := gsz hg HB.out; replace HB := am (below_step (bw HB.out) hb); clear hb hbox hg))
 (try simp only [Act.put, List.setIfInBounds_toArray, List.set_cons_zero, List.set_cons_succ])
 go_cut [27] (fun v27 wc => ∃ (kq : Nat) (x27_1 : Bool), v27 = .bool x27_1 ∧ Aside0 (cmd_EncodeOut.j0 kq x27_1 a0_0 a0_1 a0_2 = some (r1, r2)) ∧ Aside0 (kq ≤ k) ∧ Aside0 (wc.heap[gb217]? = some (.cells #[.int .i64 a0_0, .int .i64 a0_1, .string a0_2] 49 (0, 0))) ∧ Aside0 (Below w.heap.size w wc))
 case first =>
  have H := HC2.out
  clear HC2
  replace H := iteD H
  rcases H with ⟨c4b0, H⟩ | ⟨c4b0, H⟩
  ·
   (first | rw [c4b0] | (simp only [i64_w, i32_w]; rw [c4b0]) | skip)
   have H' := am H
   clear H
   obtain ⟨hcz5_0, hcz5_1, hcz5_2, hfz5_0, hfz5_1, hfz5_2⟩ := cz3 BK217.out
   go_wp2
   go_meet
   case rel => exact ⟨_, (true), rs, H', ⟨om⟩, ⟨bk BK217.out⟩, ⟨bws HB.out⟩⟩
  ·
   (first | rw [c4b0] | (simp only [i64_w, i32_w]; rw [c4b0]) | skip)
   replace H := iteD H
   rcases H with ⟨c6b0, H⟩ | ⟨c6b0, H⟩
   ·
    have H' := am H
    clear H
    obtain ⟨hcz7_0, hcz7_1, hcz7_2, hfz7_0, hfz7_1, hfz7_2⟩ := cz3 BK217.out
    go_wp2
    go_meet
    case rel => exact ⟨_, (true), rs, H', ⟨om⟩, ⟨bk BK217.out⟩, ⟨bws HB.out⟩⟩
   ·
    replace H := iteD H
    rcases H with ⟨c8b0, H⟩ | ⟨c8b0, H⟩
    ·
     have H' := am H
     clear H
     obtain ⟨hcz9_0, hcz9_1, hcz9_2, hfz9_0, hfz9_1, hfz9_2⟩ := cz3 BK217.out
     go_wp2
     go_meet
     case rel => exact ⟨_, (true), rs, H', ⟨om⟩, ⟨bk BK217.out⟩, ⟨bws HB.out⟩⟩
    ·
     replace H := iteD H
     rcases H with ⟨c10b0, H⟩ | ⟨c10b0, H⟩
     ·
      have H' := am H
      clear H
      obtain ⟨hcz11_0, hcz11_1, hcz11_2, hfz11_0, hfz11_1, hfz11_2⟩ := cz3 BK217.out
      go_wp2
      go_meet
      case rel => exact ⟨_, (true), rs, H', ⟨om⟩, ⟨bk BK217.out⟩, ⟨bws HB.out⟩⟩
     ·
      have H' := am H
      clear H
      obtain ⟨hcz12_0, hcz12_1, hcz12_2, hfz12_0, hfz12_1, hfz12_2⟩ := cz3 BK217.out
      go_wp2
      go_meet
      case rel => exact ⟨_, (decide ((a0_2.size : Int) > 64)), rs, H', ⟨om⟩, ⟨bk BK217.out⟩, ⟨bws HB.out⟩⟩
 case rest =>
  clear HC2
  try clear c1
  try clear p2
  try clear c4
  try clear c4b0
  try clear c6
  try clear c6b0
  try clear c8
  try clear c8b0
  try clear c10
  try clear c10b0
  try clear hcz11_0
  try clear hcz11_1
  try clear hcz11_2
  try clear hcz12_0
  try clear hcz12_1
  try clear hcz12_2
  try clear hcz5_0
  try clear hcz5_1
  try clear hcz5_2
  try clear hcz7_0
  try clear hcz7_1
  try clear hcz7_2
  try clear hcz9_0
  try clear hcz9_1
  try clear hcz9_2
  try clear hfz11_0
  try clear hfz11_1
  try clear hfz11_2
  try clear hfz12_0
  try clear hfz12_1
  try clear hfz12_2
  try clear hfz5_0
  try clear hfz5_1
  try clear hfz5_2
  try clear hfz7_0
  try clear hfz7_1
  try clear hfz7_2
  try clear hfz9_0
  try clear hfz9_1
  try clear hfz9_2
  obtain ⟨kq, x27_1, rfl, HA, HJ1, BK217, HB⟩ := hcut
  cases kq with
  | zero => exact absurd HA.out (by simp [cmd_EncodeOut.j0])
  | succ kj1 =>
   have H := HA.out
   clear HA
   simp only [cmd_EncodeOut.j0] at H
   by_cases c13 : x27_1 = true
   ·
    subst c13
    rw [if_pos rfl] at H
    simp only [Option.some.injEq, Prod.mk.injEq] at H
    obtain ⟨rfl, rfl⟩ := H
    go_wp2
    go_ret2
    exact ⟨rf, bws HB.out⟩
   ·
    replace c13 := Bool.eq_false_iff.mpr c13
    subst c13
    rw [if_neg (show ¬ (false = true) by decide)] at H
    replace H := obE H
    obtain ⟨t218, A14, H⟩ := H
    replace H := obE H
    obtain ⟨t219, A15, H⟩ := H
    by_cases c16 : t218.size + t219.size ≤ 9223372036854775807
    ·
     rw [if_pos c16] at H
     have c16b0 := eq_true c16
     have c16b1 := decide_eq_true c16
     try have c16b2 : (9223372036854775807 < t218.size + t219.size) = False := eq_false (Nat.not_lt.2 c16)
     (try (have c16b3 := c16b2; simp only [ByteArray.size_append] at c16b3))
     replace H := obE H
     obtain ⟨t220, A17, H⟩ := H
     by_cases c18 : (t218 ++ t219).size + t220.size ≤ 9223372036854775807
     ·
      rw [if_pos c18] at H
      have c18b0 := eq_true c18
      have c18b1 := decide_eq_true c18
      try have c18b2 : (9223372036854775807 < (t218 ++ t219).size + t220.size) = False := eq_false (Nat.not_lt.2 c18)
      (try (have c18b3 := c18b2; simp only [ByteArray.size_append] at c18b3))
      simp only [Option.some.injEq, Prod.mk.injEq] at H
      obtain ⟨rfl, rfl⟩ := H
      try go_wp2
      replace BK217 := am (blk_drew BK217.out)
      replace HB := am (below_drew1 HB.out)
      refine start_ (n := 15) (S := fun w' => w'.cell? ⟨gb217, 0, none⟩ = some (.int .i64 a0_0) ∧ w'.cell? ⟨gb217, 1, none⟩ = some (.int .i64 a0_1) ∧ w'.cell? ⟨gb217, 2, none⟩ = some (.string a0_2)) (ds := []) #[false, false, false, false, false, false, false, false, false, false, false, false, false, false, false] (by kernel_rfl) rfl rfl ⟨(blk_cell BK217.out 0).trans rfl, (blk_cell BK217.out 1).trans rfl, (blk_cell BK217.out 2).trans rfl⟩ (fun hHeld => ?_); refine with_tabW cmd_EncodeOut.tab3 cmd_EncodeOut.bits3 (fun HT_ HW_ => ?_)
      generalize wc.drew = w19 at BK217 HB hHeld ⊢
      refine pu 0 (some 28) HT_.out ?_
      refine pu 4 (some 32) HT_.out ?_
      refine pu 9 (some 37) HT_.out ?_
      refine tk 1 (some 29) HT_.out HW_.out hHeld ?_
      refine pu 2 (some 30) HT_.out ?_
      refine tk 5 (some 33) HT_.out HW_.out hHeld ?_
      refine pu 6 (some 34) HT_.out ?_
      refine tk 10 (some 38) HT_.out HW_.out hHeld ?_
      refine one_ (i := 3) (N := some 31) #[true, true, true, true, true, true, true, false, false, true, true, false, false, false, false] rfl rfl (one_of HT_.out (by kernel_rfl)) (by decide) (fun K hK => ?_)
      refine goes_ Tryd.func57 (by kernel_rfl) rfl #[.int .u64 (IntKind.u64.wrap (a0_0))] (by rfl) rfl rfl gl ?_
      with_reducible refine (octet_Number.calls kj1 (IntKind.u64.wrap (a0_0)) t218 _ A14.out).mono ?_
      rintro e w20 ⟨rfl, hb⟩
      refine ⟨_, rfl, ?_⟩
      replace BK217 := bb BK217.out hb
      replace HB := am (below_step (bws HB.out) hb)
      (try clear hb)
      (try clear hb2)
      (try clear hk)
      (try clear hi)
      refine hK.out _ _ ⟨(blk_cell BK217.out 0).trans rfl, (blk_cell BK217.out 1).trans rfl, (blk_cell BK217.out 2).trans rfl⟩ (fun hHeld => ?_)
      clear hK K
      refine norm_ (a' := ?_) ?_ ?_
      rotate_left
      ·
       show Act.put _ (some 31) _ = _
       simp only [Act.put, List.setIfInBounds_toArray, List.set_cons_zero, List.set_cons_succ, i64_w, i32_w]
       rfl
      refine one_ (i := 7) (N := some 35) #[true, true, true, true, true, true, true, true, false, true, true, false, false, false, false] rfl rfl (one_of HT_.out (by kernel_rfl)) (by decide) (fun K hK => ?_)
      refine goes_ Tryd.func57 (by kernel_rfl) rfl #[.int .u64 (IntKind.u64.wrap (a0_1))] (by rfl) rfl rfl gl ?_
      with_reducible refine (octet_Number.calls kj1 (IntKind.u64.wrap (a0_1)) t219 _ A15.out).mono ?_
      rintro e w21 ⟨rfl, hb⟩
      refine ⟨_, rfl, ?_⟩
      replace BK217 := bb BK217.out hb
      replace HB := am (below_step (bws HB.out) hb)
      (try clear hb)
      (try clear hb2)
      (try clear hk)
      (try clear hi)
      refine hK.out _ _ ⟨(blk_cell BK217.out 0).trans rfl, (blk_cell BK217.out 1).trans rfl, (blk_cell BK217.out 2).trans rfl⟩ (fun hHeld => ?_)
      clear hK K
      refine norm_ (a' := ?_) ?_ ?_
      rotate_left
      ·
       show Act.put _ (some 35) _ = _
       simp only [Act.put, List.setIfInBounds_toArray, List.set_cons_zero, List.set_cons_succ, i64_w, i32_w]
       rfl
      refine pu 8 (some 36) HT_.out ?_
      refine one_ (i := 11) (N := some 39) #[true, true, true, true, true, true, true, true, true, true, true, true, false, false, false] rfl rfl (one_of HT_.out (by kernel_rfl)) (by decide) (fun K hK => ?_)
      refine goes_ Tryd.func58 (by kernel_rfl) rfl #[.string a0_2] (by rfl) rfl rfl gl ?_
      with_reducible refine (octet_Text.calls kj1 a0_2 t220 _ A17.out).mono ?_
      rintro e w22 ⟨rfl, hb⟩
      refine ⟨_, rfl, ?_⟩
      replace BK217 := bb BK217.out hb
      replace HB := am (below_step (bws HB.out) hb)
      (try clear hb)
      (try clear hb2)
      (try clear hk)
      (try clear hi)
      refine hK.out _ _ ⟨(blk_cell BK217.out 0).trans rfl, (blk_cell BK217.out 1).trans rfl, (blk_cell BK217.out 2).trans rfl⟩ (fun hHeld => ?_)
      clear hK K
      refine norm_ (a' := ?_) ?_ ?_
      rotate_left
      ·
       show Act.put _ (some 39) _ = _
       simp only [Act.put, List.setIfInBounds_toArray, List.set_cons_zero, List.set_cons_succ, i64_w, i32_w]
       rfl
      refine pu 12 (some 40) HT_.out ?_
      refine pu 13 (some 2) HT_.out ?_
      refine pu 14 (some 3) HT_.out ?_
      refine done_ (done_of HT_.out (by kernel_rfl)) ?_
      try go_wp2
      go_ret2
      exact ⟨rf, bws HB.out⟩
     ·
      rw [if_neg c18] at H
      exact absurd H (by simp)
    ·
     rw [if_neg c16] at H
     exact absurd H (by simp)
def stowageref01_Number.f : Nat → Int → Option (ByteArray)
 | 0, _ => none
 | k + 1, a0 => if a0 < 128 then (some (strOfNums (([(a0) % 256] : List Int)))) else ((some (([(IntKind.u64.wrap ((Int.tmod a0 128) + 128)) % 256] : List Int) : List Int)).bind fun y224 => ((stowageref01_Number.f k (IntKind.u64.wrap (Int.tdiv a0 128))).bind fun t227 => (if (strOfNums y224).size + t227.size ≤ 9223372036854775807 then (some ((strOfNums y224) ++ t227)) else (none))))
theorem stowageref01_Number.mono_l : ∀ k, (∀ y0, LeO (stowageref01_Number.f k y0) (stowageref01_Number.f (k + 1) y0))
 | 0 => fun _ r h => by simp [stowageref01_Number.f] at h
 | k + 1 => by
  have ih0 := stowageref01_Number.mono_l k
  ·
   intro y0
   unfold stowageref01_Number.f
   repeat' (with_reducible first | exact ih0 _ | exact LeO.refl _ | exact LeO.none _ | refine LeO.ite ?_ ?_ | refine LeO.bind ?_ (fun _ => ?_))
theorem stowageref01_Number.mono : ∀ a0 k, LeO (stowageref01_Number.f k a0) (stowageref01_Number.f (k + 1) a0) := by
 intro a0 k
 have ih0 := stowageref01_Number.mono_l k
 exact ih0 a0
def stowageref01_Number.T3 : Bool × List (List Nat × List Nat) := (true, [([], []), ([0], [0]), ([1], [1]), ([2], [2]), ([3], [3]), ([4], [4]), ([], []), ([6], [6]), ([7], [7]), ([5, 8], [5, 8]), ([9, 8, 0, 1, 2, 3, 4, 5, 6, 7, 8, 9], [9])])
def stowageref01_Number.B3 : List Nat := [0, 1, 3, 7, 15, 31, 0, 64, 192, 511, 1023]
theorem stowageref01_Number.tab3 : rtab .any (opsOf Tryd.f84 3) = stowageref01_Number.T3 := by kernel_rfl
theorem stowageref01_Number.bits3 : waitsOk stowageref01_Number.T3.2 stowageref01_Number.B3 = true := by kernel_rfl
set_option maxHeartbeats 8000000 in
set_option maxRecDepth 100000 in
theorem stowageref01_Number.calls (k : Nat) : ∀ (a0 : Int) (r : ByteArray) (w : World) (h : stowageref01_Number.f k a0 = some r),
  Calls Tryd.prog 84 #[.int .u64 a0] w fun e w' => e = .returned (.string r) ∧ Below w.heap.size w w' := by
 induction k using Nat.strongRecOn with
 | _ k ih =>
 intro a0 r w h
 cases k with
 | zero => exact absurd h (by simp [stowageref01_Number.f])
 | succ k =>
 simp only [stowageref01_Number.f] at h
 have HB := am (Below.refl w.heap.size w)
 have H : (if a0 < 128 then (some (strOfNums (([(a0) % 256] : List Int)))) else ((some (([(IntKind.u64.wrap ((Int.tmod a0 128) + 128)) % 256] : List Int) : List Int)).bind fun y224 => ((stowageref01_Number.f k (IntKind.u64.wrap (Int.tdiv a0 128))).bind fun t227 => (if (strOfNums y224).size + t227.size ≤ 9223372036854775807 then (some ((strOfNums y224) ++ t227)) else (none))))) = some r := h
 clear h
 replace H := iteD H
 rcases H with ⟨c2b0, H⟩ | ⟨c2b0, H⟩
 ·
  obtain ⟨y221, hy221⟩ : ∃ y_ : List Int, y_ = (([(a0) % 256] : List Int)) := ⟨_, rfl⟩
  replace H : (some (strOfNums y221)) = some r := by first | (rw [hy221]; with_reducible exact H) | (have H2_ := (Option.bind_some _ _).symm.trans H; rw [hy221]; with_reducible exact H2_) | (have H2_ := (Option.bind_some _ _).symm.trans H; with_reducible exact H2_) | with_reducible exact H | (rw [hy221]; exact H) | exact H
  have Ny221 := am hy221
  clear hy221
  obtain rfl := Option.some.inj H
  go_enter Tryd.func84, Tryd.ntmps84
  go_wp2_with (first | ((with_reducible refine gate_dst (N := 7) rfl ?_); refine Kd.R_lit (Kd.int .u8) _ 5 ?hg (N := 7) ?hd (xs := ([(a0) % 256] : List Int)) (inner := [.int .u8 ((a0) % 256)]) (ok := fun _ => True) (okp := fun _ => True) ?hr ?hp (fun _ hk => hk) trivial (Below.refl _ _) (Nat.le_refl _) (by simp) ?_; (case hd => rfl); (case hg => rfl); (case hr => first | (go_simp; done) | (go_simp; rfl)); (case hp => exact (Reps.one (show Kd.M (Kd.int .u8) _ _ _ ((a0) % 256) [.int .u8 ((a0) % 256)] from rfl) (Reps.none _ _))); intro v222 w3 ho4 hb hg_ hnew_; clear hg_ hnew_; (first | rw [← Ny221.out] at ho4 | (simp only [Int.reduceToNat] at ho4; rw [← Ny221.out] at ho4)); have HO223 := am (Kd.R_lower ho4 (below_size (bw HB.out))); replace HB := am (below_step (bw HB.out) hb); clear hb ho4; have hcv5 := own_string (P := Tryd.prog) Tryd.underlying101 Tryd.underlying5 Tryd.underlying9 (Kd.own_of_R HO223.out)))
  go_ret
  exact ⟨rf, bw HB.out⟩
 ·
  obtain ⟨y224, hy224⟩ : ∃ y_ : List Int, y_ = (([(IntKind.u64.wrap ((Int.tmod a0 128) + 128)) % 256] : List Int)) := ⟨_, rfl⟩
  replace H : ((stowageref01_Number.f k (IntKind.u64.wrap (Int.tdiv a0 128))).bind fun t227 => (if (strOfNums y224).size + t227.size ≤ 9223372036854775807 then (some ((strOfNums y224) ++ t227)) else (none))) = some r := by first | (rw [hy224]; with_reducible exact H) | (have H2_ := (Option.bind_some _ _).symm.trans H; rw [hy224]; with_reducible exact H2_) | (have H2_ := (Option.bind_some _ _).symm.trans H; with_reducible exact H2_) | with_reducible exact H | (rw [hy224]; exact H) | exact H
  have Ny224 := am hy224
  clear hy224
  replace H := obE H
  obtain ⟨t227, A6, H⟩ := H
  by_cases c7 : (strOfNums y224).size + t227.size ≤ 9223372036854775807
  ·
   rw [if_pos c7] at H
   have c7b0 := eq_true c7
   have c7b1 := decide_eq_true c7
   try have c7b2 : (9223372036854775807 < (strOfNums y224).size + t227.size) = False := eq_false (Nat.not_lt.2 c7)
   (try (have c7b3 := c7b2; simp only [ByteArray.size_append] at c7b3))
   obtain rfl := Option.some.inj H
   go_enter Tryd.func84, Tryd.ntmps84
   try go_wp2
   replace HB := am (below_drew1 HB.out)
   refine start_ (n := 11) (S := fun w' => True) (ds := []) #[false, false, false, false, false, false, false, false, false, false, false] (by kernel_rfl) rfl rfl trivial (fun hHeld => ?_); refine with_tabW stowageref01_Number.tab3 stowageref01_Number.bits3 (fun HT_ HW_ => ?_)
   generalize w.drew = w8 at HB hHeld ⊢
   refine pu 0 (some 9) HT_.out ?_
   refine pu 1 (some 10) HT_.out ?_
   refine pu 2 (some 11) HT_.out ?_
   refine pu 3 (some 12) HT_.out ?_
   refine pu 6 (some 15) HT_.out ?_
   refine pu 7 (some 16) HT_.out ?_
   refine join_ (σ := Value) 2 #[true, true, true, true, true, true, true, true, true, false, false] (fun s_ => [(13, s_), (14, .string (strOfNums y224)), (17, .string t227)]) (fun s_ w' => (Kd.R (Kd.int .u8) 5 w' w.heap.size (fun _ => True) s_ y224) ∧ (Below w.heap.size w w')) ?_ ?_
   rotate_left
   ·
    intro hCont
    refine two_ (i := 4) (j := 8) (Ni := some 13) (Nj := some 17) #[true, true, true, true, true, false, true, true, false, false, false] #[true, true, true, true, false, false, true, true, true, false, false] rfl rfl rfl rfl (two_of HT_.out (by kernel_rfl)) (by decide) (by decide) (fun K hK => ?_) (fun K hK => ?_)
    ·
     skip
     refine Kd.R_lit_step (Kd.int .u8) _ 5 ?hg (N := 13) ?hd (xs := ([(IntKind.u64.wrap ((Int.tmod a0 128) + 128)) % 256] : List Int)) (inner := [.int .u8 ((IntKind.u64.wrap ((Int.tmod a0 128) + 128)) % 256)]) (ok := fun _ => True) (okp := fun _ => True) ?hr ?hp (fun _ hk => hk) trivial (Below.refl _ _) (Nat.le_refl _) (by simp) ?_; (case hd => rfl); (case hg => rfl); (case hr => first | (go_simp; done) | (go_simp; rfl)); (case hp => exact (Reps.one (show Kd.M (Kd.int .u8) _ _ _ ((IntKind.u64.wrap ((Int.tmod a0 128) + 128)) % 256) [.int .u8 ((IntKind.u64.wrap ((Int.tmod a0 128) + 128)) % 256)] from rfl) (Reps.none _ _)))
     intro v225 w9 ho10 hb hg_ hnew_
     clear hg_ hnew_
     (first | rw [← Ny224.out] at ho10 | (simp only [Int.reduceToNat] at ho10; rw [← Ny224.out] at ho10))
     have HO226 := am (Kd.R_lower ho10 (below_size (bw HB.out)))
     replace HB := am (below_step (bw HB.out) hb)
     clear hb ho10
     refine hK.out _ _ trivial (fun hHeld => ?_)
     clear hK K
     refine norm_ (a' := ?_) ?_ ?_
     rotate_left
     ·
      show Act.put _ (some 13) _ = _
      simp only [Act.put, List.setIfInBounds_toArray, List.set_cons_zero, List.set_cons_succ, i64_w, i32_w]
      rfl
     refine two_ (i := 5) (j := 8) (Ni := some 14) (Nj := some 17) #[true, true, true, true, true, true, true, true, false, false, false] #[true, true, true, true, true, false, true, true, true, false, false] rfl rfl rfl rfl (two_of HT_.out (by kernel_rfl)) (by decide) (by decide) (fun K hK => ?_) (fun K hK => ?_)
     ·
      skip
      have hcv11 := own_string (P := Tryd.prog) Tryd.underlying101 Tryd.underlying5 Tryd.underlying9 (Kd.own_of_R HO226.out)
      refine value_ (w1 := ?_) (v := ?_) (by rfl) rfl ?_ ?_
      rotate_left 2
      ·
       go_simp
       constructor
       ·
        rfl
       ·
        rfl
      clear hcv11
      refine hK.out _ _ trivial (fun hHeld => ?_)
      clear hK K
      refine norm_ (a' := ?_) ?_ ?_
      rotate_left
      ·
       show Act.put _ (some 14) _ = _
       simp only [Act.put, List.setIfInBounds_toArray, List.set_cons_zero, List.set_cons_succ, i64_w, i32_w]
       rfl
      refine one_ (i := 8) (N := some 17) #[true, true, true, true, true, true, true, true, true, false, false] rfl rfl (one_of HT_.out (by kernel_rfl)) (by decide) (fun K hK => ?_)
      refine goes_ Tryd.func84 (by kernel_rfl) rfl #[.int .u64 (IntKind.u64.wrap (Int.tdiv a0 128))] (by rfl) rfl rfl gl ?_
      with_reducible refine (ih k (by omega) (IntKind.u64.wrap (Int.tdiv a0 128)) t227 _ A6.out).mono ?_
      rintro e w12 ⟨rfl, hb⟩
      refine ⟨_, rfl, ?_⟩
      replace HO226 := am (Kd.R_below (kR HO226.out) hb)
      replace HB := am (below_step (bw HB.out) hb)
      (try clear hb)
      (try clear hb2)
      (try clear hk)
      (try clear hi)
      refine hK.out _ _ trivial (fun hHeld => ?_)
      clear hK K
      refine norm_ (a' := ?_) ?_ ?_
      rotate_left
      ·
       show Act.put _ (some 17) _ = _
       simp only [Act.put, List.setIfInBounds_toArray, List.set_cons_zero, List.set_cons_succ, i64_w, i32_w]
       rfl
      exact norm_ (by simp only [putAll, Act.put, List.setIfInBounds_toArray, List.set_cons_zero, List.set_cons_succ]) (hCont (v225) _ ⟨(kR HO226.out), (bw HB.out)⟩)
     ·
      skip
      refine goes_ Tryd.func84 (by kernel_rfl) rfl #[.int .u64 (IntKind.u64.wrap (Int.tdiv a0 128))] (by rfl) rfl rfl gl ?_
      with_reducible refine (ih k (by omega) (IntKind.u64.wrap (Int.tdiv a0 128)) t227 _ A6.out).mono ?_
      rintro e w11 ⟨rfl, hb⟩
      refine ⟨_, rfl, ?_⟩
      replace HO226 := am (Kd.R_below (kR HO226.out) hb)
      replace HB := am (below_step (bw HB.out) hb)
      (try clear hb)
      (try clear hb2)
      (try clear hk)
      (try clear hi)
      refine hK.out _ _ trivial (fun hHeld => ?_)
      clear hK K
      refine norm_ (a' := ?_) ?_ ?_
      rotate_left
      ·
       show Act.put _ (some 17) _ = _
       simp only [Act.put, List.setIfInBounds_toArray, List.set_cons_zero, List.set_cons_succ, i64_w, i32_w]
       rfl
      refine one_ (i := 5) (N := some 14) #[true, true, true, true, true, true, true, true, true, false, false] rfl rfl (one_of HT_.out (by kernel_rfl)) (by decide) (fun K hK => ?_)
      have hcv12 := own_string (P := Tryd.prog) Tryd.underlying101 Tryd.underlying5 Tryd.underlying9 (Kd.own_of_R HO226.out)
      refine value_ (w1 := ?_) (v := ?_) (by rfl) rfl ?_ ?_
      rotate_left 2
      ·
       go_simp
       constructor
       ·
        rfl
       ·
        rfl
      clear hcv12
      refine hK.out _ _ trivial (fun hHeld => ?_)
      clear hK K
      refine norm_ (a' := ?_) ?_ ?_
      rotate_left
      ·
       show Act.put _ (some 14) _ = _
       simp only [Act.put, List.setIfInBounds_toArray, List.set_cons_zero, List.set_cons_succ, i64_w, i32_w]
       rfl
      exact norm_ (by simp only [putAll, Act.put, List.setIfInBounds_toArray, List.set_cons_zero, List.set_cons_succ]) (hCont (v225) _ ⟨(kR HO226.out), (bw HB.out)⟩)
    ·
     skip
     refine goes_ Tryd.func84 (by kernel_rfl) rfl #[.int .u64 (IntKind.u64.wrap (Int.tdiv a0 128))] (by rfl) rfl rfl gl ?_
     with_reducible refine (ih k (by omega) (IntKind.u64.wrap (Int.tdiv a0 128)) t227 _ A6.out).mono ?_
     rintro e w9 ⟨rfl, hb⟩
     refine ⟨_, rfl, ?_⟩
     replace HB := am (below_step (bw HB.out) hb)
     (try clear hb)
     (try clear hb2)
     (try clear hk)
     (try clear hi)
     refine hK.out _ _ trivial (fun hHeld => ?_)
     clear hK K
     refine norm_ (a' := ?_) ?_ ?_
     rotate_left
     ·
      show Act.put _ (some 17) _ = _
      simp only [Act.put, List.setIfInBounds_toArray, List.set_cons_zero, List.set_cons_succ, i64_w, i32_w]
      rfl
     refine one_ (i := 4) (N := some 13) #[true, true, true, true, true, false, true, true, true, false, false] rfl rfl (one_of HT_.out (by kernel_rfl)) (by decide) (fun K hK => ?_)
     refine Kd.R_lit_step (Kd.int .u8) _ 5 ?hg (N := 13) ?hd (xs := ([(IntKind.u64.wrap ((Int.tmod a0 128) + 128)) % 256] : List Int)) (inner := [.int .u8 ((IntKind.u64.wrap ((Int.tmod a0 128) + 128)) % 256)]) (ok := fun _ => True) (okp := fun _ => True) ?hr ?hp (fun _ hk => hk) trivial (Below.refl _ _) (Nat.le_refl _) (by simp) ?_; (case hd => rfl); (case hg => rfl); (case hr => first | (go_simp; done) | (go_simp; rfl)); (case hp => exact (Reps.one (show Kd.M (Kd.int .u8) _ _ _ ((IntKind.u64.wrap ((Int.tmod a0 128) + 128)) % 256) [.int .u8 ((IntKind.u64.wrap ((Int.tmod a0 128) + 128)) % 256)] from rfl) (Reps.none _ _)))
     intro v225 w10 ho11 hb hg_ hnew_
     clear hg_ hnew_
     (first | rw [← Ny224.out] at ho11 | (simp only [Int.reduceToNat] at ho11; rw [← Ny224.out] at ho11))
     have HO226 := am (Kd.R_lower ho11 (below_size (bw HB.out)))
     replace HB := am (below_step (bw HB.out) hb)
     clear hb ho11
     refine hK.out _ _ trivial (fun hHeld => ?_)
     clear hK K
     refine norm_ (a' := ?_) ?_ ?_
     rotate_left
     ·
      show Act.put _ (some 13) _ = _
      simp only [Act.put, List.setIfInBounds_toArray, List.set_cons_zero, List.set_cons_succ, i64_w, i32_w]
      rfl
     refine one_ (i := 5) (N := some 14) #[true, true, true, true, true, true, true, true, true, false, false] rfl rfl (one_of HT_.out (by kernel_rfl)) (by decide) (fun K hK => ?_)
     have hcv12 := own_string (P := Tryd.prog) Tryd.underlying101 Tryd.underlying5 Tryd.underlying9 (Kd.own_of_R HO226.out)
     refine value_ (w1 := ?_) (v := ?_) (by rfl) rfl ?_ ?_
     rotate_left 2
     ·
      go_simp
      constructor
      ·
       rfl
      ·
       rfl
     clear hcv12
     refine hK.out _ _ trivial (fun hHeld => ?_)
     clear hK K
     refine norm_ (a' := ?_) ?_ ?_
     rotate_left
     ·
      show Act.put _ (some 14) _ = _
      simp only [Act.put, List.setIfInBounds_toArray, List.set_cons_zero, List.set_cons_succ, i64_w, i32_w]
      rfl
     exact norm_ (by simp only [putAll, Act.put, List.setIfInBounds_toArray, List.set_cons_zero, List.set_cons_succ]) (hCont (v225) _ ⟨(kR HO226.out), (bw HB.out)⟩)
   rintro v225 w13 ⟨h0_, h1_⟩
   have n0_ : Aside0 (Kd.R (Kd.int .u8) 5 w13 w.heap.size (fun _ => True) v225 y224) := ⟨h0_⟩
   have n1_ : Aside0 (Below w.heap.size w w13) := ⟨h1_⟩
   clear HB
   clear h0_ h1_
   have HO226 := n0_
   have HB := n1_
   clear n0_ n1_
   have hHeld := trivial
   refine norm_ (a' := ?_) ?_ ?_
   rotate_left
   ·
    simp only [putAll, Act.put, List.setIfInBounds_toArray, List.set_cons_zero, List.set_cons_succ]
    rfl
   refine pu 9 (some 18) HT_.out ?_
   refine pu 10 (some 2) HT_.out ?_
   refine done_ (done_of HT_.out (by kernel_rfl)) ?_
   try go_wp2
   go_ret
   exact ⟨rf, bw HB.out⟩
  ·
   rw [if_neg c7] at H
   exact absurd H (by simp)
def stowageref16_number.f (k : Nat) (a0 : Int) : Option (ByteArray) := (stowageref01_Number.f k (IntKind.u64.wrap (a0))).bind fun t228 => (some t228)
theorem stowageref16_number.mono : ∀ a0 k, LeO (stowageref16_number.f k a0) (stowageref16_number.f (k + 1) a0) := by
 intro a0 k
 unfold stowageref16_number.f
 repeat' (with_reducible first | exact stowageref01_Number.mono _ _ | exact LeO.refl _ | exact LeO.none _ | refine LeO.ite ?_ ?_ | refine LeO.bind ?_ (fun _ => ?_))
set_option maxHeartbeats 8000000 in
set_option maxRecDepth 100000 in
theorem stowageref16_number.calls (k : Nat) (a0 : Int) (r : ByteArray) (w : World) (h : stowageref16_number.f k a0 = some r) :
  Calls Tryd.prog 59 #[.int .i64 a0] w fun e w' => e = .returned (.string r) ∧ Below w.heap.size w w' := by
 have HB := am (Below.refl w.heap.size w)
 have H := h
 clear h
 unfold stowageref16_number.f at H
 replace H := obE H
 obtain ⟨t228, A2, H⟩ := H
 obtain rfl := Option.some.inj H
 go_enter Tryd.func59, Tryd.ntmps59
 go_wp2_with (first | ((with_reducible refine gate_callee (f := 84) rfl ?_); refine goesL_ (some 5) rfl rfl Tryd.func84 (by kernel_rfl) rfl #[.int .u64 (IntKind.u64.wrap (a0))] rfl gl ?_; (with_reducible refine (stowageref01_Number.calls k (IntKind.u64.wrap (a0)) t228 _ A2.out).mono ?_); rintro e w3 ⟨rfl, hb⟩; refine ⟨_, rfl, ?_⟩; replace HB := am (below_step (bw HB.out) hb); (try clear hb)))
 go_ret
 exact ⟨rf, bw HB.out⟩
def stowageref01_Text.f (k : Nat) (a0 : ByteArray) : Option (ByteArray) := (stowageref01_Number.f k (IntKind.u64.wrap ((a0.size : Int)))).bind fun t229 => (if t229.size + a0.size ≤ 9223372036854775807 then (some (t229 ++ a0)) else (none))
theorem stowageref01_Text.mono : ∀ a0 k, LeO (stowageref01_Text.f k a0) (stowageref01_Text.f (k + 1) a0) := by
 intro a0 k
 unfold stowageref01_Text.f
 repeat' (with_reducible first | exact stowageref01_Number.mono _ _ | exact LeO.refl _ | exact LeO.none _ | refine LeO.ite ?_ ?_ | refine LeO.bind ?_ (fun _ => ?_))
set_option maxHeartbeats 8000000 in
set_option maxRecDepth 100000 in
theorem stowageref01_Text.calls (k : Nat) (a0 : ByteArray) (r : ByteArray) (w : World) (h : stowageref01_Text.f k a0 = some r) :
  Calls Tryd.prog 60 #[.string a0] w fun e w' => e = .returned (.string r) ∧ Below w.heap.size w w' := by
 have HB := am (Below.refl w.heap.size w)
 have H := h
 clear h
 unfold stowageref01_Text.f at H
 replace H := obE H
 obtain ⟨t229, A2, H⟩ := H
 by_cases c3 : t229.size + a0.size ≤ 9223372036854775807
 ·
  rw [if_pos c3] at H
  have c3b0 := eq_true c3
  have c3b1 := decide_eq_true c3
  try have c3b2 : (9223372036854775807 < t229.size + a0.size) = False := eq_false (Nat.not_lt.2 c3)
  (try (have c3b3 := c3b2; simp only [ByteArray.size_append] at c3b3))
  obtain rfl := Option.some.inj H
  go_enter Tryd.func60, Tryd.ntmps60
  go_wp2_with (first | ((with_reducible refine gate_callee (f := 84) rfl ?_); refine goesL_ (some 6) rfl rfl Tryd.func84 (by kernel_rfl) rfl #[.int .u64 (IntKind.u64.wrap ((a0.size : Int)))] rfl gl ?_; (with_reducible refine (stowageref01_Number.calls k (IntKind.u64.wrap ((a0.size : Int))) t229 _ A2.out).mono ?_); rintro e w4 ⟨rfl, hb⟩; refine ⟨_, rfl, ?_⟩; replace HB := am (below_step (bw HB.out) hb); (try clear hb)))
  go_ret
  exact ⟨rf, bw HB.out⟩
 ·
  rw [if_neg c3] at H
  exact absurd H (by simp)
def stowageref16_EncodeOut.j0 : Nat → Bool → Int → Int → ByteArray → Option (ByteArray × Int)
 | 0, _, _, _, _ => none
 | k + 1, x27, x231000, x231001, x231002 => if x27 = true then (some ((⟨#[]⟩ : ByteArray), 1)) else ((stowageref16_number.f k x231000).bind fun t231 => ((stowageref16_number.f k x231001).bind fun t232 => (if t231.size + t232.size ≤ 9223372036854775807 then ((stowageref01_Text.f k x231002).bind fun t233 => (if (t231 ++ t232).size + t233.size ≤ 9223372036854775807 then (some ((t231 ++ t232) ++ t233, 0)) else (none))) else (none))))
def stowageref16_EncodeOut.f (k : Nat) (a0_0 : Int) (a0_1 : Int) (a0_2 : ByteArray) : Option (ByteArray × Int) := if a0_0 < 0 then (stowageref16_EncodeOut.j0 k true a0_0 a0_1 a0_2) else (if a0_0 > 999 then (stowageref16_EncodeOut.j0 k true a0_0 a0_1 a0_2) else (if a0_1 < 0 then (stowageref16_EncodeOut.j0 k true a0_0 a0_1 a0_2) else (if a0_1 > 1099511627776 then (stowageref16_EncodeOut.j0 k true a0_0 a0_1 a0_2) else (stowageref16_EncodeOut.j0 k (decide ((a0_2.size : Int) > 64)) a0_0 a0_1 a0_2))))
theorem stowageref16_EncodeOut.mono_l : ∀ k, (∀ y0 y1 y2 y3, LeO (stowageref16_EncodeOut.j0 k y0 y1 y2 y3) (stowageref16_EncodeOut.j0 (k + 1) y0 y1 y2 y3))
 | 0 => fun _ _ _ _ r h => by simp [stowageref16_EncodeOut.j0] at h
 | k + 1 => by
  have ih0 := stowageref16_EncodeOut.mono_l k
  ·
   intro y0 y1 y2 y3
   unfold stowageref16_EncodeOut.j0
   repeat' (with_reducible first | exact ih0 _ _ _ _ | exact stowageref01_Text.mono _ _ | exact stowageref16_number.mono _ _ | exact LeO.refl _ | exact LeO.none _ | refine LeO.ite ?_ ?_ | refine LeO.bind ?_ (fun _ => ?_))
theorem stowageref16_EncodeOut.mono : ∀ a0 a1 a2 k, LeO (stowageref16_EncodeOut.f k a0 a1 a2) (stowageref16_EncodeOut.f (k + 1) a0 a1 a2) := by
 intro a0 a1 a2 k
 have ih0 := stowageref16_EncodeOut.mono_l k
 unfold stowageref16_EncodeOut.f
 repeat' (with_reducible first | exact ih0 _ _ _ _ | exact stowageref01_Text.mono _ _ | exact stowageref16_number.mono _ _ | exact LeO.refl _ | exact LeO.none _ | refine LeO.ite ?_ ?_ | refine LeO.bind ?_ (fun _ => ?_))
def stowageref16_EncodeOut.T3 : Bool × List (List Nat × List Nat) := (true, [([], []), ([0], [0]), ([1], [1]), ([], []), ([3], [3]), ([4, 2], [4]), ([2, 5], [2, 5]), ([], []), ([7], [7]), ([8, 5], [8]), ([6, 9], [6, 9]), ([10, 9, 0, 1, 2, 3, 4, 5, 6, 7, 8, 9, 10], [10]), ([11, 0, 1, 2, 3, 4, 5, 6, 7, 8, 9, 10, 11], [])])
def stowageref16_EncodeOut.B3 : List Nat := [0, 1, 3, 0, 8, 31, 63, 0, 128, 447, 1023, 2047, 4095]
theorem stowageref16_EncodeOut.tab3 : rtab .any (opsOf Tryd.f20 3) = stowageref16_EncodeOut.T3 := by kernel_rfl
theorem stowageref16_EncodeOut.bits3 : waitsOk stowageref16_EncodeOut.T3.2 stowageref16_EncodeOut.B3 = true := by kernel_rfl
set_option maxHeartbeats 8000000 in
set_option maxRecDepth 100000 in
theorem stowageref16_EncodeOut.calls (k : Nat) (a0_0 : Int) (a0_1 : Int) (a0_2 : ByteArray) (r1 : ByteArray) (r2 : Int) (w : World) (h : stowageref16_EncodeOut.f k a0_0 a0_1 a0_2 = some (r1, r2)) :
  Calls Tryd.prog 20 #[.agg #[.int .i64 a0_0, .int .i64 a0_1, .string a0_2]] w fun e w' => e = .returned (.tuple #[.string r1, .int .i64 r2]) ∧ Below w.heap.size w w' := by
 have hu52 := Tryd.underlying52
 have HB := am (Below.refl w.heap.size w)
 have H := h
 clear h
 unfold stowageref16_EncodeOut.f at H
 have HC2 := am H
 clear H
 go_enter Tryd.func20, Tryd.ntmps20
 go_upto_region 1 with (first | ((with_reducible refine gate_dst (N := 1) rfl ?_); (try (refine gate_guard (by rfl) ?_; dsimp only)); refine bx 1 #[.int .i64 a0_0, .int .i64 a0_1, .string a0_2] 52 ?_; intro gb230 hg w3 hbox hb; have BK230 := am (hbox); have GW230 := gsz hg HB.out; have GE230 := gsz hg HB.out; replace HB := am (below_step (bw HB.out) hb); clear hb hbox hg))
 (try simp only [Act.put, List.setIfInBounds_toArray, List.set_cons_zero, List.set_cons_succ])
 go_cut [27] (fun v27 wc => ∃ (kq : Nat) (x27_1 : Bool), v27 = .bool x27_1 ∧ Aside0 (stowageref16_EncodeOut.j0 kq x27_1 a0_0 a0_1 a0_2 = some (r1, r2)) ∧ Aside0 (kq ≤ k) ∧ Aside0 (wc.heap[gb230]? = some (.cells #[.int .i64 a0_0, .int .i64 a0_1, .string a0_2] 52 (0, 0))) ∧ Aside0 (Below w.heap.size w wc))
 case first =>
  have H := HC2.out
  clear HC2
  replace H := iteD H
  rcases H with ⟨c4b0, H⟩ | ⟨c4b0, H⟩
  ·
   (first | rw [c4b0] | (simp only [i64_w, i32_w]; rw [c4b0]) | skip)
   have H' := am H
   clear H
   obtain ⟨hcz5_0, hcz5_1, hcz5_2, hfz5_0, hfz5_1, hfz5_2⟩ := cz3 BK230.out
   go_wp2
   go_meet
   case rel => exact ⟨_, (true), rs, H', ⟨om⟩, ⟨bk BK230.out⟩, ⟨bws HB.out⟩⟩
  ·
   (first | rw [c4b0] | (simp only [i64_w, i32_w]; rw [c4b0]) | skip)
   replace H := iteD H
   rcases H with ⟨c6b0, H⟩ | ⟨c6b0, H⟩
   ·
    have H' := am H
    clear H
    obtain ⟨hcz7_0, hcz7_1, hcz7_2, hfz7_0, hfz7_1, hfz7_2⟩ := cz3 BK230.out
    go_wp2
    go_meet
    case rel => exact ⟨_, (true), rs, H', ⟨om⟩, ⟨bk BK230.out⟩, ⟨bws HB.out⟩⟩
   ·
    replace H := iteD H
    rcases H with ⟨c8b0, H⟩ | ⟨c8b0, H⟩
    ·
     have H' := am H
     clear H
     obtain ⟨hcz9_0, hcz9_1, hcz9_2, hfz9_0, hfz9_1, hfz9_2⟩ := cz3 BK230.out
     go_wp2
     go_meet
     case rel => exact ⟨_, (true), rs, H', ⟨om⟩, ⟨bk BK230.out⟩, ⟨bws HB.out⟩⟩
    ·
     replace H := iteD H
     rcases H with ⟨c10b0, H⟩ | ⟨c10b0, H⟩
     ·
      have H' := am H
      clear H
      obtain ⟨hcz11_0, hcz11_1, hcz11_2, hfz11_0, hfz11_1, hfz11_2⟩ := cz3 BK230.out
      go_wp2
      go_meet
      case rel => exact ⟨_, (true), rs, H', ⟨om⟩, ⟨bk BK230.out⟩, ⟨bws HB.out⟩⟩
     ·
      have H' := am H
      clear H
      obtain ⟨hcz12_0, hcz12_1, hcz12_2, hfz12_0, hfz12_1, hfz12_2⟩ := cz3 BK230.out
      go_wp2
      go_meet
      case rel => exact ⟨_, (decide ((a0_2.size : Int) > 64)), rs, H', ⟨om⟩, ⟨bk BK230.out⟩, ⟨bws HB.out⟩⟩
 case rest =>
  clear HC2
  try clear c1
  try clear c2
  try clear p2
  try clear c4
  try clear c4b0
  try clear c6
  try clear c6b0
  try clear c8
  try clear c8b0
  try clear c10
  try clear c10b0
  try clear hcz11_0
  try clear hcz11_1
  try clear hcz11_2
  try clear hcz12_0
  try clear hcz12_1
  try clear hcz12_2
  try clear hcz5_0
  try clear hcz5_1
  try clear hcz5_2
  try clear hcz7_0
  try clear hcz7_1
  try clear hcz7_2
  try clear hcz9_0
  try clear hcz9_1
  try clear hcz9_2
  try clear hfz11_0
  try clear hfz11_1
  try clear hfz11_2
  try clear hfz12_0
  try clear hfz12_1
  try clear hfz12_2
  try clear hfz5_0
  try clear hfz5_1
  try clear hfz5_2
  try clear hfz7_0
  try clear hfz7_1
  try clear hfz7_2
  try clear hfz9_0
  try clear hfz9_1
  try clear hfz9_2
  obtain ⟨kq, x27_1, rfl, HA, HJ1, BK230, HB⟩ := hcut
  cases kq with
  | zero => exact absurd HA.out (by simp [stowageref16_EncodeOut.j0])
  | succ kj1 =>
   have H := HA.out
   clear HA
   simp only [stowageref16_EncodeOut.j0] at H
   by_cases c13 : x27_1 = true
   ·
    subst c13
    rw [if_pos rfl] at H
    simp only [Option.some.injEq, Prod.mk.injEq] at H
    obtain ⟨rfl, rfl⟩ := H
    go_wp2
    go_ret2
    exact ⟨rf, bws HB.out⟩
   ·
    replace c13 := Bool.eq_false_iff.mpr c13
    subst c13
    rw [if_neg (show ¬ (false = true) by decide)] at H
    replace H := obE H
    obtain ⟨t231, A14, H⟩ := H
    replace H := obE H
    obtain ⟨t232, A15, H⟩ := H
    by_cases c16 : t231.size + t232.size ≤ 9223372036854775807
    ·
     rw [if_pos c16] at H
     have c16b0 := eq_true c16
     have c16b1 := decide_eq_true c16
     try have c16b2 : (9223372036854775807 < t231.size + t232.size) = False := eq_false (Nat.not_lt.2 c16)
     (try (have c16b3 := c16b2; simp only [ByteArray.size_append] at c16b3))
     replace H := obE H
     obtain ⟨t233, A17, H⟩ := H
     by_cases c18 : (t231 ++ t232).size + t233.size ≤ 9223372036854775807
     ·
      rw [if_pos c18] at H
      have c18b0 := eq_true c18
      have c18b1 := decide_eq_true c18
      try have c18b2 : (9223372036854775807 < (t231 ++ t232).size + t233.size) = False := eq_false (Nat.not_lt.2 c18)
      (try (have c18b3 := c18b2; simp only [ByteArray.size_append] at c18b3))
      simp only [Option.some.injEq, Prod.mk.injEq] at H
      obtain ⟨rfl, rfl⟩ := H
      try go_wp2
      replace BK230 := am (blk_drew BK230.out)
      replace HB := am (below_drew1 HB.out)
      refine start_ (n := 13) (S := fun w' => w'.cell? ⟨gb230, 0, none⟩ = some (.int .i64 a0_0) ∧ w'.cell? ⟨gb230, 1, none⟩ = some (.int .i64 a0_1) ∧ w'.cell? ⟨gb230, 2, none⟩ = some (.string a0_2)) (ds := []) #[false, false, false, false, false, false, false, false, false, false, false, false, false] (by kernel_rfl) rfl rfl ⟨(blk_cell BK230.out 0).trans rfl, (blk_cell BK230.out 1).trans rfl, (blk_cell BK230.out 2).trans rfl⟩ (fun hHeld => ?_); refine with_tabW stowageref16_EncodeOut.tab3 stowageref16_EncodeOut.bits3 (fun HT_ HW_ => ?_)
      generalize wc.drew = w19 at BK230 HB hHeld ⊢
      refine pu 0 (some 28) HT_.out ?_
      refine pu 3 (some 31) HT_.out ?_
      refine pu 7 (some 35) HT_.out ?_
      refine tk 1 (some 29) HT_.out HW_.out hHeld ?_
      refine tk 4 (some 32) HT_.out HW_.out hHeld ?_
      refine tk 8 (some 36) HT_.out HW_.out hHeld ?_
      refine one_ (i := 2) (N := some 30) #[true, true, true, true, true, false, false, true, true, false, false, false, false] rfl rfl (one_of HT_.out (by kernel_rfl)) (by decide) (fun K hK => ?_)
      refine goes_ Tryd.func59 (by kernel_rfl) rfl #[.int .i64 a0_0] (by rfl) rfl rfl gl ?_
      with_reducible refine (stowageref16_number.calls kj1 a0_0 t231 _ A14.out).mono ?_
      rintro e w20 ⟨rfl, hb⟩
      refine ⟨_, rfl, ?_⟩
      replace BK230 := bb BK230.out hb
      replace HB := am (below_step (bws HB.out) hb)
      (try clear hb)
      (try clear hb2)
      (try clear hk)
      (try clear hi)
      refine hK.out _ _ ⟨(blk_cell BK230.out 0).trans rfl, (blk_cell BK230.out 1).trans rfl, (blk_cell BK230.out 2).trans rfl⟩ (fun hHeld => ?_)
      clear hK K
      refine norm_ (a' := ?_) ?_ ?_
      rotate_left
      ·
       show Act.put _ (some 30) _ = _
       simp only [Act.put, List.setIfInBounds_toArray, List.set_cons_zero, List.set_cons_succ, i64_w, i32_w]
       rfl
      refine one_ (i := 5) (N := some 33) #[true, true, true, true, true, true, false, true, true, false, false, false, false] rfl rfl (one_of HT_.out (by kernel_rfl)) (by decide) (fun K hK => ?_)
      refine goes_ Tryd.func59 (by kernel_rfl) rfl #[.int .i64 a0_1] (by rfl) rfl rfl gl ?_
      with_reducible refine (stowageref16_number.calls kj1 a0_1 t232 _ A15.out).mono ?_
      rintro e w21 ⟨rfl, hb⟩
      refine ⟨_, rfl, ?_⟩
      replace BK230 := bb BK230.out hb
      replace HB := am (below_step (bws HB.out) hb)
      (try clear hb)
      (try clear hb2)
      (try clear hk)
      (try clear hi)
      refine hK.out _ _ ⟨(blk_cell BK230.out 0).trans rfl, (blk_cell BK230.out 1).trans rfl, (blk_cell BK230.out 2).trans rfl⟩ (fun hHeld => ?_)
      clear hK K
      refine norm_ (a' := ?_) ?_ ?_
      rotate_left
      ·
       show Act.put _ (some 33) _ = _
       simp only [Act.put, List.setIfInBounds_toArray, List.set_cons_zero, List.set_cons_succ, i64_w, i32_w]
       rfl
      refine pu 6 (some 34) HT_.out ?_
      refine one_ (i := 9) (N := some 37) #[true, true, true, true, true, true, true, true, true, true, false, false, false] rfl rfl (one_of HT_.out (by kernel_rfl)) (by decide) (fun K hK => ?_)
      refine goes_ Tryd.func60 (by kernel_rfl) rfl #[.string a0_2] (by rfl) rfl rfl gl ?_
      with_reducible refine (stowageref01_Text.calls kj1 a0_2 t233 _ A17.out).mono ?_
      rintro e w22 ⟨rfl, hb⟩
      refine ⟨_, rfl, ?_⟩
      replace BK230 := bb BK230.out hb
      replace HB := am (below_step (bws HB.out) hb)
      (try clear hb)
      (try clear hb2)
      (try clear hk)
      (try clear hi)
      refine hK.out _ _ ⟨(blk_cell BK230.out 0).trans rfl, (blk_cell BK230.out 1).trans rfl, (blk_cell BK230.out 2).trans rfl⟩ (fun hHeld => ?_)
      clear hK K
      refine norm_ (a' := ?_) ?_ ?_
      rotate_left
      ·
       show Act.put _ (some 37) _ = _
       simp only [Act.put, List.setIfInBounds_toArray, List.set_cons_zero, List.set_cons_succ, i64_w, i32_w]
       rfl
      refine pu 10 (some 38) HT_.out ?_
      refine pu 11 (some 2) HT_.out ?_
      refine pu 12 (some 3) HT_.out ?_
      refine done_ (done_of HT_.out (by kernel_rfl)) ?_
      try go_wp2
      go_ret2
      exact ⟨rf, bws HB.out⟩
     ·
      rw [if_neg c18] at H
      exact absurd H (by simp)
    ·
     rw [if_neg c16] at H
     exact absurd H (by simp)
def cmd_DecodeOut.f (k : Nat) (a0 : ByteArray) : Option (Int × Int × ByteArray × Int) := (octet_NewReader.f a0).bind fun bt235 => ((octet_Reader_Int.f k bt235.1 bt235.2.1 bt235.2.2 999).bind fun bt239 => ((octet_Reader_Int.f k bt239.2.1 bt239.2.2.1 bt239.2.2.2 1099511627776).bind fun bt243 => ((octet_Reader_Text.f k bt243.2.1 bt243.2.2.1 bt243.2.2.2 64).bind fun bt247 => ((octet_Reader_End.f bt247.2.1 bt247.2.2.1 bt247.2.2.2).bind fun bt252 => (if bt252.1 = 0 then (some (bt239.1, bt243.1, bt247.1, 0)) else (some (0, 0, (⟨#[]⟩ : ByteArray), 3)))))))
theorem cmd_DecodeOut.mono : ∀ a0 k, LeO (cmd_DecodeOut.f k a0) (cmd_DecodeOut.f (k + 1) a0) := by
 intro a0 k
 unfold cmd_DecodeOut.f
 repeat' (with_reducible first | exact octet_Reader_Int.mono _ _ _ _ _ | exact octet_Reader_Text.mono _ _ _ _ _ | exact LeO.refl _ | exact LeO.none _ | refine LeO.ite ?_ ?_ | refine LeO.bind ?_ (fun _ => ?_))
set_option maxHeartbeats 8000000 in
set_option maxRecDepth 100000 in
theorem cmd_DecodeOut.calls (k : Nat) (a0 : ByteArray) (r1 : Int) (r2 : Int) (r3 : ByteArray) (r4 : Int) (w : World) (h : cmd_DecodeOut.f k a0 = some (r1, r2, r3, r4)) :
  Calls Tryd.prog 21 #[.string a0] w fun e w' => e = .returned (.tuple #[.agg #[.int .i64 r1, .int .i64 r2, .string r3], .int .i64 r4]) ∧ Below w.heap.size w w' := by
 have hu49 := Tryd.underlying49
 have HB := am (Below.refl w.heap.size w)
 have H := h
 clear h
 unfold cmd_DecodeOut.f at H
 replace H := obE H
 obtain ⟨⟨t235, t236, t237⟩, A2, H⟩ := H
 try dsimp only at H
 replace H := obE H
 obtain ⟨⟨t239, t240, t241, t242⟩, A3, H⟩ := H
 try dsimp only at H
 replace H := obE H
 obtain ⟨⟨t243, t244, t245, t246⟩, A4, H⟩ := H
 try dsimp only at H
 replace H := obE H
 obtain ⟨⟨t247, t248, t249, t250⟩, A5, H⟩ := H
 try dsimp only at H
 replace H := obE H
 obtain ⟨⟨t252, t253, t254, t255⟩, A6, H⟩ := H
 try dsimp only at H
 by_cases c7 : t252 = 0
 ·
  rw [if_pos c7] at H
  have c7b0 := beq_iff_eq.mpr c7
  have c7b1 := bne_eq_false_iff_eq.mpr c7
  clear c7
  simp only [Option.some.injEq, Prod.mk.injEq] at H
  obtain ⟨rfl, rfl, rfl, rfl⟩ := H
  go_enter Tryd.func21, Tryd.ntmps21
  go_wp2_with (first | ((with_reducible refine gate_dst (N := 2) rfl ?_); refine bx 2 #[.int .i64 0, .int .i64 0, .string (⟨#[]⟩ : ByteArray)] 49 ?_; intro gb234 hg w8 hbox hb; have BK234 := am (hbox); have GW234 := gsz hg HB.out; have GE234 := gsz hg HB.out; replace HB := am (below_step (bw HB.out) hb); clear hb hbox hg) | ((with_reducible refine gate_callee (f := 46) rfl ?_); refine goesL_ (some 7) rfl rfl Tryd.func46 (by kernel_rfl) rfl #[.string a0] rfl gl ?_; (with_reducible refine (octet_NewReader.calls a0 t235 t236 t237 w _ ?side1 A2.out).mono ?_); (case side1 => repeat (first | (with_reducible first | exact HB.out | apply below_alloc | apply pw_below_drewN | apply below_drew1 | refine below_set ?_ GE234.out) | exact HB.out)); rintro e w9 ⟨g238, rfl, hi, hb, hb2⟩; refine ⟨_, rfl, ?_⟩; have HI238 := am (hi); have NB238_234 := am (IsS119.ne_blk hi (blk_below (g := gb234) (o := .cells #[.int .i64 0, .int .i64 0, .string (⟨#[]⟩ : ByteArray)] 49 (0, 0)) (bk BK234.out) hb2) (by decide)); have NB234_238 := am (Ne.symm (IsS119.ne_blk hi (blk_below (g := gb234) (o := .cells #[.int .i64 0, .int .i64 0, .string (⟨#[]⟩ : ByteArray)] 49 (0, 0)) (bk BK234.out) hb2) (by decide))); replace BK234 := am (blk_below (g := gb234) (o := .cells #[.int .i64 0, .int .i64 0, .string (⟨#[]⟩ : ByteArray)] 49 (0, 0)) (bk BK234.out) hb2); replace HB := am (hb); (try clear hb); (try clear hb2); (try clear hi)) | ((with_reducible refine gate_callee (f := 47) rfl ?_); refine goesL_ (some 9) rfl rfl Tryd.func47 (by kernel_rfl) rfl #[.pointer (some ⟨g238, 0, none⟩), .int .i64 999] rfl gl ?_; (with_reducible refine (octet_Reader_Int.calls k g238 t235 t236 t237 999 t239 t240 t241 t242 w _ ?side1 ?side2 A3.out).mono ?_); (case side1 => repeat (first | (with_reducible first | exact HI238.out | apply IsS119.alloc | apply IsS119.drewN | apply IsS119.drew | apply IsS119.set_0 | apply IsS119.set_1 | apply IsS119.set_2 | refine IsS119.far ?_ NB238_234.out _) | exact HI238.out)); (case side2 => repeat (first | (with_reducible first | exact HB.out | apply below_alloc | apply pw_below_drewN | apply below_drew1 | refine below_set ?_ (IsS119.ge HI238.out) | refine below_set ?_ GE234.out) | exact HB.out)); rintro e w10 ⟨rfl, hi, hb, hk⟩; refine ⟨_, rfl, ?_⟩; replace BK234 := am (KeepBut.blk hk (g' := gb234) (o := .cells #[.int .i64 0, .int .i64 0, .string (⟨#[]⟩ : ByteArray)] 49 (0, 0)) (bk BK234.out) NB234_238.out (by simp)); replace HB := am (hb); replace HI238 := am (hi); (try clear hb); (try clear hk); (try clear hi)) | ((with_reducible refine gate_callee (f := 47) rfl ?_); refine goesL_ (some 11) rfl rfl Tryd.func47 (by kernel_rfl) rfl #[.pointer (some ⟨g238, 0, none⟩), .int .i64 1099511627776] rfl gl ?_; (with_reducible refine (octet_Reader_Int.calls k g238 t240 t241 t242 1099511627776 t243 t244 t245 t246 w _ ?side1 ?side2 A4.out).mono ?_); (case side1 => repeat (first | (with_reducible first | exact HI238.out | apply IsS119.alloc | apply IsS119.drewN | apply IsS119.drew | apply IsS119.set_0 | apply IsS119.set_1 | apply IsS119.set_2 | refine IsS119.far ?_ NB238_234.out _) | exact HI238.out)); (case side2 => repeat (first | (with_reducible first | exact HB.out | apply below_alloc | apply pw_below_drewN | apply below_drew1 | refine below_set ?_ (IsS119.ge HI238.out) | refine below_set ?_ GE234.out) | exact HB.out)); rintro e w11 ⟨rfl, hi, hb, hk⟩; refine ⟨_, rfl, ?_⟩; replace BK234 := am (KeepBut.blk hk (g' := gb234) (o := .cells #[.int .i64 0, .int .i64 0, .string (⟨#[]⟩ : ByteArray)] 49 (0, 0)) (bk BK234.out) NB234_238.out (by simp)); replace HB := am (hb); replace HI238 := am (hi); (try clear hb); (try clear hk); (try clear hi)) | ((with_reducible refine gate_callee (f := 49) rfl ?_); refine goesL_ (some 13) rfl rfl Tryd.func49 (by kernel_rfl) rfl #[.pointer (some ⟨g238, 0, none⟩), .int .i64 64] rfl gl ?_; (with_reducible refine (octet_Reader_Text.calls k g238 t244 t245 t246 64 t247 t248 t249 t250 w _ ?side1 ?side2 A5.out).mono ?_); (case side1 => repeat (first | (with_reducible first | exact HI238.out | apply IsS119.alloc | apply IsS119.drewN | apply IsS119.drew | apply IsS119.set_0 | apply IsS119.set_1 | apply IsS119.set_2 | refine IsS119.far ?_ NB238_234.out _) | exact HI238.out)); (case side2 => repeat (first | (with_reducible first | exact HB.out | apply below_alloc | apply pw_below_drewN | apply below_drew1 | refine below_set ?_ (IsS119.ge HI238.out) | refine below_set ?_ GE234.out) | exact HB.out)); rintro e w12 ⟨rfl, hi, hb, hk⟩; refine ⟨_, rfl, ?_⟩; replace BK234 := am (KeepBut.blk hk (g' := gb234) (o := .cells #[.int .i64 0, .int .i64 0, .string (⟨#[]⟩ : ByteArray)] 49 (0, 0)) (bk BK234.out) NB234_238.out (by simp)); replace HB := am (hb); replace HI238 := am (hi); (try clear hb); (try clear hk); (try clear hi)) | ((with_reducible refine gate_dst (N := 5) rfl ?_); refine bx 5 #[.int .i64 0, .int .i64 0, .string (⟨#[]⟩ : ByteArray)] 49 ?_; intro gb251 hg w13 hbox hb; have BK251 := am (hbox); have GW251 := am ((by rw [hg]; exact (below_size (by repeat (first | (with_reducible first | exact HB.out | apply below_alloc | apply pw_below_drewN | apply below_drew1 | refine below_set ?_ (IsS119.ge HI238.out) | refine below_set ?_ GE234.out) | exact HB.out))) : w.heap.size ≤ gb251)); have GE251 := am ((by rw [hg]; exact (below_size (by repeat (first | (with_reducible first | exact HB.out | apply below_alloc | apply pw_below_drewN | apply below_drew1 | refine below_set ?_ (IsS119.ge HI238.out) | refine below_set ?_ GE234.out) | exact HB.out))) : w.heap.size ≤ gb251)); have NB234_251 := nlt (g := gb234) hg BK234.out; have NB251_234 := ngt (g := gb234) hg BK234.out; have NB238_251 := am ((by rw [hg]; exact Nat.ne_of_lt (IsS119.lt (show IsS119 w _ g238 t248 t249 t250 from by repeat (first | (with_reducible first | exact HI238.out | apply IsS119.alloc | apply IsS119.drewN | apply IsS119.drew | apply IsS119.set_0 | apply IsS119.set_1 | apply IsS119.set_2 | refine IsS119.far ?_ NB238_234.out _) | exact HI238.out))) : g238 ≠ gb251)); have NB251_238 := am ((by rw [hg]; exact Nat.ne_of_gt (IsS119.lt (show IsS119 w _ g238 t248 t249 t250 from by repeat (first | (with_reducible first | exact HI238.out | apply IsS119.alloc | apply IsS119.drewN | apply IsS119.drew | apply IsS119.set_0 | apply IsS119.set_1 | apply IsS119.set_2 | refine IsS119.far ?_ NB238_234.out _) | exact HI238.out))) : gb251 ≠ g238)); replace BK234 := bb BK234.out hb; replace HB := am (below_step (by repeat (first | (with_reducible first | exact HB.out | apply below_alloc | apply pw_below_drewN | apply below_drew1 | refine below_set ?_ (IsS119.ge HI238.out) | refine below_set ?_ GE234.out) | exact HB.out)) hb); replace HI238 := am (IsS119.below (by repeat (first | (with_reducible first | exact HI238.out | apply IsS119.alloc | apply IsS119.drewN | apply IsS119.drew | apply IsS119.set_0 | apply IsS119.set_1 | apply IsS119.set_2 | refine IsS119.far ?_ NB238_234.out _) | exact HI238.out)) hb); clear hb hbox hg; have hnb14 := NB251_234.out; have hnc14 := NB234_251.out; have hnb15 := NB251_238.out; have hnc15 := NB238_251.out; obtain ⟨hcz16_0, hcz16_1, hcz16_2, hfz16_0, hfz16_1, hfz16_2⟩ := cz3 BK251.out) | ((with_reducible refine gate_callee (f := 51) rfl ?_); refine goesL_ (some 16) rfl rfl Tryd.func51 (by kernel_rfl) rfl #[.pointer (some ⟨g238, 0, none⟩)] rfl gl ?_; (with_reducible refine (octet_Reader_End.calls g238 t248 t249 t250 t252 t253 t254 t255 w _ ?side1 ?side2 A6.out).mono ?_); (case side1 => repeat (first | (with_reducible first | exact HI238.out | apply IsS119.alloc | apply IsS119.drewN | apply IsS119.drew | apply IsS119.set_0 | apply IsS119.set_1 | apply IsS119.set_2 | refine IsS119.far ?_ NB238_234.out _ | refine IsS119.far ?_ NB238_251.out _) | exact HI238.out)); (case side2 => repeat (first | (with_reducible first | exact HB.out | apply below_alloc | apply pw_below_drewN | apply below_drew1 | refine below_set ?_ (IsS119.ge HI238.out) | refine below_set ?_ GE234.out | refine below_set ?_ GE251.out) | exact HB.out)); rintro e w17 ⟨rfl, hi, hb, hk⟩; refine ⟨_, rfl, ?_⟩; replace BK234 := am (KeepBut.blk hk (g' := gb234) (o := .cells #[.int .i64 0, .int .i64 0, .string (⟨#[]⟩ : ByteArray)] 49 (0, 0)) (bkf BK234.out) NB234_238.out (by simp)); replace BK251 := am (KeepBut.blk hk (g' := gb251) (o := .cells #[.int .i64 t239, .int .i64 t243, .string t247] 49 (0, 0)) (bkp BK251.out) NB251_238.out (by simp)); replace HB := am (hb); replace HI238 := am (hi); (try clear hb); (try clear hk); (try clear hi); obtain ⟨hcz18_0, hcz18_1, hcz18_2, hfz18_0, hfz18_1, hfz18_2⟩ := cz3 BK251.out; have hnb19 := NB234_238.out; have hnc19 := NB238_234.out; obtain ⟨hcz20_0, hcz20_1, hcz20_2, hfz20_0, hfz20_1, hfz20_2⟩ := cz3 BK234.out))
  refine bodyPost_ret (results_ct rfl _ _ gb234 49 #[.int .i64 t239, .int .i64 t243, .string t247] (0, 0) _ rfl (bkp BK234.out) Tryd.underlying49 rfl (by kernel_rfl)) rfl ?_
  exact ⟨rf, by repeat (first | (with_reducible first | exact HB.out | apply below_alloc | apply pw_below_drewN | apply below_drew1 | refine below_set ?_ (IsS119.ge HI238.out) | refine below_set ?_ GE234.out | refine below_set ?_ GE251.out) | exact HB.out)⟩
 ·
  rw [if_neg c7] at H
  have c7b0 := beq_eq_false_iff_ne.mpr c7
  have c7b1 := bne_iff_ne.mpr c7
  simp only [Option.some.injEq, Prod.mk.injEq] at H
  obtain ⟨rfl, rfl, rfl, rfl⟩ := H
  go_enter Tryd.func21, Tryd.ntmps21
  go_wp2_with (first | ((with_reducible refine gate_dst (N := 2) rfl ?_); refine bx 2 #[.int .i64 0, .int .i64 0, .string (⟨#[]⟩ : ByteArray)] 49 ?_; intro gb234 hg w21 hbox hb; have BK234 := am (hbox); have GW234 := gsz hg HB.out; have GE234 := gsz hg HB.out; replace HB := am (below_step (bw HB.out) hb); clear hb hbox hg) | ((with_reducible refine gate_callee (f := 46) rfl ?_); refine goesL_ (some 7) rfl rfl Tryd.func46 (by kernel_rfl) rfl #[.string a0] rfl gl ?_; (with_reducible refine (octet_NewReader.calls a0 t235 t236 t237 w _ ?side1 A2.out).mono ?_); (case side1 => repeat (first | (with_reducible first | exact HB.out | apply below_alloc | apply pw_below_drewN | apply below_drew1 | refine below_set ?_ GE234.out) | exact HB.out)); rintro e w22 ⟨g238, rfl, hi, hb, hb2⟩; refine ⟨_, rfl, ?_⟩; have HI238 := am (hi); have NB238_234 := am (IsS119.ne_blk hi (blk_below (g := gb234) (o := .cells #[.int .i64 0, .int .i64 0, .string (⟨#[]⟩ : ByteArray)] 49 (0, 0)) (bk BK234.out) hb2) (by decide)); have NB234_238 := am (Ne.symm (IsS119.ne_blk hi (blk_below (g := gb234) (o := .cells #[.int .i64 0, .int .i64 0, .string (⟨#[]⟩ : ByteArray)] 49 (0, 0)) (bk BK234.out) hb2) (by decide))); replace BK234 := am (blk_below (g := gb234) (o := .cells #[.int .i64 0, .int .i64 0, .string (⟨#[]⟩ : ByteArray)] 49 (0, 0)) (bk BK234.out) hb2); replace HB := am (hb); (try clear hb); (try clear hb2); (try clear hi)) | ((with_reducible refine gate_callee (f := 47) rfl ?_); refine goesL_ (some 9) rfl rfl Tryd.func47 (by kernel_rfl) rfl #[.pointer (some ⟨g238, 0, none⟩), .int .i64 999] rfl gl ?_; (with_reducible refine (octet_Reader_Int.calls k g238 t235 t236 t237 999 t239 t240 t241 t242 w _ ?side1 ?side2 A3.out).mono ?_); (case side1 => repeat (first | (with_reducible first | exact HI238.out | apply IsS119.alloc | apply IsS119.drewN | apply IsS119.drew | apply IsS119.set_0 | apply IsS119.set_1 | apply IsS119.set_2 | refine IsS119.far ?_ NB238_234.out _) | exact HI238.out)); (case side2 => repeat (first | (with_reducible first | exact HB.out | apply below_alloc | apply pw_below_drewN | apply below_drew1 | refine below_set ?_ (IsS119.ge HI238.out) | refine below_set ?_ GE234.out) | exact HB.out)); rintro e w23 ⟨rfl, hi, hb, hk⟩; refine ⟨_, rfl, ?_⟩; replace BK234 := am (KeepBut.blk hk (g' := gb234) (o := .cells #[.int .i64 0, .int .i64 0, .string (⟨#[]⟩ : ByteArray)] 49 (0, 0)) (bk BK234.out) NB234_238.out (by simp)); replace HB := am (hb); replace HI238 := am (hi); (try clear hb); (try clear hk); (try clear hi)) | ((with_reducible refine gate_callee (f := 47) rfl ?_); refine goesL_ (some 11) rfl rfl Tryd.func47 (by kernel_rfl) rfl #[.pointer (some ⟨g238, 0, none⟩), .int .i64 1099511627776] rfl gl ?_; (with_reducible refine (octet_Reader_Int.calls k g238 t240 t241 t242 1099511627776 t243 t244 t245 t246 w _ ?side1 ?side2 A4.out).mono ?_); (case side1 => repeat (first | (with_reducible first | exact HI238.out | apply IsS119.alloc | apply IsS119.drewN | apply IsS119.drew | apply IsS119.set_0 | apply IsS119.set_1 | apply IsS119.set_2 | refine IsS119.far ?_ NB238_234.out _) | exact HI238.out)); (case side2 => repeat (first | (with_reducible first | exact HB.out | apply below_alloc | apply pw_below_drewN | apply below_drew1 | refine below_set ?_ (IsS119.ge HI238.out) | refine below_set ?_ GE234.out) | exact HB.out)); rintro e w24 ⟨rfl, hi, hb, hk⟩; refine ⟨_, rfl, ?_⟩; replace BK234 := am (KeepBut.blk hk (g' := gb234) (o := .cells #[.int .i64 0, .int .i64 0, .string (⟨#[]⟩ : ByteArray)] 49 (0, 0)) (bk BK234.out) NB234_238.out (by simp)); replace HB := am (hb); replace HI238 := am (hi); (try clear hb); (try clear hk); (try clear hi)) | ((with_reducible refine gate_callee (f := 49) rfl ?_); refine goesL_ (some 13) rfl rfl Tryd.func49 (by kernel_rfl) rfl #[.pointer (some ⟨g238, 0, none⟩), .int .i64 64] rfl gl ?_; (with_reducible refine (octet_Reader_Text.calls k g238 t244 t245 t246 64 t247 t248 t249 t250 w _ ?side1 ?side2 A5.out).mono ?_); (case side1 => repeat (first | (with_reducible first | exact HI238.out | apply IsS119.alloc | apply IsS119.drewN | apply IsS119.drew | apply IsS119.set_0 | apply IsS119.set_1 | apply IsS119.set_2 | refine IsS119.far ?_ NB238_234.out _) | exact HI238.out)); (case side2 => repeat (first | (with_reducible first | exact HB.out | apply below_alloc | apply pw_below_drewN | apply below_drew1 | refine below_set ?_ (IsS119.ge HI238.out) | refine below_set ?_ GE234.out) | exact HB.out)); rintro e w25 ⟨rfl, hi, hb, hk⟩; refine ⟨_, rfl, ?_⟩; replace BK234 := am (KeepBut.blk hk (g' := gb234) (o := .cells #[.int .i64 0, .int .i64 0, .string (⟨#[]⟩ : ByteArray)] 49 (0, 0)) (bk BK234.out) NB234_238.out (by simp)); replace HB := am (hb); replace HI238 := am (hi); (try clear hb); (try clear hk); (try clear hi)) | ((with_reducible refine gate_dst (N := 5) rfl ?_); refine bx 5 #[.int .i64 0, .int .i64 0, .string (⟨#[]⟩ : ByteArray)] 49 ?_; intro gb251 hg w26 hbox hb; have BK251 := am (hbox); have GW251 := am ((by rw [hg]; exact (below_size (by repeat (first | (with_reducible first | exact HB.out | apply below_alloc | apply pw_below_drewN | apply below_drew1 | refine below_set ?_ (IsS119.ge HI238.out) | refine below_set ?_ GE234.out) | exact HB.out))) : w.heap.size ≤ gb251)); have GE251 := am ((by rw [hg]; exact (below_size (by repeat (first | (with_reducible first | exact HB.out | apply below_alloc | apply pw_below_drewN | apply below_drew1 | refine below_set ?_ (IsS119.ge HI238.out) | refine below_set ?_ GE234.out) | exact HB.out))) : w.heap.size ≤ gb251)); have NB234_251 := nlt (g := gb234) hg BK234.out; have NB251_234 := ngt (g := gb234) hg BK234.out; have NB238_251 := am ((by rw [hg]; exact Nat.ne_of_lt (IsS119.lt (show IsS119 w _ g238 t248 t249 t250 from by repeat (first | (with_reducible first | exact HI238.out | apply IsS119.alloc | apply IsS119.drewN | apply IsS119.drew | apply IsS119.set_0 | apply IsS119.set_1 | apply IsS119.set_2 | refine IsS119.far ?_ NB238_234.out _) | exact HI238.out))) : g238 ≠ gb251)); have NB251_238 := am ((by rw [hg]; exact Nat.ne_of_gt (IsS119.lt (show IsS119 w _ g238 t248 t249 t250 from by repeat (first | (with_reducible first | exact HI238.out | apply IsS119.alloc | apply IsS119.drewN | apply IsS119.drew | apply IsS119.set_0 | apply IsS119.set_1 | apply IsS119.set_2 | refine IsS119.far ?_ NB238_234.out _) | exact HI238.out))) : gb251 ≠ g238)); replace BK234 := bb BK234.out hb; replace HB := am (below_step (by repeat (first | (with_reducible first | exact HB.out | apply below_alloc | apply pw_below_drewN | apply below_drew1 | refine below_set ?_ (IsS119.ge HI238.out) | refine below_set ?_ GE234.out) | exact HB.out)) hb); replace HI238 := am (IsS119.below (by repeat (first | (with_reducible first | exact HI238.out | apply IsS119.alloc | apply IsS119.drewN | apply IsS119.drew | apply IsS119.set_0 | apply IsS119.set_1 | apply IsS119.set_2 | refine IsS119.far ?_ NB238_234.out _) | exact HI238.out)) hb); clear hb hbox hg; have hnb27 := NB251_234.out; have hnc27 := NB234_251.out; have hnb28 := NB251_238.out; have hnc28 := NB238_251.out; obtain ⟨hcz29_0, hcz29_1, hcz29_2, hfz29_0, hfz29_1, hfz29_2⟩ := cz3 BK251.out) | ((with_reducible refine gate_callee (f := 51) rfl ?_); refine goesL_ (some 16) rfl rfl Tryd.func51 (by kernel_rfl) rfl #[.pointer (some ⟨g238, 0, none⟩)] rfl gl ?_; (with_reducible refine (octet_Reader_End.calls g238 t248 t249 t250 t252 t253 t254 t255 w _ ?side1 ?side2 A6.out).mono ?_); (case side1 => repeat (first | (with_reducible first | exact HI238.out | apply IsS119.alloc | apply IsS119.drewN | apply IsS119.drew | apply IsS119.set_0 | apply IsS119.set_1 | apply IsS119.set_2 | refine IsS119.far ?_ NB238_234.out _ | refine IsS119.far ?_ NB238_251.out _) | exact HI238.out)); (case side2 => repeat (first | (with_reducible first | exact HB.out | apply below_alloc | apply pw_below_drewN | apply below_drew1 | refine below_set ?_ (IsS119.ge HI238.out) | refine below_set ?_ GE234.out | refine below_set ?_ GE251.out) | exact HB.out)); rintro e w30 ⟨rfl, hi, hb, hk⟩; refine ⟨_, rfl, ?_⟩; replace BK234 := am (KeepBut.blk hk (g' := gb234) (o := .cells #[.int .i64 0, .int .i64 0, .string (⟨#[]⟩ : ByteArray)] 49 (0, 0)) (bkf BK234.out) NB234_238.out (by simp)); replace BK251 := am (KeepBut.blk hk (g' := gb251) (o := .cells #[.int .i64 t239, .int .i64 t243, .string t247] 49 (0, 0)) (bkp BK251.out) NB251_238.out (by simp)); replace HB := am (hb); replace HI238 := am (hi); (try clear hb); (try clear hk); (try clear hi); have hnb31 := NB234_238.out; have hnc31 := NB238_234.out; obtain ⟨hcz32_0, hcz32_1, hcz32_2, hfz32_0, hfz32_1, hfz32_2⟩ := cz3 BK234.out))
  refine bodyPost_ret (results_ct rfl _ _ gb234 49 #[.int .i64 0, .int .i64 0, .string (⟨#[]⟩ : ByteArray)] (0, 0) _ rfl (bkp BK234.out) Tryd.underlying49 rfl (by kernel_rfl)) rfl ?_
  exact ⟨rf, by repeat (first | (with_reducible first | exact HB.out | apply below_alloc | apply pw_below_drewN | apply below_drew1 | refine below_set ?_ (IsS119.ge HI238.out) | refine below_set ?_ GE234.out | refine below_set ?_ GE251.out) | exact HB.out)⟩
mutual
def stowageref01_ReadNumber.j0 : Nat → ByteArray → Int → Bool → Option (Int × Int × Int)
 | 0, _, _, _ => none
 | k + 1, x0, x1, x18 => if x18 = true then (some (0, 0, 1)) else (stowageref01_ReadNumber.l0 k x0 x1 0 1 x1)
def stowageref01_ReadNumber.l0 : Nat → ByteArray → Int → Int → Int → Int → Option (Int × Int × Int)
 | 0, _, _, _, _, _ => none
 | k + 1, x0, x1, x7, x8, x9 => if x9 ≥ (x0.size : Int) then (some (0, 0, 5)) else (if 0 ≤ x9 then (if x9 < (x0.size : Int) then (if (wrap64 (x9 - x1)) = 9 then (if (IntKind.u64.wrap (bt x0 x9)) > 1 then (stowageref01_ReadNumber.j2 k x0 x1 x7 x8 x9 (IntKind.u64.wrap (bt x0 x9)) true) else (if x9 > x1 then (stowageref01_ReadNumber.j2 k x0 x1 x7 x8 x9 (IntKind.u64.wrap (bt x0 x9)) ((IntKind.u64.wrap (bt x0 x9)) == 0)) else (stowageref01_ReadNumber.j2 k x0 x1 x7 x8 x9 (IntKind.u64.wrap (bt x0 x9)) false))) else (if x9 > x1 then (stowageref01_ReadNumber.j2 k x0 x1 x7 x8 x9 (IntKind.u64.wrap (bt x0 x9)) ((IntKind.u64.wrap (bt x0 x9)) == 0)) else (stowageref01_ReadNumber.j2 k x0 x1 x7 x8 x9 (IntKind.u64.wrap (bt x0 x9)) false))) else (none)) else (none))
def stowageref01_ReadNumber.j2 : Nat → ByteArray → Int → Int → Int → Int → Int → Bool → Option (Int × Int × Int)
 | 0, _, _, _, _, _, _, _ => none
 | k + 1, x0, x1, x7, x8, x9, x10, x46 => if x46 = true then (some (0, 0, 3)) else (if x10 < 128 then (some (IntKind.u64.wrap (x7 + (IntKind.u64.wrap ((Int.tmod x10 128) * x8))), wrap64 (x9 + 1), 0)) else (stowageref01_ReadNumber.l0 k x0 x1 (IntKind.u64.wrap (x7 + (IntKind.u64.wrap ((Int.tmod x10 128) * x8)))) (IntKind.u64.wrap (x8 * 128)) (wrap64 (x9 + 1))))
end
def stowageref01_ReadNumber.f (k : Nat) (a0 : ByteArray) (a1 : Int) : Option (Int × Int × Int) := if a1 < 0 then (stowageref01_ReadNumber.j0 k a0 a1 true) else (stowageref01_ReadNumber.j0 k a0 a1 (decide (a1 > (a0.size : Int))))
theorem stowageref01_ReadNumber.mono_l : ∀ k, (∀ y0 y1 y2, LeO (stowageref01_ReadNumber.j0 k y0 y1 y2) (stowageref01_ReadNumber.j0 (k + 1) y0 y1 y2)) ∧ (∀ y0 y1 y2 y3 y4, LeO (stowageref01_ReadNumber.l0 k y0 y1 y2 y3 y4) (stowageref01_ReadNumber.l0 (k + 1) y0 y1 y2 y3 y4)) ∧ (∀ y0 y1 y2 y3 y4 y5 y6, LeO (stowageref01_ReadNumber.j2 k y0 y1 y2 y3 y4 y5 y6) (stowageref01_ReadNumber.j2 (k + 1) y0 y1 y2 y3 y4 y5 y6))
 | 0 => ⟨fun _ _ _ r h => by simp [stowageref01_ReadNumber.j0] at h, fun _ _ _ _ _ r h => by simp [stowageref01_ReadNumber.l0] at h, fun _ _ _ _ _ _ _ r h => by simp [stowageref01_ReadNumber.j2] at h⟩
 | k + 1 => by
  obtain ⟨ih0, ih1, ih2⟩ := stowageref01_ReadNumber.mono_l k
  refine ⟨?_, ?_, ?_⟩
  all_goals intros
  all_goals first | unfold stowageref01_ReadNumber.j0 | unfold stowageref01_ReadNumber.l0 | unfold stowageref01_ReadNumber.j2
  all_goals repeat' (with_reducible first | exact ih0 _ _ _ | exact ih1 _ _ _ _ _ | exact ih2 _ _ _ _ _ _ _ | exact LeO.refl _ | exact LeO.none _ | refine LeO.ite ?_ ?_ | refine LeO.bind ?_ (fun _ => ?_))
theorem stowageref01_ReadNumber.mono : ∀ a0 a1 k, LeO (stowageref01_ReadNumber.f k a0 a1) (stowageref01_ReadNumber.f (k + 1) a0 a1) := by
 intro a0 a1 k
 obtain ⟨ih0, ih1, ih2⟩ := stowageref01_ReadNumber.mono_l k
 unfold stowageref01_ReadNumber.f
 repeat' (with_reducible first | exact ih0 _ _ _ | exact ih1 _ _ _ _ _ | exact ih2 _ _ _ _ _ _ _ | exact LeO.refl _ | exact LeO.none _ | refine LeO.ite ?_ ?_ | refine LeO.bind ?_ (fun _ => ?_))
set_option maxHeartbeats 8000000 in
set_option maxRecDepth 100000 in
theorem stowageref01_ReadNumber.calls (k : Nat) (a0 : ByteArray) (a1 : Int) (r1 : Int) (r2 : Int) (r3 : Int) (w : World) (h : stowageref01_ReadNumber.f k a0 a1 = some (r1, r2, r3)) :
  Calls Tryd.prog 82 #[.string a0, .int .i64 a1] w fun e w' => e = .returned (.tuple #[.int .u64 r1, .int .i64 r2, .int .i64 r3]) ∧ Drawn0 w w' := by
 have H := h
 clear h
 unfold stowageref01_ReadNumber.f at H
 have HC3 := am H
 clear H
 go_enter Tryd.func82, Tryd.ntmps82
 go_upto_region 1 with (fail)
 go_cut [18] (fun v18 wc => ∃ (kq : Nat) (x18_2 : Bool), v18 = .bool x18_2 ∧ Aside0 (stowageref01_ReadNumber.j0 kq a0 a1 x18_2 = some (r1, r2, r3)) ∧ Aside0 (kq ≤ k) ∧ Drawn0 w wc)
 case first =>
  have H := HC3.out
  clear HC3
  replace H := iteD H
  rcases H with ⟨c4b0, H⟩ | ⟨c4b0, H⟩
  ·
   (first | rw [c4b0] | (simp only [i64_w, i32_w]; rw [c4b0]) | skip)
   have H' := am H
   clear H
   go_wp2
   go_meet
   case rel => exact ⟨_, (true), rs, H', ⟨om⟩, by repeat (first | exact Drawn0.refl _ | apply Drawn0.step)⟩
  ·
   (first | rw [c4b0] | (simp only [i64_w, i32_w]; rw [c4b0]) | skip)
   have H' := am H
   clear H
   go_wp2
   go_meet
   case rel => exact ⟨_, (decide (a1 > (a0.size : Int))), rs, H', ⟨om⟩, by repeat (first | exact Drawn0.refl _ | apply Drawn0.step)⟩
 case rest =>
  clear HC3
  try clear p2
  try clear c4
  try clear c4b0
  obtain ⟨kq, x18_2, rfl, HA, HJ2, ⟨mc2, rfl⟩⟩ := hcut
  cases kq with
  | zero => exact absurd HA.out (by simp [stowageref01_ReadNumber.j0])
  | succ kj2 =>
   have H := HA.out
   clear HA
   simp only [stowageref01_ReadNumber.j0] at H
   by_cases c5 : x18_2 = true
   ·
    subst c5
    rw [if_pos rfl] at H
    simp only [Option.some.injEq, Prod.mk.injEq] at H
    obtain ⟨rfl, rfl, rfl⟩ := H
    go_wp2
    go_ret3
    exact ⟨by first | rfl | (simp; done) | (simp [*]; done), by repeat (first | exact Drawn0.refl _ | apply Drawn0.step)⟩
   ·
    replace c5 := Bool.eq_false_iff.mpr c5
    subst c5
    rw [if_neg (show ¬ (false = true) by decide)] at H
    have H' := am H
    clear H
    go_wp2
    go_loopg [7, 8, 9] kj2 (fun kq v7 v8 v9 w' => ∃ (x7_2 : Int) (x8_2 : Int) (x9_2 : Int), v7 = .int .u64 x7_2 ∧ v8 = .int .u64 x8_2 ∧ v9 = .int .i64 x9_2 ∧ Aside0 (stowageref01_ReadNumber.l0 kq a0 a1 x7_2 x8_2 x9_2 = some (r1, r2, r3)) ∧ Aside0 (kq ≤ kj2) ∧ Drawn0 w w')
    case atStart => exact ⟨(0), (1), (a1), rs, rs, rs, H', ⟨Nat.le_refl _⟩, by repeat (first | exact Drawn0.refl _ | apply Drawn0.step)⟩
    case round =>
     clear H'
     try clear c2
     try clear p2
     try clear c4
     try clear c4b0
     try clear c5
     try clear p2
     obtain ⟨x7_2, x8_2, x9_2, rfl, rfl, rfl, HA, HK2, ⟨m2, rfl⟩⟩ := hrel
     cases gk with
     | zero => exact absurd HA.out (by simp [stowageref01_ReadNumber.l0])
     | succ k2 =>
      have H := HA.out
      clear HA
      simp only [stowageref01_ReadNumber.l0] at H
      replace H := iteD H
      rcases H with ⟨c6b0, H⟩ | ⟨c6b0, H⟩
      ·
       simp only [Option.some.injEq, Prod.mk.injEq] at H
       obtain ⟨rfl, rfl, rfl⟩ := H
       go_wp2
       go_ret3
       exact ⟨by first | rfl | (simp; done) | (simp [*]; done), by repeat (first | exact Drawn0.refl _ | apply Drawn0.step)⟩
      ·
       by_cases c7 : 0 ≤ x9_2
       ·
        rw [if_pos c7] at H
        have c7b0 := decide_eq_true c7
        clear c7
        replace H := iteD H
        rcases H with ⟨c8b0, H⟩ | ⟨_, H⟩
        ·
         have HC10 := am H
         clear H
         have p9 := pz x9_2
         have q9 := pl x9_2 (a0.size : Int)
         have hx9 := bt_at a0 x9_2
         go_upto_region 10 with (fail)
         go_cut [46] (fun v46 wc => ∃ (kq : Nat) (x46_9 : Bool), v46 = .bool x46_9 ∧ Aside0 (stowageref01_ReadNumber.j2 kq a0 a1 x7_2 x8_2 x9_2 (IntKind.u64.wrap (bt a0 x9_2)) x46_9 = some (r1, r2, r3)) ∧ Aside0 (kq ≤ k2) ∧ Drawn0 w wc)
         case first =>
          have H := HC10.out
          clear HC10
          by_cases c11 : (wrap64 (x9_2 - a1)) = 9
          ·
           rw [if_pos c11] at H
           have c11b0 := beq_iff_eq.mpr c11
           have c11b1 := bne_eq_false_iff_eq.mpr c11
           clear c11
           (first | rw [c11b0] | (simp only [i64_w, i32_w]; rw [c11b0]) | skip)
           replace H := iteD H
           rcases H with ⟨c12b0, H⟩ | ⟨c12b0, H⟩
           ·
            have H' := am H
            clear H
            go_wp2
            go_meet
            case rel => exact ⟨_, (true), rs, H', ⟨by have := HJ2.out; have := HK2.out; first | omega | exact Nat.le_refl _⟩, by repeat (first | exact Drawn0.refl _ | apply Drawn0.step)⟩
           ·
            replace H := iteD H
            rcases H with ⟨c13b0, H⟩ | ⟨c13b0, H⟩
            ·
             have H' := am H
             clear H
             go_wp2
             go_meet
             case rel => exact ⟨_, (((IntKind.u64.wrap (bt a0 x9_2)) == 0)), rs, H', ⟨by have := HJ2.out; have := HK2.out; first | omega | exact Nat.le_refl _⟩, by repeat (first | exact Drawn0.refl _ | apply Drawn0.step)⟩
            ·
             have H' := am H
             clear H
             go_wp2
             go_meet
             case rel => exact ⟨_, (false), rs, H', ⟨by have := HJ2.out; have := HK2.out; first | omega | exact Nat.le_refl _⟩, by repeat (first | exact Drawn0.refl _ | apply Drawn0.step)⟩
          ·
           rw [if_neg c11] at H
           have c11b0 := beq_eq_false_iff_ne.mpr c11
           have c11b1 := bne_iff_ne.mpr c11
           (first | rw [c11b0] | (simp only [i64_w, i32_w]; rw [c11b0]) | skip)
           replace H := iteD H
           rcases H with ⟨c14b0, H⟩ | ⟨c14b0, H⟩
           ·
            have H' := am H
            clear H
            go_wp2
            go_meet
            case rel => exact ⟨_, (((IntKind.u64.wrap (bt a0 x9_2)) == 0)), rs, H', ⟨by have := HJ2.out; have := HK2.out; first | omega | exact Nat.le_refl _⟩, by repeat (first | exact Drawn0.refl _ | apply Drawn0.step)⟩
           ·
            have H' := am H
            clear H
            go_wp2
            go_meet
            case rel => exact ⟨_, (false), rs, H', ⟨by have := HJ2.out; have := HK2.out; first | omega | exact Nat.le_refl _⟩, by repeat (first | exact Drawn0.refl _ | apply Drawn0.step)⟩
         case rest =>
          clear HC10
          try clear c1
          try clear c2
          try clear p2
          try clear c4
          try clear c4b0
          try clear c5
          try clear c6
          try clear c6b0
          try clear p6
          try clear c7
          try clear c7b0
          try clear c8
          try clear c8b0
          try clear p9
          try clear q9
          try clear hx9
          try clear c11
          try clear c11b0
          try clear c11b1
          try clear c12
          try clear c12b0
          try clear c13
          try clear c13b0
          try clear c14
          try clear c14b0
          try clear p2
          try clear p9
          try clear q9
          obtain ⟨kq, x46_9, rfl, HA, HJ9, ⟨mc9, rfl⟩⟩ := hcut
          cases kq with
          | zero => exact absurd HA.out (by simp [stowageref01_ReadNumber.j2])
          | succ kj9 =>
           have H := HA.out
           clear HA
           simp only [stowageref01_ReadNumber.j2] at H
           by_cases c15 : x46_9 = true
           ·
            subst c15
            rw [if_pos rfl] at H
            simp only [Option.some.injEq, Prod.mk.injEq] at H
            obtain ⟨rfl, rfl, rfl⟩ := H
            go_wp2
            go_ret3
            exact ⟨by first | rfl | (simp; done) | (simp [*]; done), by repeat (first | exact Drawn0.refl _ | apply Drawn0.step)⟩
           ·
            replace c15 := Bool.eq_false_iff.mpr c15
            subst c15
            rw [if_neg (show ¬ (false = true) by decide)] at H
            replace H := iteD H
            rcases H with ⟨c16b0, H⟩ | ⟨c16b0, H⟩
            ·
             simp only [Option.some.injEq, Prod.mk.injEq] at H
             obtain ⟨rfl, rfl, rfl⟩ := H
             go_wp2
             go_ret3
             exact ⟨by first | rfl | (simp; done) | (simp [*]; done), by repeat (first | exact Drawn0.refl _ | apply Drawn0.step)⟩
            ·
             have H' := am H
             clear H
             go_wp2
             go_roundg kj9
             case measure => have := HJ2.out; have := HK2.out; have := HJ9.out; omega
             case rel => exact ⟨(IntKind.u64.wrap (x7_2 + (IntKind.u64.wrap ((Int.tmod (IntKind.u64.wrap (bt a0 x9_2)) 128) * x8_2)))), (IntKind.u64.wrap (x8_2 * 128)), (wrap64 (x9_2 + 1)), rs, rs, rs, H', ⟨by have := HJ2.out; have := HK2.out; have := HJ9.out; omega⟩, by repeat (first | exact Drawn0.refl _ | apply Drawn0.step)⟩
        ·
         exact absurd H (by simp)
       ·
        rw [if_neg c7] at H
        exact absurd H (by simp)
end Go.Proofs.YtdidopoalmkhlaaDoor.Oo
end
section
namespace Go.Proofs.YtdidopoalmkhlaaDoor.Oo
open Go.RowKit Go.Proofs.YtdidopoalmkhlaaDoorW.PrintWords Go.Proofs.YtdidopoalmkhlaaDoorW.PrintLast Go.Proofs.YtdidopoalmkhlaaDoorW.PrintMore
attribute [local go_sem] max2_int min2_int max_two min_two max_three min_three max_four min_four
set_option linter.unusedVariables false
set_option linter.unusedSimpArgs false
def stowageref01_Reader_Number.f (k : Nat) (a0_0 : ByteArray) (a0_1 : Int) (a0_2 : Int) (a1 : Int) : Option (ByteArray × Int × Int × Int) := if a0_2 = 0 then ((stowageref01_ReadNumber.f k a0_0 a0_1).bind fun bt258 => (if bt258.2.2 = 0 then (if bt258.1 > a1 then (some (a0_0, a0_1, 2, 0)) else (some (a0_0, bt258.2.1, a0_2, bt258.1))) else (some (a0_0, a0_1, bt258.2.2, 0)))) else (some (a0_0, a0_1, a0_2, 0))
theorem stowageref01_Reader_Number.mono : ∀ a0 a1 a2 a3 k, LeO (stowageref01_Reader_Number.f k a0 a1 a2 a3) (stowageref01_Reader_Number.f (k + 1) a0 a1 a2 a3) := by
 intro a0 a1 a2 a3 k
 unfold stowageref01_Reader_Number.f
 repeat' (with_reducible first | exact stowageref01_ReadNumber.mono _ _ _ | exact LeO.refl _ | exact LeO.none _ | refine LeO.ite ?_ ?_ | refine LeO.bind ?_ (fun _ => ?_))
set_option maxHeartbeats 8000000 in
set_option maxRecDepth 100000 in
theorem stowageref01_Reader_Number.calls (k : Nat) (a0_0 : ByteArray) (a0_1 : Int) (a0_2 : Int) (a1 : Int) (r1 : ByteArray) (r2 : Int) (r3 : Int) (r4 : Int) (w : World) (h : stowageref01_Reader_Number.f k a0_0 a0_1 a0_2 a1 = some (r1, r2, r3, r4)) :
  Calls Tryd.prog 81 #[.agg #[.string a0_0, .int .i64 a0_1, .int .i64 a0_2], .int .u64 a1] w fun e w' => e = .returned (.tuple #[.agg #[.string r1, .int .i64 r2, .int .i64 r3], .int .u64 r4]) ∧ Below w.heap.size w w' := by
 have hu85 := Tryd.underlying85
 have HB := am (Below.refl w.heap.size w)
 have H := h
 clear h
 unfold stowageref01_Reader_Number.f at H
 by_cases c3 : a0_2 = 0
 ·
  rw [if_pos c3] at H
  have c3b0 := beq_iff_eq.mpr c3
  have c3b1 := bne_eq_false_iff_eq.mpr c3
  clear c3
  replace H := obE H
  obtain ⟨⟨t258, t259, t260⟩, A4, H⟩ := H
  try dsimp only at H
  by_cases c5 : t260 = 0
  ·
   rw [if_pos c5] at H
   have c5b0 := beq_iff_eq.mpr c5
   have c5b1 := bne_eq_false_iff_eq.mpr c5
   clear c5
   replace H := iteD H
   rcases H with ⟨c6b0, H⟩ | ⟨c6b0, H⟩
   ·
    simp only [Option.some.injEq, Prod.mk.injEq] at H
    obtain ⟨rfl, rfl, rfl, rfl⟩ := H
    go_enter Tryd.func81, Tryd.ntmps81
    go_wp2_with (first | ((with_reducible refine gate_dst (N := 2) rfl ?_); refine bx 2 #[.string a0_0, .int .i64 a0_1, .int .i64 a0_2] 85 ?_; intro gb256 hg w7 hbox hb; have BK256 := am (hbox); have GW256 := gsz hg HB.out; have GE256 := gsz hg HB.out; replace HB := am (below_step (bw HB.out) hb); clear hb hbox hg) | ((with_reducible refine gate_dst (N := 4) rfl ?_); refine bx 4 #[.string (⟨#[]⟩ : ByteArray), .int .i64 0, .int .i64 0] 85 ?_; intro gb257 hg w8 hbox hb; have BK257 := am (hbox); have GW257 := gsz hg HB.out; have GE257 := gsz hg HB.out; have NB256_257 := nlt (g := gb256) hg BK256.out; have NB257_256 := ngt (g := gb256) hg BK256.out; replace BK256 := bb BK256.out hb; replace HB := am (below_step (bws HB.out) hb); clear hb hbox hg; have hnb9 := NB256_257.out; have hnc9 := NB257_256.out; obtain ⟨hcz10_0, hcz10_1, hcz10_2, hfz10_0, hfz10_1, hfz10_2⟩ := cz3 BK256.out) | ((with_reducible refine gate_callee (f := 82) rfl ?_); refine goesL_ (some 18) rfl rfl Tryd.func82 (by kernel_rfl) rfl #[.string a0_0, .int .i64 a0_1] rfl gl ?_; (with_reducible refine (stowageref01_ReadNumber.calls k a0_0 a0_1 t258 t259 t260 _ A4.out).mono ?_); rintro e w' ⟨rfl, ⟨nd, rfl⟩⟩; refine ⟨_, rfl, ?_⟩; (try (rw [drewN_self w8]; generalize hq_ : World.drewN w8 _ = w8; have n0_ : Aside0 (w8.heap[gb256]? = some (.cells #[.string a0_0, .int .i64 a0_1, .int .i64 a0_2] 85 (0, 0))) := ⟨by rw [← hq_]; exact (bk BK256.out)⟩; have n1_ : Aside0 (w8.heap[gb257]? = some (.cells #[.string (⟨#[]⟩ : ByteArray), .int .i64 0, .int .i64 0] 85 (0, 0))) := ⟨by rw [← hq_]; exact (bk BK257.out)⟩; have n2_ : Aside0 (Below w.heap.size w w8) := ⟨by rw [← hq_]; exact (bws HB.out)⟩; clear BK256 BK257 HB hq_; have BK256 := n0_; have BK257 := n1_; have HB := n2_; clear n0_ n1_ n2_)); obtain ⟨hcz11_0, hcz11_1, hcz11_2, hfz11_0, hfz11_1, hfz11_2⟩ := cz3 BK257.out; have hcr256_0 : w8.cell? ⟨gb256, 0, none⟩ = some (.string a0_0) := (blk_cell BK256.out 0).trans rfl; have hfr256_0 := blk_frozen BK256.out 0; have hcr256_1 : w8.cell? ⟨gb256, 1, none⟩ = some (.int .i64 a0_1) := (blk_cell BK256.out 1).trans rfl; have hfr256_1 := blk_frozen BK256.out 1; have hcr256_2 : w8.cell? ⟨gb256, 2, none⟩ = some (.int .i64 a0_2) := (blk_cell BK256.out 2).trans rfl; have hfr256_2 := blk_frozen BK256.out 2))
    refine bodyPost_ret (results_ct rfl _ _ gb257 85 #[.string a0_0, .int .i64 a0_1, .int .i64 2] (0, 0) _ rfl (bkf BK257.out) Tryd.underlying85 rfl (by kernel_rfl)) rfl ?_
    exact ⟨rf, bws HB.out⟩
   ·
    simp only [Option.some.injEq, Prod.mk.injEq] at H
    obtain ⟨rfl, rfl, rfl, rfl⟩ := H
    go_enter Tryd.func81, Tryd.ntmps81
    go_wp2_with (first | ((with_reducible refine gate_dst (N := 2) rfl ?_); refine bx 2 #[.string a0_0, .int .i64 a0_1, .int .i64 a0_2] 85 ?_; intro gb256 hg w12 hbox hb; have BK256 := am (hbox); have GW256 := gsz hg HB.out; have GE256 := gsz hg HB.out; replace HB := am (below_step (bw HB.out) hb); clear hb hbox hg) | ((with_reducible refine gate_dst (N := 4) rfl ?_); refine bx 4 #[.string (⟨#[]⟩ : ByteArray), .int .i64 0, .int .i64 0] 85 ?_; intro gb257 hg w13 hbox hb; have BK257 := am (hbox); have GW257 := gsz hg HB.out; have GE257 := gsz hg HB.out; have NB256_257 := nlt (g := gb256) hg BK256.out; have NB257_256 := ngt (g := gb256) hg BK256.out; replace BK256 := bb BK256.out hb; replace HB := am (below_step (bws HB.out) hb); clear hb hbox hg; have hnb14 := NB256_257.out; have hnc14 := NB257_256.out; obtain ⟨hcz15_0, hcz15_1, hcz15_2, hfz15_0, hfz15_1, hfz15_2⟩ := cz3 BK256.out) | ((with_reducible refine gate_callee (f := 82) rfl ?_); refine goesL_ (some 18) rfl rfl Tryd.func82 (by kernel_rfl) rfl #[.string a0_0, .int .i64 a0_1] rfl gl ?_; (with_reducible refine (stowageref01_ReadNumber.calls k a0_0 a0_1 t258 t259 t260 _ A4.out).mono ?_); rintro e w' ⟨rfl, ⟨nd, rfl⟩⟩; refine ⟨_, rfl, ?_⟩; (try (rw [drewN_self w13]; generalize hq_ : World.drewN w13 _ = w13; have n0_ : Aside0 (w13.heap[gb256]? = some (.cells #[.string a0_0, .int .i64 a0_1, .int .i64 a0_2] 85 (0, 0))) := ⟨by rw [← hq_]; exact (bk BK256.out)⟩; have n1_ : Aside0 (w13.heap[gb257]? = some (.cells #[.string (⟨#[]⟩ : ByteArray), .int .i64 0, .int .i64 0] 85 (0, 0))) := ⟨by rw [← hq_]; exact (bk BK257.out)⟩; have n2_ : Aside0 (Below w.heap.size w w13) := ⟨by rw [← hq_]; exact (bws HB.out)⟩; clear BK256 BK257 HB hq_; have BK256 := n0_; have BK257 := n1_; have HB := n2_; clear n0_ n1_ n2_)); obtain ⟨hcz16_0, hcz16_1, hcz16_2, hfz16_0, hfz16_1, hfz16_2⟩ := cz3 BK257.out; have hcr256_0 : w13.cell? ⟨gb256, 0, none⟩ = some (.string a0_0) := (blk_cell BK256.out 0).trans rfl; have hfr256_0 := blk_frozen BK256.out 0; have hcr256_1 : w13.cell? ⟨gb256, 1, none⟩ = some (.int .i64 a0_1) := (blk_cell BK256.out 1).trans rfl; have hfr256_1 := blk_frozen BK256.out 1; have hcr256_2 : w13.cell? ⟨gb256, 2, none⟩ = some (.int .i64 a0_2) := (blk_cell BK256.out 2).trans rfl; have hfr256_2 := blk_frozen BK256.out 2))
    refine bodyPost_ret (results_ct rfl _ _ gb257 85 #[.string a0_0, .int .i64 t259, .int .i64 a0_2] (0, 0) _ rfl (bkf BK257.out) Tryd.underlying85 rfl (by kernel_rfl)) rfl ?_
    exact ⟨rf, bws HB.out⟩
  ·
   rw [if_neg c5] at H
   have c5b0 := beq_eq_false_iff_ne.mpr c5
   have c5b1 := bne_iff_ne.mpr c5
   simp only [Option.some.injEq, Prod.mk.injEq] at H
   obtain ⟨rfl, rfl, rfl, rfl⟩ := H
   go_enter Tryd.func81, Tryd.ntmps81
   go_wp2_with (first | ((with_reducible refine gate_dst (N := 2) rfl ?_); refine bx 2 #[.string a0_0, .int .i64 a0_1, .int .i64 a0_2] 85 ?_; intro gb256 hg w17 hbox hb; have BK256 := am (hbox); have GW256 := gsz hg HB.out; have GE256 := gsz hg HB.out; replace HB := am (below_step (bw HB.out) hb); clear hb hbox hg) | ((with_reducible refine gate_dst (N := 4) rfl ?_); refine bx 4 #[.string (⟨#[]⟩ : ByteArray), .int .i64 0, .int .i64 0] 85 ?_; intro gb257 hg w18 hbox hb; have BK257 := am (hbox); have GW257 := gsz hg HB.out; have GE257 := gsz hg HB.out; have NB256_257 := nlt (g := gb256) hg BK256.out; have NB257_256 := ngt (g := gb256) hg BK256.out; replace BK256 := bb BK256.out hb; replace HB := am (below_step (bws HB.out) hb); clear hb hbox hg; have hnb19 := NB256_257.out; have hnc19 := NB257_256.out; obtain ⟨hcz20_0, hcz20_1, hcz20_2, hfz20_0, hfz20_1, hfz20_2⟩ := cz3 BK256.out) | ((with_reducible refine gate_callee (f := 82) rfl ?_); refine goesL_ (some 18) rfl rfl Tryd.func82 (by kernel_rfl) rfl #[.string a0_0, .int .i64 a0_1] rfl gl ?_; (with_reducible refine (stowageref01_ReadNumber.calls k a0_0 a0_1 t258 t259 t260 _ A4.out).mono ?_); rintro e w' ⟨rfl, ⟨nd, rfl⟩⟩; refine ⟨_, rfl, ?_⟩; (try (rw [drewN_self w18]; generalize hq_ : World.drewN w18 _ = w18; have n0_ : Aside0 (w18.heap[gb256]? = some (.cells #[.string a0_0, .int .i64 a0_1, .int .i64 a0_2] 85 (0, 0))) := ⟨by rw [← hq_]; exact (bk BK256.out)⟩; have n1_ : Aside0 (w18.heap[gb257]? = some (.cells #[.string (⟨#[]⟩ : ByteArray), .int .i64 0, .int .i64 0] 85 (0, 0))) := ⟨by rw [← hq_]; exact (bk BK257.out)⟩; have n2_ : Aside0 (Below w.heap.size w w18) := ⟨by rw [← hq_]; exact (bws HB.out)⟩; clear BK256 BK257 HB hq_; have BK256 := n0_; have BK257 := n1_; have HB := n2_; clear n0_ n1_ n2_)); obtain ⟨hcz21_0, hcz21_1, hcz21_2, hfz21_0, hfz21_1, hfz21_2⟩ := cz3 BK257.out; have hcr256_0 : w18.cell? ⟨gb256, 0, none⟩ = some (.string a0_0) := (blk_cell BK256.out 0).trans rfl; have hfr256_0 := blk_frozen BK256.out 0; have hcr256_1 : w18.cell? ⟨gb256, 1, none⟩ = some (.int .i64 a0_1) := (blk_cell BK256.out 1).trans rfl; have hfr256_1 := blk_frozen BK256.out 1; have hcr256_2 : w18.cell? ⟨gb256, 2, none⟩ = some (.int .i64 a0_2) := (blk_cell BK256.out 2).trans rfl; have hfr256_2 := blk_frozen BK256.out 2))
   refine bodyPost_ret (results_ct rfl _ _ gb257 85 #[.string a0_0, .int .i64 a0_1, .int .i64 t260] (0, 0) _ rfl (bkf BK257.out) Tryd.underlying85 rfl (by kernel_rfl)) rfl ?_
   exact ⟨rf, bws HB.out⟩
 ·
  rw [if_neg c3] at H
  have c3b0 := beq_eq_false_iff_ne.mpr c3
  have c3b1 := bne_iff_ne.mpr c3
  simp only [Option.some.injEq, Prod.mk.injEq] at H
  obtain ⟨rfl, rfl, rfl, rfl⟩ := H
  go_enter Tryd.func81, Tryd.ntmps81
  go_wp2_with (first | ((with_reducible refine gate_dst (N := 2) rfl ?_); refine bx 2 #[.string a0_0, .int .i64 a0_1, .int .i64 a0_2] 85 ?_; intro gb256 hg w22 hbox hb; have BK256 := am (hbox); have GW256 := gsz hg HB.out; have GE256 := gsz hg HB.out; replace HB := am (below_step (bw HB.out) hb); clear hb hbox hg) | ((with_reducible refine gate_dst (N := 4) rfl ?_); refine bx 4 #[.string (⟨#[]⟩ : ByteArray), .int .i64 0, .int .i64 0] 85 ?_; intro gb257 hg w23 hbox hb; have BK257 := am (hbox); have GW257 := gsz hg HB.out; have GE257 := gsz hg HB.out; have NB256_257 := nlt (g := gb256) hg BK256.out; have NB257_256 := ngt (g := gb256) hg BK256.out; replace BK256 := bb BK256.out hb; replace HB := am (below_step (bws HB.out) hb); clear hb hbox hg; have hnb24 := NB256_257.out; have hnc24 := NB257_256.out; obtain ⟨hcz25_0, hcz25_1, hcz25_2, hfz25_0, hfz25_1, hfz25_2⟩ := cz3 BK256.out; obtain ⟨hcz26_0, hcz26_1, hcz26_2, hfz26_0, hfz26_1, hfz26_2⟩ := cz3 BK257.out))
  refine bodyPost_ret (results_ct rfl _ _ gb257 85 #[.string a0_0, .int .i64 a0_1, .int .i64 a0_2] (0, 0) _ rfl (bkp BK257.out) Tryd.underlying85 rfl (by kernel_rfl)) rfl ?_
  exact ⟨rf, bws HB.out⟩
def stowageref01_Reader_Int.f (k : Nat) (a0_0 : ByteArray) (a0_1 : Int) (a0_2 : Int) (a1 : Int) : Option (ByteArray × Int × Int × Int) := if a1 ≥ 0 then ((stowageref01_Reader_Number.f k a0_0 a0_1 a0_2 (IntKind.u64.wrap (a1))).bind fun bt263 => (some (bt263.1, bt263.2.1, bt263.2.2.1, wrap64 (bt263.2.2.2)))) else (if a0_2 = 0 then ((stowageref01_ReadNumber.f k a0_0 a0_1).bind fun bt268 => (if bt268.2.2 = 0 then (some (a0_0, a0_1, 2, 0)) else (some (a0_0, a0_1, bt268.2.2, 0)))) else (some (a0_0, a0_1, a0_2, 0)))
theorem stowageref01_Reader_Int.mono : ∀ a0 a1 a2 a3 k, LeO (stowageref01_Reader_Int.f k a0 a1 a2 a3) (stowageref01_Reader_Int.f (k + 1) a0 a1 a2 a3) := by
 intro a0 a1 a2 a3 k
 unfold stowageref01_Reader_Int.f
 repeat' (with_reducible first | exact stowageref01_ReadNumber.mono _ _ _ | exact stowageref01_Reader_Number.mono _ _ _ _ _ | exact LeO.refl _ | exact LeO.none _ | refine LeO.ite ?_ ?_ | refine LeO.bind ?_ (fun _ => ?_))
set_option maxHeartbeats 8000000 in
set_option maxRecDepth 100000 in
theorem stowageref01_Reader_Int.calls (k : Nat) (a0_0 : ByteArray) (a0_1 : Int) (a0_2 : Int) (a1 : Int) (r1 : ByteArray) (r2 : Int) (r3 : Int) (r4 : Int) (w : World) (h : stowageref01_Reader_Int.f k a0_0 a0_1 a0_2 a1 = some (r1, r2, r3, r4)) :
  Calls Tryd.prog 52 #[.agg #[.string a0_0, .int .i64 a0_1, .int .i64 a0_2], .int .i64 a1] w fun e w' => e = .returned (.tuple #[.agg #[.string r1, .int .i64 r2, .int .i64 r3], .int .i64 r4]) ∧ Below w.heap.size w w' := by
 have hu85 := Tryd.underlying85
 have HB := am (Below.refl w.heap.size w)
 have H := h
 clear h
 unfold stowageref01_Reader_Int.f at H
 replace H := iteD H
 rcases H with ⟨c3b0, H⟩ | ⟨c3b0, H⟩
 ·
  replace H := obE H
  obtain ⟨⟨t263, t264, t265, t266⟩, A4, H⟩ := H
  try dsimp only at H
  simp only [Option.some.injEq, Prod.mk.injEq] at H
  obtain ⟨rfl, rfl, rfl, rfl⟩ := H
  go_enter Tryd.func52, Tryd.ntmps52
  go_wp2_with (first | ((with_reducible refine gate_dst (N := 2) rfl ?_); refine bx 2 #[.string a0_0, .int .i64 a0_1, .int .i64 a0_2] 85 ?_; intro gb261 hg w5 hbox hb; have BK261 := am (hbox); have GW261 := gsz hg HB.out; have GE261 := gsz hg HB.out; replace HB := am (below_step (bw HB.out) hb); clear hb hbox hg) | ((with_reducible refine gate_dst (N := 4) rfl ?_); refine bx 4 #[.string (⟨#[]⟩ : ByteArray), .int .i64 0, .int .i64 0] 85 ?_; intro gb262 hg w6 hbox hb; have BK262 := am (hbox); have GW262 := gsz hg HB.out; have GE262 := gsz hg HB.out; have NB261_262 := nlt (g := gb261) hg BK261.out; have NB262_261 := ngt (g := gb261) hg BK261.out; replace BK261 := bb BK261.out hb; replace HB := am (below_step (bws HB.out) hb); clear hb hbox hg; have hnb7 := NB261_262.out; have hnc7 := NB262_261.out; obtain ⟨hcz8_0, hcz8_1, hcz8_2, hfz8_0, hfz8_1, hfz8_2⟩ := cz3 BK261.out) | ((with_reducible refine gate_callee (f := 81) rfl ?_); refine goesL_ (some 17) rfl rfl Tryd.func81 (by kernel_rfl) rfl #[.agg #[.string a0_0, .int .i64 a0_1, .int .i64 a0_2], .int .u64 (IntKind.u64.wrap (a1))] rfl gl ?_; (with_reducible refine (stowageref01_Reader_Number.calls k a0_0 a0_1 a0_2 (IntKind.u64.wrap (a1)) t263 t264 t265 t266 _ A4.out).mono ?_); rintro e w9 ⟨rfl, hb⟩; refine ⟨_, rfl, ?_⟩; replace BK261 := bb BK261.out hb; replace BK262 := bb BK262.out hb; replace HB := am (below_step (bws HB.out) hb); (try clear hb)) | ((with_reducible refine gate_dst (N := 6) rfl ?_); refine bx 6 #[.string (⟨#[]⟩ : ByteArray), .int .i64 0, .int .i64 0] 85 ?_; intro gb267 hg w10 hbox hb; have BK267 := am (hbox); have GW267 := gsz hg HB.out; have GE267 := gsz hg HB.out; have NB261_267 := nlt (g := gb261) hg BK261.out; have NB267_261 := ngt (g := gb261) hg BK261.out; have NB262_267 := nlt (g := gb262) hg BK262.out; have NB267_262 := ngt (g := gb262) hg BK262.out; replace BK261 := bb BK261.out hb; replace BK262 := bb BK262.out hb; replace HB := am (below_step (bws HB.out) hb); clear hb hbox hg; have hnb11 := NB267_261.out; have hnc11 := NB261_267.out; have hnb12 := NB267_262.out; have hnc12 := NB262_267.out; obtain ⟨hcz13_0, hcz13_1, hcz13_2, hfz13_0, hfz13_1, hfz13_2⟩ := cz3 BK267.out; obtain ⟨hcz14_0, hcz14_1, hcz14_2, hfz14_0, hfz14_1, hfz14_2⟩ := cz3 BK262.out))
  refine bodyPost_ret (results_ct rfl _ _ gb262 85 #[.string t263, .int .i64 t264, .int .i64 t265] (0, 0) _ rfl (bkf BK262.out) Tryd.underlying85 rfl (by kernel_rfl)) rfl ?_
  exact ⟨rf, bws HB.out⟩
 ·
  by_cases c15 : a0_2 = 0
  ·
   rw [if_pos c15] at H
   have c15b0 := beq_iff_eq.mpr c15
   have c15b1 := bne_eq_false_iff_eq.mpr c15
   clear c15
   replace H := obE H
   obtain ⟨⟨t268, t269, t270⟩, A16, H⟩ := H
   try dsimp only at H
   by_cases c17 : t270 = 0
   ·
    rw [if_pos c17] at H
    have c17b0 := beq_iff_eq.mpr c17
    have c17b1 := bne_eq_false_iff_eq.mpr c17
    clear c17
    simp only [Option.some.injEq, Prod.mk.injEq] at H
    obtain ⟨rfl, rfl, rfl, rfl⟩ := H
    go_enter Tryd.func52, Tryd.ntmps52
    go_wp2_with (first | ((with_reducible refine gate_dst (N := 2) rfl ?_); refine bx 2 #[.string a0_0, .int .i64 a0_1, .int .i64 a0_2] 85 ?_; intro gb261 hg w18 hbox hb; have BK261 := am (hbox); have GW261 := gsz hg HB.out; have GE261 := gsz hg HB.out; replace HB := am (below_step (bw HB.out) hb); clear hb hbox hg) | ((with_reducible refine gate_dst (N := 4) rfl ?_); refine bx 4 #[.string (⟨#[]⟩ : ByteArray), .int .i64 0, .int .i64 0] 85 ?_; intro gb262 hg w19 hbox hb; have BK262 := am (hbox); have GW262 := gsz hg HB.out; have GE262 := gsz hg HB.out; have NB261_262 := nlt (g := gb261) hg BK261.out; have NB262_261 := ngt (g := gb261) hg BK261.out; replace BK261 := bb BK261.out hb; replace HB := am (below_step (bws HB.out) hb); clear hb hbox hg; have hnb20 := NB261_262.out; have hnc20 := NB262_261.out; obtain ⟨hcz21_0, hcz21_1, hcz21_2, hfz21_0, hfz21_1, hfz21_2⟩ := cz3 BK261.out) | ((with_reducible refine gate_callee (f := 82) rfl ?_); refine goesL_ (some 32) rfl rfl Tryd.func82 (by kernel_rfl) rfl #[.string a0_0, .int .i64 a0_1] rfl gl ?_; (with_reducible refine (stowageref01_ReadNumber.calls k a0_0 a0_1 t268 t269 t270 _ A16.out).mono ?_); rintro e w' ⟨rfl, ⟨nd, rfl⟩⟩; refine ⟨_, rfl, ?_⟩; (try (rw [drewN_self w19]; generalize hq_ : World.drewN w19 _ = w19; have n0_ : Aside0 (w19.heap[gb261]? = some (.cells #[.string a0_0, .int .i64 a0_1, .int .i64 a0_2] 85 (0, 0))) := ⟨by rw [← hq_]; exact (bk BK261.out)⟩; have n1_ : Aside0 (w19.heap[gb262]? = some (.cells #[.string (⟨#[]⟩ : ByteArray), .int .i64 0, .int .i64 0] 85 (0, 0))) := ⟨by rw [← hq_]; exact (bk BK262.out)⟩; have n2_ : Aside0 (Below w.heap.size w w19) := ⟨by rw [← hq_]; exact (bws HB.out)⟩; clear BK261 BK262 HB hq_; have BK261 := n0_; have BK262 := n1_; have HB := n2_; clear n0_ n1_ n2_)); obtain ⟨hcz22_0, hcz22_1, hcz22_2, hfz22_0, hfz22_1, hfz22_2⟩ := cz3 BK262.out; have hcr261_0 : w19.cell? ⟨gb261, 0, none⟩ = some (.string a0_0) := (blk_cell BK261.out 0).trans rfl; have hfr261_0 := blk_frozen BK261.out 0; have hcr261_1 : w19.cell? ⟨gb261, 1, none⟩ = some (.int .i64 a0_1) := (blk_cell BK261.out 1).trans rfl; have hfr261_1 := blk_frozen BK261.out 1; have hcr261_2 : w19.cell? ⟨gb261, 2, none⟩ = some (.int .i64 a0_2) := (blk_cell BK261.out 2).trans rfl; have hfr261_2 := blk_frozen BK261.out 2))
    refine bodyPost_ret (results_ct rfl _ _ gb262 85 #[.string a0_0, .int .i64 a0_1, .int .i64 2] (0, 0) _ rfl (bkf BK262.out) Tryd.underlying85 rfl (by kernel_rfl)) rfl ?_
    exact ⟨rf, bws HB.out⟩
   ·
    rw [if_neg c17] at H
    have c17b0 := beq_eq_false_iff_ne.mpr c17
    have c17b1 := bne_iff_ne.mpr c17
    simp only [Option.some.injEq, Prod.mk.injEq] at H
    obtain ⟨rfl, rfl, rfl, rfl⟩ := H
    go_enter Tryd.func52, Tryd.ntmps52
    go_wp2_with (first | ((with_reducible refine gate_dst (N := 2) rfl ?_); refine bx 2 #[.string a0_0, .int .i64 a0_1, .int .i64 a0_2] 85 ?_; intro gb261 hg w23 hbox hb; have BK261 := am (hbox); have GW261 := gsz hg HB.out; have GE261 := gsz hg HB.out; replace HB := am (below_step (bw HB.out) hb); clear hb hbox hg) | ((with_reducible refine gate_dst (N := 4) rfl ?_); refine bx 4 #[.string (⟨#[]⟩ : ByteArray), .int .i64 0, .int .i64 0] 85 ?_; intro gb262 hg w24 hbox hb; have BK262 := am (hbox); have GW262 := gsz hg HB.out; have GE262 := gsz hg HB.out; have NB261_262 := nlt (g := gb261) hg BK261.out; have NB262_261 := ngt (g := gb261) hg BK261.out; replace BK261 := bb BK261.out hb; replace HB := am (below_step (bws HB.out) hb); clear hb hbox hg; have hnb25 := NB261_262.out; have hnc25 := NB262_261.out; obtain ⟨hcz26_0, hcz26_1, hcz26_2, hfz26_0, hfz26_1, hfz26_2⟩ := cz3 BK261.out) | ((with_reducible refine gate_callee (f := 82) rfl ?_); refine goesL_ (some 32) rfl rfl Tryd.func82 (by kernel_rfl) rfl #[.string a0_0, .int .i64 a0_1] rfl gl ?_; (with_reducible refine (stowageref01_ReadNumber.calls k a0_0 a0_1 t268 t269 t270 _ A16.out).mono ?_); rintro e w' ⟨rfl, ⟨nd, rfl⟩⟩; refine ⟨_, rfl, ?_⟩; (try (rw [drewN_self w24]; generalize hq_ : World.drewN w24 _ = w24; have n0_ : Aside0 (w24.heap[gb261]? = some (.cells #[.string a0_0, .int .i64 a0_1, .int .i64 a0_2] 85 (0, 0))) := ⟨by rw [← hq_]; exact (bk BK261.out)⟩; have n1_ : Aside0 (w24.heap[gb262]? = some (.cells #[.string (⟨#[]⟩ : ByteArray), .int .i64 0, .int .i64 0] 85 (0, 0))) := ⟨by rw [← hq_]; exact (bk BK262.out)⟩; have n2_ : Aside0 (Below w.heap.size w w24) := ⟨by rw [← hq_]; exact (bws HB.out)⟩; clear BK261 BK262 HB hq_; have BK261 := n0_; have BK262 := n1_; have HB := n2_; clear n0_ n1_ n2_)); obtain ⟨hcz27_0, hcz27_1, hcz27_2, hfz27_0, hfz27_1, hfz27_2⟩ := cz3 BK262.out; have hcr261_0 : w24.cell? ⟨gb261, 0, none⟩ = some (.string a0_0) := (blk_cell BK261.out 0).trans rfl; have hfr261_0 := blk_frozen BK261.out 0; have hcr261_1 : w24.cell? ⟨gb261, 1, none⟩ = some (.int .i64 a0_1) := (blk_cell BK261.out 1).trans rfl; have hfr261_1 := blk_frozen BK261.out 1; have hcr261_2 : w24.cell? ⟨gb261, 2, none⟩ = some (.int .i64 a0_2) := (blk_cell BK261.out 2).trans rfl; have hfr261_2 := blk_frozen BK261.out 2))
    refine bodyPost_ret (results_ct rfl _ _ gb262 85 #[.string a0_0, .int .i64 a0_1, .int .i64 t270] (0, 0) _ rfl (bkf BK262.out) Tryd.underlying85 rfl (by kernel_rfl)) rfl ?_
    exact ⟨rf, bws HB.out⟩
  ·
   rw [if_neg c15] at H
   have c15b0 := beq_eq_false_iff_ne.mpr c15
   have c15b1 := bne_iff_ne.mpr c15
   simp only [Option.some.injEq, Prod.mk.injEq] at H
   obtain ⟨rfl, rfl, rfl, rfl⟩ := H
   go_enter Tryd.func52, Tryd.ntmps52
   go_wp2_with (first | ((with_reducible refine gate_dst (N := 2) rfl ?_); refine bx 2 #[.string a0_0, .int .i64 a0_1, .int .i64 a0_2] 85 ?_; intro gb261 hg w28 hbox hb; have BK261 := am (hbox); have GW261 := gsz hg HB.out; have GE261 := gsz hg HB.out; replace HB := am (below_step (bw HB.out) hb); clear hb hbox hg) | ((with_reducible refine gate_dst (N := 4) rfl ?_); refine bx 4 #[.string (⟨#[]⟩ : ByteArray), .int .i64 0, .int .i64 0] 85 ?_; intro gb262 hg w29 hbox hb; have BK262 := am (hbox); have GW262 := gsz hg HB.out; have GE262 := gsz hg HB.out; have NB261_262 := nlt (g := gb261) hg BK261.out; have NB262_261 := ngt (g := gb261) hg BK261.out; replace BK261 := bb BK261.out hb; replace HB := am (below_step (bws HB.out) hb); clear hb hbox hg; have hnb30 := NB261_262.out; have hnc30 := NB262_261.out; obtain ⟨hcz31_0, hcz31_1, hcz31_2, hfz31_0, hfz31_1, hfz31_2⟩ := cz3 BK261.out; obtain ⟨hcz32_0, hcz32_1, hcz32_2, hfz32_0, hfz32_1, hfz32_2⟩ := cz3 BK262.out))
   refine bodyPost_ret (results_ct rfl _ _ gb262 85 #[.string a0_0, .int .i64 a0_1, .int .i64 a0_2] (0, 0) _ rfl (bkp BK262.out) Tryd.underlying85 rfl (by kernel_rfl)) rfl ?_
   exact ⟨rf, bws HB.out⟩
def stowageref01_ReadText.f (k : Nat) (a0 : ByteArray) (a1 : Int) : Option (ByteArray × Int × Int) := (stowageref01_ReadNumber.f k a0 a1).bind fun bt271 => (if bt271.2.2 = 0 then (if bt271.1 > (IntKind.u64.wrap ((a0.size : Int))) then (some ((⟨#[]⟩ : ByteArray), 0, 5)) else (if (wrap64 (bt271.1)) > (wrap64 ((a0.size : Int) - bt271.2.1)) then (some ((⟨#[]⟩ : ByteArray), 0, 5)) else (if 0 ≤ bt271.2.1 then (if bt271.2.1 ≤ (wrap64 (bt271.2.1 + (wrap64 (bt271.1)))) then (if (wrap64 (bt271.2.1 + (wrap64 (bt271.1)))) ≤ (a0.size : Int) then (some (a0.extract (bt271.2.1 : Int).toNat ((wrap64 (bt271.2.1 + (wrap64 (bt271.1)))) : Int).toNat, wrap64 (bt271.2.1 + (wrap64 (bt271.1))), 0)) else (none)) else (none)) else (none)))) else (some ((⟨#[]⟩ : ByteArray), 0, bt271.2.2)))
theorem stowageref01_ReadText.mono : ∀ a0 a1 k, LeO (stowageref01_ReadText.f k a0 a1) (stowageref01_ReadText.f (k + 1) a0 a1) := by
 intro a0 a1 k
 unfold stowageref01_ReadText.f
 repeat' (with_reducible first | exact stowageref01_ReadNumber.mono _ _ _ | exact LeO.refl _ | exact LeO.none _ | refine LeO.ite ?_ ?_ | refine LeO.bind ?_ (fun _ => ?_))
set_option maxHeartbeats 8000000 in
set_option maxRecDepth 100000 in
theorem stowageref01_ReadText.calls (k : Nat) (a0 : ByteArray) (a1 : Int) (r1 : ByteArray) (r2 : Int) (r3 : Int) (w : World) (h : stowageref01_ReadText.f k a0 a1 = some (r1, r2, r3)) :
  Calls Tryd.prog 83 #[.string a0, .int .i64 a1] w fun e w' => e = .returned (.tuple #[.string r1, .int .i64 r2, .int .i64 r3]) ∧ Drawn0 w w' := by
 have H := h
 clear h
 unfold stowageref01_ReadText.f at H
 replace H := obE H
 obtain ⟨⟨t271, t272, t273⟩, A3, H⟩ := H
 try dsimp only at H
 by_cases c4 : t273 = 0
 ·
  rw [if_pos c4] at H
  have c4b0 := beq_iff_eq.mpr c4
  have c4b1 := bne_eq_false_iff_eq.mpr c4
  clear c4
  replace H := iteD H
  rcases H with ⟨c5b0, H⟩ | ⟨c5b0, H⟩
  ·
   simp only [Option.some.injEq, Prod.mk.injEq] at H
   obtain ⟨rfl, rfl, rfl⟩ := H
   go_enter Tryd.func83, Tryd.ntmps83
   go_wp2_with (first | ((with_reducible refine gate_callee (f := 82) rfl ?_); refine goesL_ (some 13) rfl rfl Tryd.func82 (by kernel_rfl) rfl #[.string a0, .int .i64 a1] rfl gl ?_; (with_reducible refine (stowageref01_ReadNumber.calls k a0 a1 t271 t272 t273 _ A3.out).mono ?_); rintro e w' ⟨rfl, ⟨nd, rfl⟩⟩; refine ⟨_, rfl, ?_⟩))
   go_ret3
   exact ⟨by first | rfl | (simp; done) | (simp [*]; done), by repeat (first | exact Drawn0.refl _ | apply Drawn0.step)⟩
  ·
   replace H := iteD H
   rcases H with ⟨c6b0, H⟩ | ⟨c6b0, H⟩
   ·
    simp only [Option.some.injEq, Prod.mk.injEq] at H
    obtain ⟨rfl, rfl, rfl⟩ := H
    go_enter Tryd.func83, Tryd.ntmps83
    go_wp2_with (first | ((with_reducible refine gate_callee (f := 82) rfl ?_); refine goesL_ (some 13) rfl rfl Tryd.func82 (by kernel_rfl) rfl #[.string a0, .int .i64 a1] rfl gl ?_; (with_reducible refine (stowageref01_ReadNumber.calls k a0 a1 t271 t272 t273 _ A3.out).mono ?_); rintro e w' ⟨rfl, ⟨nd, rfl⟩⟩; refine ⟨_, rfl, ?_⟩))
    go_ret3
    exact ⟨by first | rfl | (simp; done) | (simp [*]; done), by repeat (first | exact Drawn0.refl _ | apply Drawn0.step)⟩
   ·
    by_cases c7 : 0 ≤ t272
    ·
     rw [if_pos c7] at H
     have c7b0 := eq_true c7
     have c7b1 := decide_eq_true c7
     clear c7
     by_cases c8 : t272 ≤ (wrap64 (t272 + (wrap64 (t271))))
     ·
      rw [if_pos c8] at H
      have c8b0 := eq_true c8
      have c8b1 := decide_eq_true c8
      by_cases c9 : (wrap64 (t272 + (wrap64 (t271)))) ≤ (a0.size : Int)
      ·
       rw [if_pos c9] at H
       have c9b0 := eq_true c9
       have c9b1 := decide_eq_true c9
       simp only [Option.some.injEq, Prod.mk.injEq] at H
       obtain ⟨rfl, rfl, rfl⟩ := H
       go_enter Tryd.func83, Tryd.ntmps83
       go_wp2_with (first | ((with_reducible refine gate_callee (f := 82) rfl ?_); refine goesL_ (some 13) rfl rfl Tryd.func82 (by kernel_rfl) rfl #[.string a0, .int .i64 a1] rfl gl ?_; (with_reducible refine (stowageref01_ReadNumber.calls k a0 a1 t271 t272 t273 _ A3.out).mono ?_); rintro e w' ⟨rfl, ⟨nd, rfl⟩⟩; refine ⟨_, rfl, ?_⟩))
       go_ret3
       exact ⟨by first | rfl | (simp; done) | (simp [*]; done), by repeat (first | exact Drawn0.refl _ | apply Drawn0.step)⟩
      ·
       rw [if_neg c9] at H
       exact absurd H (by simp)
     ·
      rw [if_neg c8] at H
      exact absurd H (by simp)
    ·
     rw [if_neg c7] at H
     exact absurd H (by simp)
 ·
  rw [if_neg c4] at H
  have c4b0 := beq_eq_false_iff_ne.mpr c4
  have c4b1 := bne_iff_ne.mpr c4
  simp only [Option.some.injEq, Prod.mk.injEq] at H
  obtain ⟨rfl, rfl, rfl⟩ := H
  go_enter Tryd.func83, Tryd.ntmps83
  go_wp2_with (first | ((with_reducible refine gate_callee (f := 82) rfl ?_); refine goesL_ (some 13) rfl rfl Tryd.func82 (by kernel_rfl) rfl #[.string a0, .int .i64 a1] rfl gl ?_; (with_reducible refine (stowageref01_ReadNumber.calls k a0 a1 t271 t272 t273 _ A3.out).mono ?_); rintro e w' ⟨rfl, ⟨nd, rfl⟩⟩; refine ⟨_, rfl, ?_⟩))
  go_ret3
  exact ⟨by first | rfl | (simp; done) | (simp [*]; done), by repeat (first | exact Drawn0.refl _ | apply Drawn0.step)⟩
def stowageref01_Reader_Text.f (k : Nat) (a0_0 : ByteArray) (a0_1 : Int) (a0_2 : Int) (a1 : Int) : Option (ByteArray × Int × Int × ByteArray) := if a0_2 = 0 then ((stowageref01_ReadText.f k a0_0 a0_1).bind fun bt276 => (if bt276.2.2 = 0 then (if (bt276.1.size : Int) > a1 then (some (a0_0, a0_1, 2, (⟨#[]⟩ : ByteArray))) else (some (a0_0, bt276.2.1, a0_2, bt276.1))) else (some (a0_0, a0_1, bt276.2.2, (⟨#[]⟩ : ByteArray))))) else (some (a0_0, a0_1, a0_2, (⟨#[]⟩ : ByteArray)))
theorem stowageref01_Reader_Text.mono : ∀ a0 a1 a2 a3 k, LeO (stowageref01_Reader_Text.f k a0 a1 a2 a3) (stowageref01_Reader_Text.f (k + 1) a0 a1 a2 a3) := by
 intro a0 a1 a2 a3 k
 unfold stowageref01_Reader_Text.f
 repeat' (with_reducible first | exact stowageref01_ReadText.mono _ _ _ | exact LeO.refl _ | exact LeO.none _ | refine LeO.ite ?_ ?_ | refine LeO.bind ?_ (fun _ => ?_))
set_option maxHeartbeats 8000000 in
set_option maxRecDepth 100000 in
theorem stowageref01_Reader_Text.calls (k : Nat) (a0_0 : ByteArray) (a0_1 : Int) (a0_2 : Int) (a1 : Int) (r1 : ByteArray) (r2 : Int) (r3 : Int) (r4 : ByteArray) (w : World) (h : stowageref01_Reader_Text.f k a0_0 a0_1 a0_2 a1 = some (r1, r2, r3, r4)) :
  Calls Tryd.prog 53 #[.agg #[.string a0_0, .int .i64 a0_1, .int .i64 a0_2], .int .i64 a1] w fun e w' => e = .returned (.tuple #[.agg #[.string r1, .int .i64 r2, .int .i64 r3], .string r4]) ∧ Below w.heap.size w w' := by
 have hu85 := Tryd.underlying85
 have HB := am (Below.refl w.heap.size w)
 have H := h
 clear h
 unfold stowageref01_Reader_Text.f at H
 by_cases c3 : a0_2 = 0
 ·
  rw [if_pos c3] at H
  have c3b0 := beq_iff_eq.mpr c3
  have c3b1 := bne_eq_false_iff_eq.mpr c3
  clear c3
  replace H := obE H
  obtain ⟨⟨t276, t277, t278⟩, A4, H⟩ := H
  try dsimp only at H
  by_cases c5 : t278 = 0
  ·
   rw [if_pos c5] at H
   have c5b0 := beq_iff_eq.mpr c5
   have c5b1 := bne_eq_false_iff_eq.mpr c5
   clear c5
   replace H := iteD H
   rcases H with ⟨c6b0, H⟩ | ⟨c6b0, H⟩
   ·
    simp only [Option.some.injEq, Prod.mk.injEq] at H
    obtain ⟨rfl, rfl, rfl, rfl⟩ := H
    go_enter Tryd.func53, Tryd.ntmps53
    go_wp2_with (first | ((with_reducible refine gate_dst (N := 2) rfl ?_); refine bx 2 #[.string a0_0, .int .i64 a0_1, .int .i64 a0_2] 85 ?_; intro gb274 hg w7 hbox hb; have BK274 := am (hbox); have GW274 := gsz hg HB.out; have GE274 := gsz hg HB.out; replace HB := am (below_step (bw HB.out) hb); clear hb hbox hg) | ((with_reducible refine gate_dst (N := 4) rfl ?_); refine bx 4 #[.string (⟨#[]⟩ : ByteArray), .int .i64 0, .int .i64 0] 85 ?_; intro gb275 hg w8 hbox hb; have BK275 := am (hbox); have GW275 := gsz hg HB.out; have GE275 := gsz hg HB.out; have NB274_275 := nlt (g := gb274) hg BK274.out; have NB275_274 := ngt (g := gb274) hg BK274.out; replace BK274 := bb BK274.out hb; replace HB := am (below_step (bws HB.out) hb); clear hb hbox hg; have hnb9 := NB274_275.out; have hnc9 := NB275_274.out; obtain ⟨hcz10_0, hcz10_1, hcz10_2, hfz10_0, hfz10_1, hfz10_2⟩ := cz3 BK274.out) | ((with_reducible refine gate_callee (f := 83) rfl ?_); refine goesL_ (some 18) rfl rfl Tryd.func83 (by kernel_rfl) rfl #[.string a0_0, .int .i64 a0_1] rfl gl ?_; (with_reducible refine (stowageref01_ReadText.calls k a0_0 a0_1 t276 t277 t278 _ A4.out).mono ?_); rintro e w' ⟨rfl, ⟨nd, rfl⟩⟩; refine ⟨_, rfl, ?_⟩; (try (rw [drewN_self w8]; generalize hq_ : World.drewN w8 _ = w8; have n0_ : Aside0 (w8.heap[gb274]? = some (.cells #[.string a0_0, .int .i64 a0_1, .int .i64 a0_2] 85 (0, 0))) := ⟨by rw [← hq_]; exact (bk BK274.out)⟩; have n1_ : Aside0 (w8.heap[gb275]? = some (.cells #[.string (⟨#[]⟩ : ByteArray), .int .i64 0, .int .i64 0] 85 (0, 0))) := ⟨by rw [← hq_]; exact (bk BK275.out)⟩; have n2_ : Aside0 (Below w.heap.size w w8) := ⟨by rw [← hq_]; exact (bws HB.out)⟩; clear BK274 BK275 HB hq_; have BK274 := n0_; have BK275 := n1_; have HB := n2_; clear n0_ n1_ n2_)); obtain ⟨hcz11_0, hcz11_1, hcz11_2, hfz11_0, hfz11_1, hfz11_2⟩ := cz3 BK275.out; have hcr274_0 : w8.cell? ⟨gb274, 0, none⟩ = some (.string a0_0) := (blk_cell BK274.out 0).trans rfl; have hfr274_0 := blk_frozen BK274.out 0; have hcr274_1 : w8.cell? ⟨gb274, 1, none⟩ = some (.int .i64 a0_1) := (blk_cell BK274.out 1).trans rfl; have hfr274_1 := blk_frozen BK274.out 1; have hcr274_2 : w8.cell? ⟨gb274, 2, none⟩ = some (.int .i64 a0_2) := (blk_cell BK274.out 2).trans rfl; have hfr274_2 := blk_frozen BK274.out 2))
    refine bodyPost_ret (results_ct rfl _ _ gb275 85 #[.string a0_0, .int .i64 a0_1, .int .i64 2] (0, 0) _ rfl (bkf BK275.out) Tryd.underlying85 rfl (by kernel_rfl)) rfl ?_
    exact ⟨rf, bws HB.out⟩
   ·
    simp only [Option.some.injEq, Prod.mk.injEq] at H
    obtain ⟨rfl, rfl, rfl, rfl⟩ := H
    go_enter Tryd.func53, Tryd.ntmps53
    go_wp2_with (first | ((with_reducible refine gate_dst (N := 2) rfl ?_); refine bx 2 #[.string a0_0, .int .i64 a0_1, .int .i64 a0_2] 85 ?_; intro gb274 hg w12 hbox hb; have BK274 := am (hbox); have GW274 := gsz hg HB.out; have GE274 := gsz hg HB.out; replace HB := am (below_step (bw HB.out) hb); clear hb hbox hg) | ((with_reducible refine gate_dst (N := 4) rfl ?_); refine bx 4 #[.string (⟨#[]⟩ : ByteArray), .int .i64 0, .int .i64 0] 85 ?_; intro gb275 hg w13 hbox hb; have BK275 := am (hbox); have GW275 := gsz hg HB.out; have GE275 := gsz hg HB.out; have NB274_275 := nlt (g := gb274) hg BK274.out; have NB275_274 := ngt (g := gb274) hg BK274.out; replace BK274 := bb BK274.out hb; replace HB := am (below_step (bws HB.out) hb); clear hb hbox hg; have hnb14 := NB274_275.out; have hnc14 := NB275_274.out; obtain ⟨hcz15_0, hcz15_1, hcz15_2, hfz15_0, hfz15_1, hfz15_2⟩ := cz3 BK274.out) | ((with_reducible refine gate_callee (f := 83) rfl ?_); refine goesL_ (some 18) rfl rfl Tryd.func83 (by kernel_rfl) rfl #[.string a0_0, .int .i64 a0_1] rfl gl ?_; (with_reducible refine (stowageref01_ReadText.calls k a0_0 a0_1 t276 t277 t278 _ A4.out).mono ?_); rintro e w' ⟨rfl, ⟨nd, rfl⟩⟩; refine ⟨_, rfl, ?_⟩; (try (rw [drewN_self w13]; generalize hq_ : World.drewN w13 _ = w13; have n0_ : Aside0 (w13.heap[gb274]? = some (.cells #[.string a0_0, .int .i64 a0_1, .int .i64 a0_2] 85 (0, 0))) := ⟨by rw [← hq_]; exact (bk BK274.out)⟩; have n1_ : Aside0 (w13.heap[gb275]? = some (.cells #[.string (⟨#[]⟩ : ByteArray), .int .i64 0, .int .i64 0] 85 (0, 0))) := ⟨by rw [← hq_]; exact (bk BK275.out)⟩; have n2_ : Aside0 (Below w.heap.size w w13) := ⟨by rw [← hq_]; exact (bws HB.out)⟩; clear BK274 BK275 HB hq_; have BK274 := n0_; have BK275 := n1_; have HB := n2_; clear n0_ n1_ n2_)); obtain ⟨hcz16_0, hcz16_1, hcz16_2, hfz16_0, hfz16_1, hfz16_2⟩ := cz3 BK275.out; have hcr274_0 : w13.cell? ⟨gb274, 0, none⟩ = some (.string a0_0) := (blk_cell BK274.out 0).trans rfl; have hfr274_0 := blk_frozen BK274.out 0; have hcr274_1 : w13.cell? ⟨gb274, 1, none⟩ = some (.int .i64 a0_1) := (blk_cell BK274.out 1).trans rfl; have hfr274_1 := blk_frozen BK274.out 1; have hcr274_2 : w13.cell? ⟨gb274, 2, none⟩ = some (.int .i64 a0_2) := (blk_cell BK274.out 2).trans rfl; have hfr274_2 := blk_frozen BK274.out 2))
    refine bodyPost_ret (results_ct rfl _ _ gb275 85 #[.string a0_0, .int .i64 t277, .int .i64 a0_2] (0, 0) _ rfl (bkf BK275.out) Tryd.underlying85 rfl (by kernel_rfl)) rfl ?_
    exact ⟨rf, bws HB.out⟩
  ·
   rw [if_neg c5] at H
   have c5b0 := beq_eq_false_iff_ne.mpr c5
   have c5b1 := bne_iff_ne.mpr c5
   simp only [Option.some.injEq, Prod.mk.injEq] at H
   obtain ⟨rfl, rfl, rfl, rfl⟩ := H
   go_enter Tryd.func53, Tryd.ntmps53
   go_wp2_with (first | ((with_reducible refine gate_dst (N := 2) rfl ?_); refine bx 2 #[.string a0_0, .int .i64 a0_1, .int .i64 a0_2] 85 ?_; intro gb274 hg w17 hbox hb; have BK274 := am (hbox); have GW274 := gsz hg HB.out; have GE274 := gsz hg HB.out; replace HB := am (below_step (bw HB.out) hb); clear hb hbox hg) | ((with_reducible refine gate_dst (N := 4) rfl ?_); refine bx 4 #[.string (⟨#[]⟩ : ByteArray), .int .i64 0, .int .i64 0] 85 ?_; intro gb275 hg w18 hbox hb; have BK275 := am (hbox); have GW275 := gsz hg HB.out; have GE275 := gsz hg HB.out; have NB274_275 := nlt (g := gb274) hg BK274.out; have NB275_274 := ngt (g := gb274) hg BK274.out; replace BK274 := bb BK274.out hb; replace HB := am (below_step (bws HB.out) hb); clear hb hbox hg; have hnb19 := NB274_275.out; have hnc19 := NB275_274.out; obtain ⟨hcz20_0, hcz20_1, hcz20_2, hfz20_0, hfz20_1, hfz20_2⟩ := cz3 BK274.out) | ((with_reducible refine gate_callee (f := 83) rfl ?_); refine goesL_ (some 18) rfl rfl Tryd.func83 (by kernel_rfl) rfl #[.string a0_0, .int .i64 a0_1] rfl gl ?_; (with_reducible refine (stowageref01_ReadText.calls k a0_0 a0_1 t276 t277 t278 _ A4.out).mono ?_); rintro e w' ⟨rfl, ⟨nd, rfl⟩⟩; refine ⟨_, rfl, ?_⟩; (try (rw [drewN_self w18]; generalize hq_ : World.drewN w18 _ = w18; have n0_ : Aside0 (w18.heap[gb274]? = some (.cells #[.string a0_0, .int .i64 a0_1, .int .i64 a0_2] 85 (0, 0))) := ⟨by rw [← hq_]; exact (bk BK274.out)⟩; have n1_ : Aside0 (w18.heap[gb275]? = some (.cells #[.string (⟨#[]⟩ : ByteArray), .int .i64 0, .int .i64 0] 85 (0, 0))) := ⟨by rw [← hq_]; exact (bk BK275.out)⟩; have n2_ : Aside0 (Below w.heap.size w w18) := ⟨by rw [← hq_]; exact (bws HB.out)⟩; clear BK274 BK275 HB hq_; have BK274 := n0_; have BK275 := n1_; have HB := n2_; clear n0_ n1_ n2_)); obtain ⟨hcz21_0, hcz21_1, hcz21_2, hfz21_0, hfz21_1, hfz21_2⟩ := cz3 BK275.out; have hcr274_0 : w18.cell? ⟨gb274, 0, none⟩ = some (.string a0_0) := (blk_cell BK274.out 0).trans rfl; have hfr274_0 := blk_frozen BK274.out 0; have hcr274_1 : w18.cell? ⟨gb274, 1, none⟩ = some (.int .i64 a0_1) := (blk_cell BK274.out 1).trans rfl; have hfr274_1 := blk_frozen BK274.out 1; have hcr274_2 : w18.cell? ⟨gb274, 2, none⟩ = some (.int .i64 a0_2) := (blk_cell BK274.out 2).trans rfl; have hfr274_2 := blk_frozen BK274.out 2))
   refine bodyPost_ret (results_ct rfl _ _ gb275 85 #[.string a0_0, .int .i64 a0_1, .int .i64 t278] (0, 0) _ rfl (bkf BK275.out) Tryd.underlying85 rfl (by kernel_rfl)) rfl ?_
   exact ⟨rf, bws HB.out⟩
 ·
  rw [if_neg c3] at H
  have c3b0 := beq_eq_false_iff_ne.mpr c3
  have c3b1 := bne_iff_ne.mpr c3
  simp only [Option.some.injEq, Prod.mk.injEq] at H
  obtain ⟨rfl, rfl, rfl, rfl⟩ := H
  go_enter Tryd.func53, Tryd.ntmps53
  go_wp2_with (first | ((with_reducible refine gate_dst (N := 2) rfl ?_); refine bx 2 #[.string a0_0, .int .i64 a0_1, .int .i64 a0_2] 85 ?_; intro gb274 hg w22 hbox hb; have BK274 := am (hbox); have GW274 := gsz hg HB.out; have GE274 := gsz hg HB.out; replace HB := am (below_step (bw HB.out) hb); clear hb hbox hg) | ((with_reducible refine gate_dst (N := 4) rfl ?_); refine bx 4 #[.string (⟨#[]⟩ : ByteArray), .int .i64 0, .int .i64 0] 85 ?_; intro gb275 hg w23 hbox hb; have BK275 := am (hbox); have GW275 := gsz hg HB.out; have GE275 := gsz hg HB.out; have NB274_275 := nlt (g := gb274) hg BK274.out; have NB275_274 := ngt (g := gb274) hg BK274.out; replace BK274 := bb BK274.out hb; replace HB := am (below_step (bws HB.out) hb); clear hb hbox hg; have hnb24 := NB274_275.out; have hnc24 := NB275_274.out; obtain ⟨hcz25_0, hcz25_1, hcz25_2, hfz25_0, hfz25_1, hfz25_2⟩ := cz3 BK274.out; obtain ⟨hcz26_0, hcz26_1, hcz26_2, hfz26_0, hfz26_1, hfz26_2⟩ := cz3 BK275.out))
  refine bodyPost_ret (results_ct rfl _ _ gb275 85 #[.string a0_0, .int .i64 a0_1, .int .i64 a0_2] (0, 0) _ rfl (bkp BK275.out) Tryd.underlying85 rfl (by kernel_rfl)) rfl ?_
  exact ⟨rf, bws HB.out⟩
def stowageref01_Reader_End.f (a0_0 : ByteArray) (a0_1 : Int) (a0_2 : Int) : Option (ByteArray × Int × Int) := if a0_2 = 0 then (if a0_1 < (a0_0.size : Int) then (some (a0_0, a0_1, 2)) else (some (a0_0, a0_1, a0_2))) else (some (a0_0, a0_1, a0_2))
set_option maxHeartbeats 8000000 in
set_option maxRecDepth 100000 in
theorem stowageref01_Reader_End.calls (a0_0 : ByteArray) (a0_1 : Int) (a0_2 : Int) (r1 : ByteArray) (r2 : Int) (r3 : Int) (w : World) (h : stowageref01_Reader_End.f a0_0 a0_1 a0_2 = some (r1, r2, r3)) :
  Calls Tryd.prog 56 #[.agg #[.string a0_0, .int .i64 a0_1, .int .i64 a0_2]] w fun e w' => e = .returned (.agg #[.string r1, .int .i64 r2, .int .i64 r3]) ∧ Below w.heap.size w w' := by
 have hu85 := Tryd.underlying85
 have HB := am (Below.refl w.heap.size w)
 have H := h
 clear h
 unfold stowageref01_Reader_End.f at H
 by_cases c2 : a0_2 = 0
 ·
  rw [if_pos c2] at H
  have c2b0 := beq_iff_eq.mpr c2
  have c2b1 := bne_eq_false_iff_eq.mpr c2
  clear c2
  replace H := iteD H
  rcases H with ⟨c3b0, H⟩ | ⟨c3b0, H⟩
  ·
   simp only [Option.some.injEq, Prod.mk.injEq] at H
   obtain ⟨rfl, rfl, rfl⟩ := H
   go_enter Tryd.func56, Tryd.ntmps56
   go_wp2_with (first | ((with_reducible refine gate_dst (N := 1) rfl ?_); (try (refine gate_guard (by rfl) ?_; dsimp only)); refine bx 1 #[.string a0_0, .int .i64 a0_1, .int .i64 a0_2] 85 ?_; intro gb279 hg w4 hbox hb; have BK279 := am (hbox); have GW279 := gsz hg HB.out; have GE279 := gsz hg HB.out; replace HB := am (below_step (bw HB.out) hb); clear hb hbox hg) | ((with_reducible refine gate_dst (N := 2) rfl ?_); (try (refine gate_guard (by rfl) ?_; dsimp only)); refine bx 2 #[.string (⟨#[]⟩ : ByteArray), .int .i64 0, .int .i64 0] 85 ?_; intro gb280 hg w5 hbox hb; have BK280 := am (hbox); have GW280 := gsz hg HB.out; have GE280 := gsz hg HB.out; have NB279_280 := nlt (g := gb279) hg BK279.out; have NB280_279 := ngt (g := gb279) hg BK279.out; replace BK279 := bb BK279.out hb; replace HB := am (below_step (bws HB.out) hb); clear hb hbox hg; have hnb6 := NB279_280.out; have hnc6 := NB280_279.out; obtain ⟨hcz7_0, hcz7_1, hcz7_2, hfz7_0, hfz7_1, hfz7_2⟩ := cz3 BK279.out; obtain ⟨hcz8_0, hcz8_1, hcz8_2, hfz8_0, hfz8_1, hfz8_2⟩ := cz3 BK280.out))
   refine bodyPost_ret (results_cell_row rfl _ _ gb280 85 #[.string a0_0, .int .i64 a0_1, .int .i64 2] (0, 0) _ rfl (bkf BK280.out) Tryd.underlying85 rfl (by kernel_rfl)) rfl ?_
   exact ⟨rf, bws HB.out⟩
  ·
   simp only [Option.some.injEq, Prod.mk.injEq] at H
   obtain ⟨rfl, rfl, rfl⟩ := H
   go_enter Tryd.func56, Tryd.ntmps56
   go_wp2_with (first | ((with_reducible refine gate_dst (N := 1) rfl ?_); (try (refine gate_guard (by rfl) ?_; dsimp only)); refine bx 1 #[.string a0_0, .int .i64 a0_1, .int .i64 a0_2] 85 ?_; intro gb279 hg w9 hbox hb; have BK279 := am (hbox); have GW279 := gsz hg HB.out; have GE279 := gsz hg HB.out; replace HB := am (below_step (bw HB.out) hb); clear hb hbox hg) | ((with_reducible refine gate_dst (N := 2) rfl ?_); (try (refine gate_guard (by rfl) ?_; dsimp only)); refine bx 2 #[.string (⟨#[]⟩ : ByteArray), .int .i64 0, .int .i64 0] 85 ?_; intro gb280 hg w10 hbox hb; have BK280 := am (hbox); have GW280 := gsz hg HB.out; have GE280 := gsz hg HB.out; have NB279_280 := nlt (g := gb279) hg BK279.out; have NB280_279 := ngt (g := gb279) hg BK279.out; replace BK279 := bb BK279.out hb; replace HB := am (below_step (bws HB.out) hb); clear hb hbox hg; have hnb11 := NB279_280.out; have hnc11 := NB280_279.out; obtain ⟨hcz12_0, hcz12_1, hcz12_2, hfz12_0, hfz12_1, hfz12_2⟩ := cz3 BK279.out; obtain ⟨hcz13_0, hcz13_1, hcz13_2, hfz13_0, hfz13_1, hfz13_2⟩ := cz3 BK280.out))
   refine bodyPost_ret (results_cell_row rfl _ _ gb280 85 #[.string a0_0, .int .i64 a0_1, .int .i64 a0_2] (0, 0) _ rfl (bkp BK280.out) Tryd.underlying85 rfl (by kernel_rfl)) rfl ?_
   exact ⟨rf, bws HB.out⟩
 ·
  rw [if_neg c2] at H
  have c2b0 := beq_eq_false_iff_ne.mpr c2
  have c2b1 := bne_iff_ne.mpr c2
  simp only [Option.some.injEq, Prod.mk.injEq] at H
  obtain ⟨rfl, rfl, rfl⟩ := H
  go_enter Tryd.func56, Tryd.ntmps56
  go_wp2_with (first | ((with_reducible refine gate_dst (N := 1) rfl ?_); (try (refine gate_guard (by rfl) ?_; dsimp only)); refine bx 1 #[.string a0_0, .int .i64 a0_1, .int .i64 a0_2] 85 ?_; intro gb279 hg w14 hbox hb; have BK279 := am (hbox); have GW279 := gsz hg HB.out; have GE279 := gsz hg HB.out; replace HB := am (below_step (bw HB.out) hb); clear hb hbox hg) | ((with_reducible refine gate_dst (N := 2) rfl ?_); (try (refine gate_guard (by rfl) ?_; dsimp only)); refine bx 2 #[.string (⟨#[]⟩ : ByteArray), .int .i64 0, .int .i64 0] 85 ?_; intro gb280 hg w15 hbox hb; have BK280 := am (hbox); have GW280 := gsz hg HB.out; have GE280 := gsz hg HB.out; have NB279_280 := nlt (g := gb279) hg BK279.out; have NB280_279 := ngt (g := gb279) hg BK279.out; replace BK279 := bb BK279.out hb; replace HB := am (below_step (bws HB.out) hb); clear hb hbox hg; have hnb16 := NB279_280.out; have hnc16 := NB280_279.out; obtain ⟨hcz17_0, hcz17_1, hcz17_2, hfz17_0, hfz17_1, hfz17_2⟩ := cz3 BK279.out; obtain ⟨hcz18_0, hcz18_1, hcz18_2, hfz18_0, hfz18_1, hfz18_2⟩ := cz3 BK280.out))
  refine bodyPost_ret (results_cell_row rfl _ _ gb280 85 #[.string a0_0, .int .i64 a0_1, .int .i64 a0_2] (0, 0) _ rfl (bkp BK280.out) Tryd.underlying85 rfl (by kernel_rfl)) rfl ?_
  exact ⟨rf, bws HB.out⟩
def stowageref16_DecodeOut.f (k : Nat) (a0 : ByteArray) : Option (Int × Int × ByteArray × Int) := (stowageref01_Reader_Int.f k a0 0 0 999).bind fun bt282 => ((stowageref01_Reader_Int.f k bt282.1 bt282.2.1 bt282.2.2.1 1099511627776).bind fun bt287 => ((stowageref01_Reader_Text.f k bt287.1 bt287.2.1 bt287.2.2.1 64).bind fun bt292 => ((stowageref01_Reader_End.f bt292.1 bt292.2.1 bt292.2.2.1).bind fun bt297 => (if bt297.2.2 = 0 then (some (bt282.2.2.2, bt287.2.2.2, bt292.2.2.2, 0)) else (some (0, 0, (⟨#[]⟩ : ByteArray), 3))))))
theorem stowageref16_DecodeOut.mono : ∀ a0 k, LeO (stowageref16_DecodeOut.f k a0) (stowageref16_DecodeOut.f (k + 1) a0) := by
 intro a0 k
 unfold stowageref16_DecodeOut.f
 repeat' (with_reducible first | exact stowageref01_Reader_Int.mono _ _ _ _ _ | exact stowageref01_Reader_Text.mono _ _ _ _ _ | exact LeO.refl _ | exact LeO.none _ | refine LeO.ite ?_ ?_ | refine LeO.bind ?_ (fun _ => ?_))
set_option maxHeartbeats 8000000 in
set_option maxRecDepth 100000 in
theorem stowageref16_DecodeOut.calls (k : Nat) (a0 : ByteArray) (r1 : Int) (r2 : Int) (r3 : ByteArray) (r4 : Int) (w : World) (h : stowageref16_DecodeOut.f k a0 = some (r1, r2, r3, r4)) :
  Calls Tryd.prog 22 #[.string a0] w fun e w' => e = .returned (.tuple #[.agg #[.int .i64 r1, .int .i64 r2, .string r3], .int .i64 r4]) ∧ Below w.heap.size w w' := by
 have fact_f : ∀ (u0 : ByteArray) (u1 u2 : Int) (W : World), (Instr.field 85 (.agg #[.string u0, .int .i64 u1, .int .i64 u2]) 2).run Tryd.prog W = .ok (.int .i64 u2) W := fun u0 u1 u2 W => (by have h3 : Tryd.prog.underlying 3 = some (.int .i64) := Tryd.underlying3; simp [Instr.field, run_underlying Tryd.underlying85, part, asAgg, isAgg, run_underlying h3])
 have hu52 := Tryd.underlying52
 have hu85 := Tryd.underlying85
 have HB := am (Below.refl w.heap.size w)
 have H := h
 clear h
 unfold stowageref16_DecodeOut.f at H
 replace H := obE H
 obtain ⟨⟨t282, t283, t284, t285⟩, A2, H⟩ := H
 try dsimp only at H
 replace H := obE H
 obtain ⟨⟨t287, t288, t289, t290⟩, A3, H⟩ := H
 try dsimp only at H
 replace H := obE H
 obtain ⟨⟨t292, t293, t294, t295⟩, A4, H⟩ := H
 try dsimp only at H
 replace H := obE H
 obtain ⟨⟨t297, t298, t299⟩, A5, H⟩ := H
 try dsimp only at H
 by_cases c6 : t299 = 0
 ·
  rw [if_pos c6] at H
  have c6b0 := beq_iff_eq.mpr c6
  have c6b1 := bne_eq_false_iff_eq.mpr c6
  clear c6
  simp only [Option.some.injEq, Prod.mk.injEq] at H
  obtain ⟨rfl, rfl, rfl, rfl⟩ := H
  go_enter Tryd.func22, Tryd.ntmps22
  go_wp2_with (first | ((with_reducible refine gate_dst (N := 2) rfl ?_); refine bx 2 #[.int .i64 0, .int .i64 0, .string (⟨#[]⟩ : ByteArray)] 52 ?_; intro gb281 hg w7 hbox hb; have BK281 := am (hbox); have GW281 := gsz hg HB.out; have GE281 := gsz hg HB.out; replace HB := am (below_step (bw HB.out) hb); clear hb hbox hg) | ((with_reducible refine gate_callee (f := 52) rfl ?_); refine goesL_ (some 13) rfl rfl Tryd.func52 (by kernel_rfl) rfl #[.agg #[.string a0, .int .i64 0, .int .i64 0], .int .i64 999] rfl gl ?_; (with_reducible refine (stowageref01_Reader_Int.calls k a0 0 0 999 t282 t283 t284 t285 _ A2.out).mono ?_); rintro e w8 ⟨rfl, hb⟩; refine ⟨_, rfl, ?_⟩; replace BK281 := bb BK281.out hb; replace HB := am (below_step (bws HB.out) hb); (try clear hb)) | ((with_reducible refine gate_dst (N := 4) rfl ?_); refine bx 4 #[.string (⟨#[]⟩ : ByteArray), .int .i64 0, .int .i64 0] 85 ?_; intro gb286 hg w9 hbox hb; have BK286 := am (hbox); have GW286 := gsz hg HB.out; have GE286 := gsz hg HB.out; have NB281_286 := nlt (g := gb281) hg BK281.out; have NB286_281 := ngt (g := gb281) hg BK281.out; replace BK281 := bb BK281.out hb; replace HB := am (below_step (bws HB.out) hb); clear hb hbox hg; have hnb10 := NB286_281.out; have hnc10 := NB281_286.out; obtain ⟨hcz11_0, hcz11_1, hcz11_2, hfz11_0, hfz11_1, hfz11_2⟩ := cz3 BK286.out) | ((with_reducible refine gate_callee (f := 52) rfl ?_); refine goesL_ (some 18) rfl rfl Tryd.func52 (by kernel_rfl) rfl #[.agg #[.string t282, .int .i64 t283, .int .i64 t284], .int .i64 1099511627776] rfl gl ?_; (with_reducible refine (stowageref01_Reader_Int.calls k t282 t283 t284 1099511627776 t287 t288 t289 t290 _ A3.out).mono ?_); rintro e w12 ⟨rfl, hb⟩; refine ⟨_, rfl, ?_⟩; replace BK281 := am (blk_below (g := gb281) (o := .cells #[.int .i64 0, .int .i64 0, .string (⟨#[]⟩ : ByteArray)] 52 (0, 0)) (bkf BK281.out) hb); replace BK286 := am (blk_below (g := gb286) (o := .cells #[.string t282, .int .i64 t283, .int .i64 t284] 85 (0, 0)) (bkp BK286.out) hb); replace HB := am (below_step (bws HB.out) hb); (try clear hb)) | ((with_reducible refine gate_dst (N := 6) rfl ?_); refine bx 6 #[.string (⟨#[]⟩ : ByteArray), .int .i64 0, .int .i64 0] 85 ?_; intro gb291 hg w13 hbox hb; have BK291 := am (hbox); have GW291 := gsz hg HB.out; have GE291 := gsz hg HB.out; have NB281_291 := nlt (g := gb281) hg BK281.out; have NB291_281 := ngt (g := gb281) hg BK281.out; have NB286_291 := nlt (g := gb286) hg BK286.out; have NB291_286 := ngt (g := gb286) hg BK286.out; replace BK281 := bb BK281.out hb; replace BK286 := bb BK286.out hb; replace HB := am (below_step (bws HB.out) hb); clear hb hbox hg; have hnb14 := NB291_281.out; have hnc14 := NB281_291.out; have hnb15 := NB291_286.out; have hnc15 := NB286_291.out; obtain ⟨hcz16_0, hcz16_1, hcz16_2, hfz16_0, hfz16_1, hfz16_2⟩ := cz3 BK291.out) | ((with_reducible refine gate_callee (f := 53) rfl ?_); refine goesL_ (some 23) rfl rfl Tryd.func53 (by kernel_rfl) rfl #[.agg #[.string t287, .int .i64 t288, .int .i64 t289], .int .i64 64] rfl gl ?_; (with_reducible refine (stowageref01_Reader_Text.calls k t287 t288 t289 64 t292 t293 t294 t295 _ A4.out).mono ?_); rintro e w17 ⟨rfl, hb⟩; refine ⟨_, rfl, ?_⟩; replace BK281 := am (blk_below (g := gb281) (o := .cells #[.int .i64 0, .int .i64 0, .string (⟨#[]⟩ : ByteArray)] 52 (0, 0)) (bkf BK281.out) hb); replace BK286 := am (blk_below (g := gb286) (o := .cells #[.string t282, .int .i64 t283, .int .i64 t284] 85 (0, 0)) (bkf BK286.out) hb); replace BK291 := am (blk_below (g := gb291) (o := .cells #[.string t287, .int .i64 t288, .int .i64 t289] 85 (0, 0)) (bkp BK291.out) hb); replace HB := am (below_step (bws HB.out) hb); (try clear hb)) | ((with_reducible refine gate_dst (N := 8) rfl ?_); refine bx 8 #[.string (⟨#[]⟩ : ByteArray), .int .i64 0, .int .i64 0] 85 ?_; intro gb296 hg w18 hbox hb; have BK296 := am (hbox); have GW296 := gsz hg HB.out; have GE296 := gsz hg HB.out; have NB281_296 := nlt (g := gb281) hg BK281.out; have NB296_281 := ngt (g := gb281) hg BK281.out; have NB286_296 := nlt (g := gb286) hg BK286.out; have NB296_286 := ngt (g := gb286) hg BK286.out; have NB291_296 := nlt (g := gb291) hg BK291.out; have NB296_291 := ngt (g := gb291) hg BK291.out; replace BK281 := bb BK281.out hb; replace BK286 := bb BK286.out hb; replace BK291 := bb BK291.out hb; replace HB := am (below_step (bws HB.out) hb); clear hb hbox hg; have hnb19 := NB296_281.out; have hnc19 := NB281_296.out; have hnb20 := NB296_286.out; have hnc20 := NB286_296.out; have hnb21 := NB296_291.out; have hnc21 := NB291_296.out; obtain ⟨hcz22_0, hcz22_1, hcz22_2, hfz22_0, hfz22_1, hfz22_2⟩ := cz3 BK296.out) | ((with_reducible refine gate_callee (f := 56) rfl ?_); refine goesL_ (some 27) rfl rfl Tryd.func56 (by kernel_rfl) rfl #[.agg #[.string t292, .int .i64 t293, .int .i64 t294]] rfl gl ?_; (with_reducible refine (stowageref01_Reader_End.calls t292 t293 t294 t297 t298 t299 _ A5.out).mono ?_); rintro e w23 ⟨rfl, hb⟩; refine ⟨_, rfl, ?_⟩; replace BK281 := am (blk_below (g := gb281) (o := .cells #[.int .i64 0, .int .i64 0, .string (⟨#[]⟩ : ByteArray)] 52 (0, 0)) (bkf BK281.out) hb); replace BK286 := am (blk_below (g := gb286) (o := .cells #[.string t282, .int .i64 t283, .int .i64 t284] 85 (0, 0)) (bkf BK286.out) hb); replace BK291 := am (blk_below (g := gb291) (o := .cells #[.string t287, .int .i64 t288, .int .i64 t289] 85 (0, 0)) (bkf BK291.out) hb); replace BK296 := am (blk_below (g := gb296) (o := .cells #[.string t292, .int .i64 t293, .int .i64 t294] 85 (0, 0)) (bkp BK296.out) hb); replace HB := am (below_step (bws HB.out) hb); (try clear hb); obtain ⟨hcz24_0, hcz24_1, hcz24_2, hfz24_0, hfz24_1, hfz24_2⟩ := cz3 BK281.out))
  refine bodyPost_ret (results_ct rfl _ _ gb281 52 #[.int .i64 t285, .int .i64 t290, .string t295] (0, 0) _ rfl (bkp BK281.out) Tryd.underlying52 rfl (by kernel_rfl)) rfl ?_
  exact ⟨rf, bws HB.out⟩
 ·
  rw [if_neg c6] at H
  have c6b0 := beq_eq_false_iff_ne.mpr c6
  have c6b1 := bne_iff_ne.mpr c6
  simp only [Option.some.injEq, Prod.mk.injEq] at H
  obtain ⟨rfl, rfl, rfl, rfl⟩ := H
  go_enter Tryd.func22, Tryd.ntmps22
  go_wp2_with (first | ((with_reducible refine gate_dst (N := 2) rfl ?_); refine bx 2 #[.int .i64 0, .int .i64 0, .string (⟨#[]⟩ : ByteArray)] 52 ?_; intro gb281 hg w25 hbox hb; have BK281 := am (hbox); have GW281 := gsz hg HB.out; have GE281 := gsz hg HB.out; replace HB := am (below_step (bw HB.out) hb); clear hb hbox hg) | ((with_reducible refine gate_callee (f := 52) rfl ?_); refine goesL_ (some 13) rfl rfl Tryd.func52 (by kernel_rfl) rfl #[.agg #[.string a0, .int .i64 0, .int .i64 0], .int .i64 999] rfl gl ?_; (with_reducible refine (stowageref01_Reader_Int.calls k a0 0 0 999 t282 t283 t284 t285 _ A2.out).mono ?_); rintro e w26 ⟨rfl, hb⟩; refine ⟨_, rfl, ?_⟩; replace BK281 := bb BK281.out hb; replace HB := am (below_step (bws HB.out) hb); (try clear hb)) | ((with_reducible refine gate_dst (N := 4) rfl ?_); refine bx 4 #[.string (⟨#[]⟩ : ByteArray), .int .i64 0, .int .i64 0] 85 ?_; intro gb286 hg w27 hbox hb; have BK286 := am (hbox); have GW286 := gsz hg HB.out; have GE286 := gsz hg HB.out; have NB281_286 := nlt (g := gb281) hg BK281.out; have NB286_281 := ngt (g := gb281) hg BK281.out; replace BK281 := bb BK281.out hb; replace HB := am (below_step (bws HB.out) hb); clear hb hbox hg; have hnb28 := NB286_281.out; have hnc28 := NB281_286.out; obtain ⟨hcz29_0, hcz29_1, hcz29_2, hfz29_0, hfz29_1, hfz29_2⟩ := cz3 BK286.out) | ((with_reducible refine gate_callee (f := 52) rfl ?_); refine goesL_ (some 18) rfl rfl Tryd.func52 (by kernel_rfl) rfl #[.agg #[.string t282, .int .i64 t283, .int .i64 t284], .int .i64 1099511627776] rfl gl ?_; (with_reducible refine (stowageref01_Reader_Int.calls k t282 t283 t284 1099511627776 t287 t288 t289 t290 _ A3.out).mono ?_); rintro e w30 ⟨rfl, hb⟩; refine ⟨_, rfl, ?_⟩; replace BK281 := am (blk_below (g := gb281) (o := .cells #[.int .i64 0, .int .i64 0, .string (⟨#[]⟩ : ByteArray)] 52 (0, 0)) (bkf BK281.out) hb); replace BK286 := am (blk_below (g := gb286) (o := .cells #[.string t282, .int .i64 t283, .int .i64 t284] 85 (0, 0)) (bkp BK286.out) hb); replace HB := am (below_step (bws HB.out) hb); (try clear hb)) | ((with_reducible refine gate_dst (N := 6) rfl ?_); refine bx 6 #[.string (⟨#[]⟩ : ByteArray), .int .i64 0, .int .i64 0] 85 ?_; intro gb291 hg w31 hbox hb; have BK291 := am (hbox); have GW291 := gsz hg HB.out; have GE291 := gsz hg HB.out; have NB281_291 := nlt (g := gb281) hg BK281.out; have NB291_281 := ngt (g := gb281) hg BK281.out; have NB286_291 := nlt (g := gb286) hg BK286.out; have NB291_286 := ngt (g := gb286) hg BK286.out; replace BK281 := bb BK281.out hb; replace BK286 := bb BK286.out hb; replace HB := am (below_step (bws HB.out) hb); clear hb hbox hg; have hnb32 := NB291_281.out; have hnc32 := NB281_291.out; have hnb33 := NB291_286.out; have hnc33 := NB286_291.out; obtain ⟨hcz34_0, hcz34_1, hcz34_2, hfz34_0, hfz34_1, hfz34_2⟩ := cz3 BK291.out) | ((with_reducible refine gate_callee (f := 53) rfl ?_); refine goesL_ (some 23) rfl rfl Tryd.func53 (by kernel_rfl) rfl #[.agg #[.string t287, .int .i64 t288, .int .i64 t289], .int .i64 64] rfl gl ?_; (with_reducible refine (stowageref01_Reader_Text.calls k t287 t288 t289 64 t292 t293 t294 t295 _ A4.out).mono ?_); rintro e w35 ⟨rfl, hb⟩; refine ⟨_, rfl, ?_⟩; replace BK281 := am (blk_below (g := gb281) (o := .cells #[.int .i64 0, .int .i64 0, .string (⟨#[]⟩ : ByteArray)] 52 (0, 0)) (bkf BK281.out) hb); replace BK286 := am (blk_below (g := gb286) (o := .cells #[.string t282, .int .i64 t283, .int .i64 t284] 85 (0, 0)) (bkf BK286.out) hb); replace BK291 := am (blk_below (g := gb291) (o := .cells #[.string t287, .int .i64 t288, .int .i64 t289] 85 (0, 0)) (bkp BK291.out) hb); replace HB := am (below_step (bws HB.out) hb); (try clear hb)) | ((with_reducible refine gate_dst (N := 8) rfl ?_); refine bx 8 #[.string (⟨#[]⟩ : ByteArray), .int .i64 0, .int .i64 0] 85 ?_; intro gb296 hg w36 hbox hb; have BK296 := am (hbox); have GW296 := gsz hg HB.out; have GE296 := gsz hg HB.out; have NB281_296 := nlt (g := gb281) hg BK281.out; have NB296_281 := ngt (g := gb281) hg BK281.out; have NB286_296 := nlt (g := gb286) hg BK286.out; have NB296_286 := ngt (g := gb286) hg BK286.out; have NB291_296 := nlt (g := gb291) hg BK291.out; have NB296_291 := ngt (g := gb291) hg BK291.out; replace BK281 := bb BK281.out hb; replace BK286 := bb BK286.out hb; replace BK291 := bb BK291.out hb; replace HB := am (below_step (bws HB.out) hb); clear hb hbox hg; have hnb37 := NB296_281.out; have hnc37 := NB281_296.out; have hnb38 := NB296_286.out; have hnc38 := NB286_296.out; have hnb39 := NB296_291.out; have hnc39 := NB291_296.out; obtain ⟨hcz40_0, hcz40_1, hcz40_2, hfz40_0, hfz40_1, hfz40_2⟩ := cz3 BK296.out) | ((with_reducible refine gate_callee (f := 56) rfl ?_); refine goesL_ (some 27) rfl rfl Tryd.func56 (by kernel_rfl) rfl #[.agg #[.string t292, .int .i64 t293, .int .i64 t294]] rfl gl ?_; (with_reducible refine (stowageref01_Reader_End.calls t292 t293 t294 t297 t298 t299 _ A5.out).mono ?_); rintro e w41 ⟨rfl, hb⟩; refine ⟨_, rfl, ?_⟩; replace BK281 := am (blk_below (g := gb281) (o := .cells #[.int .i64 0, .int .i64 0, .string (⟨#[]⟩ : ByteArray)] 52 (0, 0)) (bkf BK281.out) hb); replace BK286 := am (blk_below (g := gb286) (o := .cells #[.string t282, .int .i64 t283, .int .i64 t284] 85 (0, 0)) (bkf BK286.out) hb); replace BK291 := am (blk_below (g := gb291) (o := .cells #[.string t287, .int .i64 t288, .int .i64 t289] 85 (0, 0)) (bkf BK291.out) hb); replace BK296 := am (blk_below (g := gb296) (o := .cells #[.string t292, .int .i64 t293, .int .i64 t294] 85 (0, 0)) (bkp BK296.out) hb); replace HB := am (below_step (bws HB.out) hb); (try clear hb); obtain ⟨hcz42_0, hcz42_1, hcz42_2, hfz42_0, hfz42_1, hfz42_2⟩ := cz3 BK281.out))
  refine bodyPost_ret (results_ct rfl _ _ gb281 52 #[.int .i64 0, .int .i64 0, .string (⟨#[]⟩ : ByteArray)] (0, 0) _ rfl (bkp BK281.out) Tryd.underlying52 rfl (by kernel_rfl)) rfl ?_
  exact ⟨rf, bws HB.out⟩
end Go.Proofs.YtdidopoalmkhlaaDoor.Oo
end
section
namespace Go.Proofs.YtdidopoalmkhlaaDoor.Oo
open Go.RowKit Go.Proofs.YtdidopoalmkhlaaDoorW.PrintWords Go.Proofs.YtdidopoalmkhlaaDoorW.PrintLast Go.Proofs.YtdidopoalmkhlaaDoorW.PrintMore
attribute [local go_sem] max2_int min2_int max_two min_two max_three min_three max_four min_four
set_option linter.unusedVariables false
set_option linter.unusedSimpArgs false
attribute [local go_sem high] eqA49 eqA52
mutual
def stowagelaw16_CmdOuts.j0 : Nat → ByteArray → ByteArray → Int → Int → Bool → Int → Int → ByteArray → Int → Int → ByteArray → Option (Bool)
 | 0, _, _, _, _, _, _, _, _, _, _, _ => none
 | k + 1, x1, x5, x6, x10, x54, x301000, x301001, x301002, x310000, x310001, x310002 => if x54 = true then (some false) else (if x6 = 0 then ((cmd_DecodeOut.f k x5).bind fun bt315 => (if bt315.2.2.2 = 0 then (if (!(bt315.1 == x301000) || (!(bt315.2.1 == x301001) || (!(bt315.2.2.1.toList == x301002.toList)))) = true then (some false) else (stowagelaw16_CmdOuts.j1 k x1 x10 x310000 x310001 x310002)) else (some false))) else (stowagelaw16_CmdOuts.j1 k x1 x10 x310000 x310001 x310002))
def stowagelaw16_CmdOuts.j1 : Nat → ByteArray → Int → Int → Int → ByteArray → Option (Bool)
 | 0, _, _, _, _, _ => none
 | k + 1, x1, x10, x310000, x310001, x310002 => if x10 = 0 then ((cmd_EncodeOut.f k x310000 x310001 x310002).bind fun bt320 => (if bt320.2 = 0 then (if bt320.1.toList = x1.toList then ((stowagelaw16_awake.f k).bind fun t322 => (some t322)) else (some false)) else (some false))) else ((stowagelaw16_awake.f k).bind fun t323 => (some t323))
end
def stowagelaw16_CmdOuts.f (k : Nat) (a0_0 : Int) (a0_1 : Int) (a0_2 : ByteArray) (a1 : ByteArray) : Option (Bool) := (cmd_EncodeOut.f k a0_0 a0_1 a0_2).bind fun bt301 => ((stowageref16_EncodeOut.f k a0_0 a0_1 a0_2).bind fun bt303 => ((cmd_DecodeOut.f k a1).bind fun bt305 => ((stowageref16_DecodeOut.f k a1).bind fun bt310 => (if bt301.1.toList = bt303.1.toList then (if bt301.2 = bt303.2 then (if (!(bt305.1 == bt310.1) || (!(bt305.2.1 == bt310.2.1) || (!(bt305.2.2.1.toList == bt310.2.2.1.toList)))) = true then (stowagelaw16_CmdOuts.j0 k a1 bt301.1 bt301.2 bt305.2.2.2 true a0_0 a0_1 a0_2 bt305.1 bt305.2.1 bt305.2.2.1) else (stowagelaw16_CmdOuts.j0 k a1 bt301.1 bt301.2 bt305.2.2.2 (bt305.2.2.2 != bt310.2.2.2) a0_0 a0_1 a0_2 bt305.1 bt305.2.1 bt305.2.2.1)) else (stowagelaw16_CmdOuts.j0 k a1 bt301.1 bt301.2 bt305.2.2.2 true a0_0 a0_1 a0_2 bt305.1 bt305.2.1 bt305.2.2.1)) else (stowagelaw16_CmdOuts.j0 k a1 bt301.1 bt301.2 bt305.2.2.2 true a0_0 a0_1 a0_2 bt305.1 bt305.2.1 bt305.2.2.1)))))
theorem stowagelaw16_CmdOuts.mono_l : ∀ k, (∀ y0 y1 y2 y3 y4 y5 y6 y7 y8 y9 y10, LeO (stowagelaw16_CmdOuts.j0 k y0 y1 y2 y3 y4 y5 y6 y7 y8 y9 y10) (stowagelaw16_CmdOuts.j0 (k + 1) y0 y1 y2 y3 y4 y5 y6 y7 y8 y9 y10)) ∧ (∀ y0 y1 y2 y3 y4, LeO (stowagelaw16_CmdOuts.j1 k y0 y1 y2 y3 y4) (stowagelaw16_CmdOuts.j1 (k + 1) y0 y1 y2 y3 y4))
 | 0 => ⟨fun _ _ _ _ _ _ _ _ _ _ _ r h => by simp [stowagelaw16_CmdOuts.j0] at h, fun _ _ _ _ _ r h => by simp [stowagelaw16_CmdOuts.j1] at h⟩
 | k + 1 => by
  obtain ⟨ih0, ih1⟩ := stowagelaw16_CmdOuts.mono_l k
  refine ⟨?_, ?_⟩
  all_goals intros
  all_goals first | unfold stowagelaw16_CmdOuts.j0 | unfold stowagelaw16_CmdOuts.j1
  all_goals repeat' (with_reducible first | exact ih0 _ _ _ _ _ _ _ _ _ _ _ | exact ih1 _ _ _ _ _ | exact cmd_DecodeOut.mono _ _ | exact cmd_EncodeOut.mono _ _ _ _ | exact stowagelaw16_awake.mono _ | exact stowageref16_DecodeOut.mono _ _ | exact stowageref16_EncodeOut.mono _ _ _ _ | exact LeO.refl _ | exact LeO.none _ | refine LeO.ite ?_ ?_ | refine LeO.bind ?_ (fun _ => ?_))
theorem stowagelaw16_CmdOuts.mono : ∀ a0 a1 a2 a3 k, LeO (stowagelaw16_CmdOuts.f k a0 a1 a2 a3) (stowagelaw16_CmdOuts.f (k + 1) a0 a1 a2 a3) := by
 intro a0 a1 a2 a3 k
 obtain ⟨ih0, ih1⟩ := stowagelaw16_CmdOuts.mono_l k
 unfold stowagelaw16_CmdOuts.f
 repeat' (with_reducible first | exact ih0 _ _ _ _ _ _ _ _ _ _ _ | exact ih1 _ _ _ _ _ | exact cmd_DecodeOut.mono _ _ | exact cmd_EncodeOut.mono _ _ _ _ | exact stowagelaw16_awake.mono _ | exact stowageref16_DecodeOut.mono _ _ | exact stowageref16_EncodeOut.mono _ _ _ _ | exact LeO.refl _ | exact LeO.none _ | refine LeO.ite ?_ ?_ | refine LeO.bind ?_ (fun _ => ?_))
set_option maxHeartbeats 8000000 in
set_option maxRecDepth 100000 in
theorem stowagelaw16_CmdOuts.calls (k : Nat) (a0_0 : Int) (a0_1 : Int) (a0_2 : ByteArray) (a1 : ByteArray) (r : Bool) (w : World) (h : stowagelaw16_CmdOuts.f k a0_0 a0_1 a0_2 a1 = some r) (hG : GG w) :
  Calls Tryd.prog 7 #[.agg #[.int .i64 a0_0, .int .i64 a0_1, .string a0_2], .string a1] w fun e w' => e = .returned (.bool r) ∧ Below w.heap.size w w' := by
 have HG := am hG
 clear hG
 have hu49 := Tryd.underlying49
 have hu52 := Tryd.underlying52
 have HB := am (Below.refl w.heap.size w)
 have H := h
 clear h
 unfold stowagelaw16_CmdOuts.f at H
 replace H := obE H
 obtain ⟨⟨t301, t302⟩, A3, H⟩ := H
 try dsimp only at H
 replace H := obE H
 obtain ⟨⟨t303, t304⟩, A4, H⟩ := H
 try dsimp only at H
 replace H := obE H
 obtain ⟨⟨t305, t306, t307, t308⟩, A5, H⟩ := H
 try dsimp only at H
 replace H := obE H
 obtain ⟨⟨t310, t311, t312, t313⟩, A6, H⟩ := H
 try dsimp only at H
 have HC7 := am H
 clear H
 go_enter Tryd.func7, Tryd.ntmps7
 go_upto_region 5 with (first | ((with_reducible refine gate_dst (N := 2) rfl ?_); refine bx 2 #[.int .i64 a0_0, .int .i64 a0_1, .string a0_2] 49 ?_; intro gb300 hg w8 hbox hb; have BK300 := am (hbox); have GW300 := gsz hg HB.out; have GE300 := gsz hg HB.out; replace HB := am (below_step (bw HB.out) hb); clear hb hbox hg; obtain ⟨hcz9_0, hcz9_1, hcz9_2, hfz9_0, hfz9_1, hfz9_2⟩ := cz3 BK300.out) | ((with_reducible refine gate_callee (f := 19) rfl ?_); refine goesL_ (some 19) rfl rfl Tryd.func19 (by kernel_rfl) rfl #[.agg #[.int .i64 a0_0, .int .i64 a0_1, .string a0_2]] rfl gl ?_; (with_reducible refine (cmd_EncodeOut.calls k a0_0 a0_1 a0_2 t301 t302 _ A3.out).mono ?_); rintro e w10 ⟨rfl, hb⟩; refine ⟨_, rfl, ?_⟩; replace BK300 := bb BK300.out hb; replace HB := am (below_step (bws HB.out) hb); (try clear hb); obtain ⟨hcz11_0, hcz11_1, hcz11_2, hfz11_0, hfz11_1, hfz11_2⟩ := cz3 BK300.out) | ((with_reducible refine gate_callee (f := 20) rfl ?_); refine goesL_ (some 24) rfl rfl Tryd.func20 (by kernel_rfl) rfl #[.agg #[.int .i64 a0_0, .int .i64 a0_1, .string a0_2]] rfl gl ?_; (with_reducible refine (stowageref16_EncodeOut.calls k a0_0 a0_1 a0_2 t303 t304 _ A4.out).mono ?_); rintro e w12 ⟨rfl, hb⟩; refine ⟨_, rfl, ?_⟩; replace BK300 := bb BK300.out hb; replace HB := am (below_step (bws HB.out) hb); (try clear hb)) | ((with_reducible refine gate_callee (f := 21) rfl ?_); refine goesL_ (some 29) rfl rfl Tryd.func21 (by kernel_rfl) rfl #[.string a1] rfl gl ?_; (with_reducible refine (cmd_DecodeOut.calls k a1 t305 t306 t307 t308 _ A5.out).mono ?_); rintro e w13 ⟨rfl, hb⟩; refine ⟨_, rfl, ?_⟩; replace BK300 := bb BK300.out hb; replace HB := am (below_step (bws HB.out) hb); (try clear hb)) | ((with_reducible refine gate_dst (N := 9) rfl ?_); refine bx 9 #[.int .i64 0, .int .i64 0, .string (⟨#[]⟩ : ByteArray)] 49 ?_; intro gb309 hg w14 hbox hb; have BK309 := am (hbox); have GW309 := gsz hg HB.out; have GE309 := gsz hg HB.out; have NB300_309 := nlt (g := gb300) hg BK300.out; have NB309_300 := ngt (g := gb300) hg BK300.out; replace BK300 := bb BK300.out hb; replace HB := am (below_step (bws HB.out) hb); clear hb hbox hg; have hnb15 := NB309_300.out; have hnc15 := NB300_309.out; obtain ⟨hcz16_0, hcz16_1, hcz16_2, hfz16_0, hfz16_1, hfz16_2⟩ := cz3 BK309.out) | ((with_reducible refine gate_callee (f := 22) rfl ?_); refine goesL_ (some 34) rfl rfl Tryd.func22 (by kernel_rfl) rfl #[.string a1] rfl gl ?_; (with_reducible refine (stowageref16_DecodeOut.calls k a1 t310 t311 t312 t313 _ A6.out).mono ?_); rintro e w17 ⟨rfl, hb⟩; refine ⟨_, rfl, ?_⟩; replace BK300 := am (blk_below (g := gb300) (o := .cells #[.int .i64 a0_0, .int .i64 a0_1, .string a0_2] 49 (0, 0)) (bkf BK300.out) hb); replace BK309 := am (blk_below (g := gb309) (o := .cells #[.int .i64 t305, .int .i64 t306, .string t307] 49 (0, 0)) (bkp BK309.out) hb); replace HB := am (below_step (bws HB.out) hb); (try clear hb)) | ((with_reducible refine gate_dst (N := 11) rfl ?_); refine bx 11 #[.int .i64 0, .int .i64 0, .string (⟨#[]⟩ : ByteArray)] 52 ?_; intro gb314 hg w18 hbox hb; have BK314 := am (hbox); have GW314 := gsz hg HB.out; have GE314 := gsz hg HB.out; have NB300_314 := nlt (g := gb300) hg BK300.out; have NB314_300 := ngt (g := gb300) hg BK300.out; have NB309_314 := nlt (g := gb309) hg BK309.out; have NB314_309 := ngt (g := gb309) hg BK309.out; replace BK300 := bb BK300.out hb; replace BK309 := bb BK309.out hb; replace HB := am (below_step (bws HB.out) hb); clear hb hbox hg; have hnb19 := NB314_300.out; have hnc19 := NB300_314.out; have hnb20 := NB314_309.out; have hnc20 := NB309_314.out; obtain ⟨hcz21_0, hcz21_1, hcz21_2, hfz21_0, hfz21_1, hfz21_2⟩ := cz3 BK314.out))
 (try simp only [Act.put, List.setIfInBounds_toArray, List.set_cons_zero, List.set_cons_succ])
 go_cut [54] (fun v54 wc => ∃ (kq : Nat) (x54_6 : Bool), v54 = .bool x54_6 ∧ Aside0 (stowagelaw16_CmdOuts.j0 kq a1 t301 t302 t308 x54_6 a0_0 a0_1 a0_2 t305 t306 t307 = some r) ∧ Aside0 (kq ≤ k) ∧ Aside0 (wc.heap[gb300]? = some (.cells #[.int .i64 a0_0, .int .i64 a0_1, .string a0_2] 49 (0, 0))) ∧ Aside0 (wc.heap[gb309]? = some (.cells #[.int .i64 t305, .int .i64 t306, .string t307] 49 (0, 0))) ∧ Aside0 (wc.heap[gb314]? = some (.cells #[.int .i64 t310, .int .i64 t311, .string t312] 52 (0, 0))) ∧ Aside0 (Below w.heap.size w wc))
 case first =>
  have H := HC7.out
  clear HC7
  by_cases c22 : t301.toList = t303.toList
  ·
   rw [if_pos c22] at H
   have c22b0 := beq_iff_eq.mpr c22
   have c22b1 := bne_eq_false_iff_eq.mpr c22
   clear c22
   (first | rw [c22b0] | (simp only [i64_w, i32_w]; rw [c22b0]) | skip)
   by_cases c23 : t302 = t304
   ·
    rw [if_pos c23] at H
    have c23b0 := beq_iff_eq.mpr c23
    have c23b1 := bne_eq_false_iff_eq.mpr c23
    clear c23
    by_cases c24 : (!(t305 == t310) || (!(t306 == t311) || (!(t307.toList == t312.toList)))) = true
    ·
     rw [if_pos c24] at H
     have c24b0 : (!(t305 == t310) || (!(t306 == t311) || (!(t307.toList == t312.toList)))) = true := c24
     clear c24
     have H' := am H
     clear H
     have hnb25 := NB309_300.out
     have hnc25 := NB300_309.out
     have hnb26 := NB309_314.out
     have hnc26 := NB314_309.out
     obtain ⟨hcz27_0, hcz27_1, hcz27_2, hfz27_0, hfz27_1, hfz27_2⟩ := cz3 BK309.out
     have hnb28 := NB314_300.out
     have hnc28 := NB300_314.out
     obtain ⟨hcz29_0, hcz29_1, hcz29_2, hfz29_0, hfz29_1, hfz29_2⟩ := cz3 BK314.out
     go_wp2
     go_meet
     case rel => exact ⟨_, (true), rs, H', ⟨om⟩, ⟨bkf BK300.out⟩, ⟨bkf BK309.out⟩, ⟨bkp BK314.out⟩, ⟨bws HB.out⟩⟩
    ·
     rw [if_neg c24] at H
     have c24b0 : (!(t305 == t310) || (!(t306 == t311) || (!(t307.toList == t312.toList)))) = false := by simpa using c24
     clear c24
     have H' := am H
     clear H
     have hnb30 := NB309_300.out
     have hnc30 := NB300_309.out
     have hnb31 := NB309_314.out
     have hnc31 := NB314_309.out
     obtain ⟨hcz32_0, hcz32_1, hcz32_2, hfz32_0, hfz32_1, hfz32_2⟩ := cz3 BK309.out
     have hnb33 := NB314_300.out
     have hnc33 := NB300_314.out
     obtain ⟨hcz34_0, hcz34_1, hcz34_2, hfz34_0, hfz34_1, hfz34_2⟩ := cz3 BK314.out
     go_wp2
     go_meet
     case rel => exact ⟨_, ((t308 != t313)), rs, H', ⟨om⟩, ⟨bkf BK300.out⟩, ⟨bkf BK309.out⟩, ⟨bkp BK314.out⟩, ⟨bws HB.out⟩⟩
   ·
    rw [if_neg c23] at H
    have c23b0 := beq_eq_false_iff_ne.mpr c23
    have c23b1 := bne_iff_ne.mpr c23
    have H' := am H
    clear H
    go_wp2
    go_meet
    case rel => exact ⟨_, (true), rs, H', ⟨om⟩, ⟨bkf BK300.out⟩, ⟨bkf BK309.out⟩, ⟨bkp BK314.out⟩, ⟨bws HB.out⟩⟩
  ·
   rw [if_neg c22] at H
   have c22b0 := beq_eq_false_iff_ne.mpr c22
   have c22b1 := bne_iff_ne.mpr c22
   (first | rw [c22b0] | (simp only [i64_w, i32_w]; rw [c22b0]) | skip)
   have H' := am H
   clear H
   go_wp2
   go_meet
   case rel => exact ⟨_, (true), rs, H', ⟨om⟩, ⟨bkf BK300.out⟩, ⟨bkf BK309.out⟩, ⟨bkp BK314.out⟩, ⟨bws HB.out⟩⟩
 case rest =>
  clear HC7
  try clear c1
  try clear c2
  try clear p2
  try clear c3
  try clear c7
  try clear c15
  try clear c19
  try clear c20
  try clear c21
  try clear c22
  try clear c22b0
  try clear c22b1
  try clear c23
  try clear c23b0
  try clear c23b1
  try clear c24
  try clear c24b0
  try clear c25
  try clear c26
  try clear c28
  try clear c30
  try clear c31
  try clear c33
  try clear hcz11_0
  try clear hcz11_1
  try clear hcz11_2
  try clear hcz16_0
  try clear hcz16_1
  try clear hcz16_2
  try clear hcz21_0
  try clear hcz21_1
  try clear hcz21_2
  try clear hcz27_0
  try clear hcz27_1
  try clear hcz27_2
  try clear hcz29_0
  try clear hcz29_1
  try clear hcz29_2
  try clear hcz32_0
  try clear hcz32_1
  try clear hcz32_2
  try clear hcz34_0
  try clear hcz34_1
  try clear hcz34_2
  try clear hcz9_0
  try clear hcz9_1
  try clear hcz9_2
  try clear hfz11_0
  try clear hfz11_1
  try clear hfz11_2
  try clear hfz16_0
  try clear hfz16_1
  try clear hfz16_2
  try clear hfz21_0
  try clear hfz21_1
  try clear hfz21_2
  try clear hfz27_0
  try clear hfz27_1
  try clear hfz27_2
  try clear hfz29_0
  try clear hfz29_1
  try clear hfz29_2
  try clear hfz32_0
  try clear hfz32_1
  try clear hfz32_2
  try clear hfz34_0
  try clear hfz34_1
  try clear hfz34_2
  try clear hfz9_0
  try clear hfz9_1
  try clear hfz9_2
  obtain ⟨kq, x54_6, rfl, HA, HJ6, BK300, BK309, BK314, HB⟩ := hcut
  cases kq with
  | zero => exact absurd HA.out (by simp [stowagelaw16_CmdOuts.j0])
  | succ kj6 =>
   have H := HA.out
   clear HA
   simp only [stowagelaw16_CmdOuts.j0] at H
   by_cases c35 : x54_6 = true
   ·
    subst c35
    rw [if_pos rfl] at H
    obtain rfl := Option.some.inj H
    go_wp2
    go_ret
    exact ⟨rf, bws HB.out⟩
   ·
    replace c35 := Bool.eq_false_iff.mpr c35
    subst c35
    rw [if_neg (show ¬ (false = true) by decide)] at H
    have HC36 := am H
    clear H
    go_upto_if 56 with (fail)
    go_cut [] (fun wc => ∃ (kq : Nat), Aside0 (stowagelaw16_CmdOuts.j1 kq a1 t308 t305 t306 t307 = some r) ∧ Aside0 (kq ≤ kj6) ∧ Aside0 (wc.heap[gb300]? = some (.cells #[.int .i64 a0_0, .int .i64 a0_1, .string a0_2] 49 (0, 0))) ∧ Aside0 (wc.heap[gb309]? = some (.cells #[.int .i64 t305, .int .i64 t306, .string t307] 49 (0, 0))) ∧ Aside0 (wc.heap[gb314]? = some (.cells #[.int .i64 t310, .int .i64 t311, .string t312] 52 (0, 0))) ∧ Aside0 (Below w.heap.size w wc))
    case first =>
     have H := HC36.out
     clear HC36
     by_cases c37 : t302 = 0
     ·
      rw [if_pos c37] at H
      have c37b0 := beq_iff_eq.mpr c37
      have c37b1 := bne_eq_false_iff_eq.mpr c37
      clear c37
      (first | rw [c37b0] | (simp only [i64_w, i32_w]; rw [c37b0]) | skip)
      replace H := obE H
      obtain ⟨⟨t315, t316, t317, t318⟩, A38, H⟩ := H
      try dsimp only at H
      by_cases c39 : t318 = 0
      ·
       rw [if_pos c39] at H
       have c39b0 := beq_iff_eq.mpr c39
       have c39b1 := bne_eq_false_iff_eq.mpr c39
       clear c39
       by_cases c40 : (!(t315 == a0_0) || (!(t316 == a0_1) || (!(t317.toList == a0_2.toList)))) = true
       ·
        rw [if_pos c40] at H
        have c40b0 : (!(t315 == a0_0) || (!(t316 == a0_1) || (!(t317.toList == a0_2.toList)))) = true := c40
        clear c40
        obtain rfl := Option.some.inj H
        go_wp2_with (first | ((with_reducible refine gate_callee (f := 21) rfl ?_); refine goesL_ (some 59) rfl rfl Tryd.func21 (by kernel_rfl) rfl #[.string t301] rfl gl ?_; (with_reducible refine (cmd_DecodeOut.calls kj6 t301 t315 t316 t317 t318 _ A38.out).mono ?_); rintro e w41 ⟨rfl, hb⟩; refine ⟨_, rfl, ?_⟩; replace BK300 := bb BK300.out hb; replace BK309 := bb BK309.out hb; replace BK314 := bb BK314.out hb; replace HB := am (below_step (bws HB.out) hb); (try clear hb)) | ((with_reducible refine gate_dst (N := 13) rfl ?_); refine bx 13 #[.int .i64 0, .int .i64 0, .string (⟨#[]⟩ : ByteArray)] 49 ?_; intro gb319 hg w42 hbox hb; have BK319 := am (hbox); have GW319 := gsz hg HB.out; have GE319 := gsz hg HB.out; have NB300_319 := nlt (g := gb300) hg BK300.out; have NB319_300 := ngt (g := gb300) hg BK300.out; have NB309_319 := nlt (g := gb309) hg BK309.out; have NB319_309 := ngt (g := gb309) hg BK309.out; have NB314_319 := nlt (g := gb314) hg BK314.out; have NB319_314 := ngt (g := gb314) hg BK314.out; replace BK300 := bb BK300.out hb; replace BK309 := bb BK309.out hb; replace BK314 := bb BK314.out hb; replace HB := am (below_step (bws HB.out) hb); clear hb hbox hg; have hnb43 := NB319_300.out; have hnc43 := NB300_319.out; have hnb44 := NB319_309.out; have hnc44 := NB309_319.out; have hnb45 := NB319_314.out; have hnc45 := NB314_319.out; obtain ⟨hcz46_0, hcz46_1, hcz46_2, hfz46_0, hfz46_1, hfz46_2⟩ := cz3 BK319.out; have hnb47 := NB300_309.out; have hnc47 := NB309_300.out; have hnb48 := NB300_314.out; have hnc48 := NB314_300.out; obtain ⟨hcz49_0, hcz49_1, hcz49_2, hfz49_0, hfz49_1, hfz49_2⟩ := cz3 BK300.out))
        go_ret
        exact ⟨rf, bws HB.out⟩
       ·
        rw [if_neg c40] at H
        have c40b0 : (!(t315 == a0_0) || (!(t316 == a0_1) || (!(t317.toList == a0_2.toList)))) = false := by simpa using c40
        clear c40
        have H' := am H
        clear H
        go_wp2_with (first | ((with_reducible refine gate_callee (f := 21) rfl ?_); refine goesL_ (some 59) rfl rfl Tryd.func21 (by kernel_rfl) rfl #[.string t301] rfl gl ?_; (with_reducible refine (cmd_DecodeOut.calls kj6 t301 t315 t316 t317 t318 _ A38.out).mono ?_); rintro e w50 ⟨rfl, hb⟩; refine ⟨_, rfl, ?_⟩; replace BK300 := bb BK300.out hb; replace BK309 := bb BK309.out hb; replace BK314 := bb BK314.out hb; replace HB := am (below_step (bws HB.out) hb); (try clear hb)) | ((with_reducible refine gate_dst (N := 13) rfl ?_); refine bx 13 #[.int .i64 0, .int .i64 0, .string (⟨#[]⟩ : ByteArray)] 49 ?_; intro gb319 hg w51 hbox hb; have BK319 := am (hbox); have GW319 := gsz hg HB.out; have GE319 := gsz hg HB.out; have NB300_319 := nlt (g := gb300) hg BK300.out; have NB319_300 := ngt (g := gb300) hg BK300.out; have NB309_319 := nlt (g := gb309) hg BK309.out; have NB319_309 := ngt (g := gb309) hg BK309.out; have NB314_319 := nlt (g := gb314) hg BK314.out; have NB319_314 := ngt (g := gb314) hg BK314.out; replace BK300 := bb BK300.out hb; replace BK309 := bb BK309.out hb; replace BK314 := bb BK314.out hb; replace HB := am (below_step (bws HB.out) hb); clear hb hbox hg; have hnb52 := NB319_300.out; have hnc52 := NB300_319.out; have hnb53 := NB319_309.out; have hnc53 := NB309_319.out; have hnb54 := NB319_314.out; have hnc54 := NB314_319.out; obtain ⟨hcz55_0, hcz55_1, hcz55_2, hfz55_0, hfz55_1, hfz55_2⟩ := cz3 BK319.out; have hnb56 := NB300_309.out; have hnc56 := NB309_300.out; have hnb57 := NB300_314.out; have hnc57 := NB314_300.out; obtain ⟨hcz58_0, hcz58_1, hcz58_2, hfz58_0, hfz58_1, hfz58_2⟩ := cz3 BK300.out))
        go_meet
        case rel => exact ⟨_, H', ⟨by have := HJ6.out; first | omega | exact Nat.le_refl _⟩, ⟨bkf BK300.out⟩, ⟨bkf BK309.out⟩, ⟨bkf BK314.out⟩, ⟨bws HB.out⟩⟩
      ·
       rw [if_neg c39] at H
       have c39b0 := beq_eq_false_iff_ne.mpr c39
       have c39b1 := bne_iff_ne.mpr c39
       obtain rfl := Option.some.inj H
       go_wp2_with (first | ((with_reducible refine gate_callee (f := 21) rfl ?_); refine goesL_ (some 59) rfl rfl Tryd.func21 (by kernel_rfl) rfl #[.string t301] rfl gl ?_; (with_reducible refine (cmd_DecodeOut.calls kj6 t301 t315 t316 t317 t318 _ A38.out).mono ?_); rintro e w59 ⟨rfl, hb⟩; refine ⟨_, rfl, ?_⟩; replace BK300 := bb BK300.out hb; replace BK309 := bb BK309.out hb; replace BK314 := bb BK314.out hb; replace HB := am (below_step (bws HB.out) hb); (try clear hb)) | ((with_reducible refine gate_dst (N := 13) rfl ?_); refine bx 13 #[.int .i64 0, .int .i64 0, .string (⟨#[]⟩ : ByteArray)] 49 ?_; intro gb319 hg w60 hbox hb; have BK319 := am (hbox); have GW319 := gsz hg HB.out; have GE319 := gsz hg HB.out; have NB300_319 := nlt (g := gb300) hg BK300.out; have NB319_300 := ngt (g := gb300) hg BK300.out; have NB309_319 := nlt (g := gb309) hg BK309.out; have NB319_309 := ngt (g := gb309) hg BK309.out; have NB314_319 := nlt (g := gb314) hg BK314.out; have NB319_314 := ngt (g := gb314) hg BK314.out; replace BK300 := bb BK300.out hb; replace BK309 := bb BK309.out hb; replace BK314 := bb BK314.out hb; replace HB := am (below_step (bws HB.out) hb); clear hb hbox hg; have hnb61 := NB319_300.out; have hnc61 := NB300_319.out; have hnb62 := NB319_309.out; have hnc62 := NB309_319.out; have hnb63 := NB319_314.out; have hnc63 := NB314_319.out; obtain ⟨hcz64_0, hcz64_1, hcz64_2, hfz64_0, hfz64_1, hfz64_2⟩ := cz3 BK319.out))
       go_ret
       exact ⟨rf, bws HB.out⟩
     ·
      rw [if_neg c37] at H
      have c37b0 := beq_eq_false_iff_ne.mpr c37
      have c37b1 := bne_iff_ne.mpr c37
      (first | rw [c37b0] | (simp only [i64_w, i32_w]; rw [c37b0]) | skip)
      have H' := am H
      clear H
      go_wp2
      go_meet
      case rel => exact ⟨_, H', ⟨by have := HJ6.out; first | omega | exact Nat.le_refl _⟩, ⟨bk BK300.out⟩, ⟨bk BK309.out⟩, ⟨bk BK314.out⟩, ⟨bws HB.out⟩⟩
    case rest =>
     clear HC36
     try clear c1
     try clear c2
     try clear p2
     try clear c3
     try clear c4
     try clear c5
     try clear c6
     try clear c7
     try clear c15
     try clear c19
     try clear c20
     try clear c21
     try clear c22
     try clear c22b0
     try clear c22b1
     try clear c23
     try clear c23b0
     try clear c23b1
     try clear c24
     try clear c24b0
     try clear c25
     try clear c26
     try clear c28
     try clear c30
     try clear c31
     try clear c33
     try clear c35
     try clear c37
     try clear c37b0
     try clear c37b1
     try clear c39
     try clear c39b0
     try clear c39b1
     try clear c40
     try clear c40b0
     try clear c43
     try clear c44
     try clear c45
     try clear c47
     try clear c48
     try clear c52
     try clear c53
     try clear c54
     try clear c56
     try clear c57
     try clear c61
     try clear c62
     try clear c63
     try clear hcz11_0
     try clear hcz11_1
     try clear hcz11_2
     try clear hcz16_0
     try clear hcz16_1
     try clear hcz16_2
     try clear hcz21_0
     try clear hcz21_1
     try clear hcz21_2
     try clear hcz27_0
     try clear hcz27_1
     try clear hcz27_2
     try clear hcz29_0
     try clear hcz29_1
     try clear hcz29_2
     try clear hcz32_0
     try clear hcz32_1
     try clear hcz32_2
     try clear hcz34_0
     try clear hcz34_1
     try clear hcz34_2
     try clear hcz46_0
     try clear hcz46_1
     try clear hcz46_2
     try clear hcz49_0
     try clear hcz49_1
     try clear hcz49_2
     try clear hcz55_0
     try clear hcz55_1
     try clear hcz55_2
     try clear hcz58_0
     try clear hcz58_1
     try clear hcz58_2
     try clear hcz64_0
     try clear hcz64_1
     try clear hcz64_2
     try clear hcz9_0
     try clear hcz9_1
     try clear hcz9_2
     try clear hfz11_0
     try clear hfz11_1
     try clear hfz11_2
     try clear hfz16_0
     try clear hfz16_1
     try clear hfz16_2
     try clear hfz21_0
     try clear hfz21_1
     try clear hfz21_2
     try clear hfz27_0
     try clear hfz27_1
     try clear hfz27_2
     try clear hfz29_0
     try clear hfz29_1
     try clear hfz29_2
     try clear hfz32_0
     try clear hfz32_1
     try clear hfz32_2
     try clear hfz34_0
     try clear hfz34_1
     try clear hfz34_2
     try clear hfz46_0
     try clear hfz46_1
     try clear hfz46_2
     try clear hfz49_0
     try clear hfz49_1
     try clear hfz49_2
     try clear hfz55_0
     try clear hfz55_1
     try clear hfz55_2
     try clear hfz58_0
     try clear hfz58_1
     try clear hfz58_2
     try clear hfz64_0
     try clear hfz64_1
     try clear hfz64_2
     try clear hfz9_0
     try clear hfz9_1
     try clear hfz9_2
     try clear p2
     obtain ⟨kq, HA, HJ35, BK300, BK309, BK314, HB⟩ := hcut
     cases kq with
     | zero => exact absurd HA.out (by simp [stowagelaw16_CmdOuts.j1])
     | succ kj35 =>
      have H := HA.out
      clear HA
      simp only [stowagelaw16_CmdOuts.j1] at H
      by_cases c65 : t308 = 0
      ·
       rw [if_pos c65] at H
       have c65b0 := beq_iff_eq.mpr c65
       have c65b1 := bne_eq_false_iff_eq.mpr c65
       clear c65
       replace H := obE H
       obtain ⟨⟨t320, t321⟩, A66, H⟩ := H
       try dsimp only at H
       by_cases c67 : t321 = 0
       ·
        rw [if_pos c67] at H
        have c67b0 := beq_iff_eq.mpr c67
        have c67b1 := bne_eq_false_iff_eq.mpr c67
        clear c67
        by_cases c68 : t320.toList = a1.toList
        ·
         rw [if_pos c68] at H
         have c68b0 := beq_iff_eq.mpr c68
         have c68b1 := bne_eq_false_iff_eq.mpr c68
         clear c68
         replace H := obE H
         obtain ⟨t322, A69, H⟩ := H
         obtain rfl := Option.some.inj H
         have hnb70 := NB309_300.out
         have hnc70 := NB300_309.out
         have hnb71 := NB309_314.out
         have hnc71 := NB314_309.out
         obtain ⟨hcz72_0, hcz72_1, hcz72_2, hfz72_0, hfz72_1, hfz72_2⟩ := cz3 BK309.out
         go_wp2_with (first | ((with_reducible refine gate_callee (f := 19) rfl ?_); refine goesL_ (some 73) rfl rfl Tryd.func19 (by kernel_rfl) rfl #[.agg #[.int .i64 t305, .int .i64 t306, .string t307]] rfl gl ?_; (with_reducible refine (cmd_EncodeOut.calls kj35 t305 t306 t307 t320 t321 _ A66.out).mono ?_); rintro e w73 ⟨rfl, hb⟩; refine ⟨_, rfl, ?_⟩; replace BK300 := bb BK300.out hb; replace BK309 := bb BK309.out hb; replace BK314 := bb BK314.out hb; replace HB := am (below_step (bws HB.out) hb); (try clear hb)) | ((with_reducible refine gate_callee (f := 13) rfl ?_); refine goesL_ (some 83) rfl rfl Tryd.func13 (by kernel_rfl) rfl #[] rfl gl ?_; (with_reducible refine (stowagelaw16_awake.calls kj35  t322 _ A69.out ?sideG).mono ?_); (case sideG => first | exact HG.out | exact gg_below HG.out (bws HB.out)); rintro e w74 ⟨rfl, hb⟩; refine ⟨_, rfl, ?_⟩; replace BK300 := bb BK300.out hb; replace BK309 := bb BK309.out hb; replace BK314 := bb BK314.out hb; replace HB := am (below_step (bws HB.out) hb); (try clear hb)))
         go_ret
         exact ⟨rf, bws HB.out⟩
        ·
         rw [if_neg c68] at H
         have c68b0 := beq_eq_false_iff_ne.mpr c68
         have c68b1 := bne_iff_ne.mpr c68
         obtain rfl := Option.some.inj H
         have hnb75 := NB309_300.out
         have hnc75 := NB300_309.out
         have hnb76 := NB309_314.out
         have hnc76 := NB314_309.out
         obtain ⟨hcz77_0, hcz77_1, hcz77_2, hfz77_0, hfz77_1, hfz77_2⟩ := cz3 BK309.out
         go_wp2_with (first | ((with_reducible refine gate_callee (f := 19) rfl ?_); refine goesL_ (some 73) rfl rfl Tryd.func19 (by kernel_rfl) rfl #[.agg #[.int .i64 t305, .int .i64 t306, .string t307]] rfl gl ?_; (with_reducible refine (cmd_EncodeOut.calls kj35 t305 t306 t307 t320 t321 _ A66.out).mono ?_); rintro e w78 ⟨rfl, hb⟩; refine ⟨_, rfl, ?_⟩; replace BK300 := bb BK300.out hb; replace BK309 := bb BK309.out hb; replace BK314 := bb BK314.out hb; replace HB := am (below_step (bws HB.out) hb); (try clear hb)))
         go_ret
         exact ⟨rf, bws HB.out⟩
       ·
        rw [if_neg c67] at H
        have c67b0 := beq_eq_false_iff_ne.mpr c67
        have c67b1 := bne_iff_ne.mpr c67
        obtain rfl := Option.some.inj H
        have hnb79 := NB309_300.out
        have hnc79 := NB300_309.out
        have hnb80 := NB309_314.out
        have hnc80 := NB314_309.out
        obtain ⟨hcz81_0, hcz81_1, hcz81_2, hfz81_0, hfz81_1, hfz81_2⟩ := cz3 BK309.out
        go_wp2_with (first | ((with_reducible refine gate_callee (f := 19) rfl ?_); refine goesL_ (some 73) rfl rfl Tryd.func19 (by kernel_rfl) rfl #[.agg #[.int .i64 t305, .int .i64 t306, .string t307]] rfl gl ?_; (with_reducible refine (cmd_EncodeOut.calls kj35 t305 t306 t307 t320 t321 _ A66.out).mono ?_); rintro e w82 ⟨rfl, hb⟩; refine ⟨_, rfl, ?_⟩; replace BK300 := bb BK300.out hb; replace BK309 := bb BK309.out hb; replace BK314 := bb BK314.out hb; replace HB := am (below_step (bws HB.out) hb); (try clear hb)))
        go_ret
        exact ⟨rf, bws HB.out⟩
      ·
       rw [if_neg c65] at H
       have c65b0 := beq_eq_false_iff_ne.mpr c65
       have c65b1 := bne_iff_ne.mpr c65
       replace H := obE H
       obtain ⟨t323, A83, H⟩ := H
       obtain rfl := Option.some.inj H
       go_wp2_with (first | ((with_reducible refine gate_callee (f := 13) rfl ?_); refine goesL_ (some 83) rfl rfl Tryd.func13 (by kernel_rfl) rfl #[] rfl gl ?_; (with_reducible refine (stowagelaw16_awake.calls kj35  t323 _ A83.out ?sideG).mono ?_); (case sideG => first | exact HG.out | exact gg_below HG.out (bws HB.out)); rintro e w84 ⟨rfl, hb⟩; refine ⟨_, rfl, ?_⟩; replace BK300 := bb BK300.out hb; replace BK309 := bb BK309.out hb; replace BK314 := bb BK314.out hb; replace HB := am (below_step (bws HB.out) hb); (try clear hb)))
       go_ret
       exact ⟨rf, bws HB.out⟩
end Go.Proofs.YtdidopoalmkhlaaDoor.Oo
end
section
namespace Go.Proofs.YtdidopoalmkhlaaDoor.Pure
open Go.RowKit Go.Proofs.YtdidopoalmkhlaaDoor.Oo Go.Proofs.YtdidopoalmkhlaaDoorW.PrintWords Go.Proofs.YtdidopoalmkhlaaDoorW.PrintLast Go.Proofs.YtdidopoalmkhlaaDoorW.PrintMore
set_option linter.unusedVariables false
set_option linter.unusedSimpArgs false
theorem up {α : Type} {f : Nat → Option α} (h : ∀ k, LeO (f k) (f (k + 1))) {r : α} {k : Nat} (h0 : f k = some r) : ∀ n, f (k + n) = some r
 | 0 => h0
 | n + 1 => h (k + n) r (up h h0 n)
theorem up_to {α : Type} {f : Nat → Option α} (h : ∀ k, LeO (f k) (f (k + 1))) {r : α} {k m : Nat} (h0 : f k = some r) (hm : k ≤ m) : f m = some r := by
 have := up h h0 (m - k)
 rwa [Nat.add_sub_cancel' hm] at this
theorem w1 (i : Nat) (h : i ≤ 4611686018427387904) : wrap64 ((i : Int) + 1) = ((i + 1 : Nat) : Int) := by
 rw [IntWalk.wrap64_in _ (by omega)]
 omega
theorem len_eq (a : ByteArray) : a.data.toList.length = a.size := Array.length_toList (xs := a.data)
theorem bt_get (a : ByteArray) (i : Nat) (h : i < a.size) : ∃ c, a.data.toList.drop i = c :: a.data.toList.drop (i + 1) ∧ bt a (i : Int) = (c.toNat : Int) := by
 have hl : i < a.data.toList.length := by rw [len_eq]; exact h
 refine ⟨a.data.toList[i], List.drop_eq_getElem_cons hl, ?_⟩
 unfold bt
 rw [dif_pos (by rw [Int.toNat_natCast]; exact h)]
 simp only [Int.toNat_natCast, Array.getElem_toList]
 rfl
theorem bt_rng (s : ByteArray) (i : Int) : 0 ≤ bt s i ∧ bt s i ≤ 255 := by
 unfold bt
 split
 ·
  rename_i h
  have := (s.get i.toNat h).toNat_lt
  constructor
  ·
   omega
  ·
   show ((s.get i.toNat h).toNat : Int) ≤ 255
   omega
 ·
  omega
theorem or128 (m : Int) (h0 : 0 ≤ m) (h1 : m < 256) : Go.bits .or .u8 m 128 = m % 128 + 128 := by
 obtain ⟨n, rfl⟩ : ∃ n : Nat, m = (n : Int) := ⟨m.toNat, by omega⟩
 have h : ∀ n, n < 256 → Go.bits .or .u8 ((n : Nat) : Int) 128 = ((n : Nat) : Int) % 128 + 128 := by decide +kernel
 exact h n (by omega)
def nl : Nat → Int → List Int
 | 0, n => [n]
 | d + 1, n => if n < 128 then [n] else (n % 128 + 128) :: nl d (n / 128)
theorem nl_len : ∀ d n, (nl d n).length ≤ d + 1
 | 0, _ => by simp [nl]
 | d + 1, n => by
  rw [nl]
  split
  ·
   simp
  ·
   have := nl_len d (n / 128)
   simp only [List.length_cons]; omega
theorem sn_append (a b : List Int) : strOfNums (a ++ b) = strOfNums a ++ strOfNums b := by
 apply ByteArray.ext
 rw [ByteArray.data_append]
 simp [strOfNums]
theorem oct_num : ∀ (d k : Nat) (n : Int) (x3 : List Int), 0 ≤ n → n < 128 ^ (d + 1) → d < k → x3.length + d ≤ 100 → octet_Number.l0 k n x3 = some (strOfNums (x3 ++ nl d n)) := by
 intro d
 induction d with
 | zero =>
  intro k n x3 h0 h1 hk h3
  obtain ⟨k, rfl⟩ : ∃ j, k = j + 1 := ⟨k - 1, by omega⟩
  have h1' : n < 128 := by simpa using h1
  rw [octet_Number.l0, if_neg (by omega), if_pos (by omega), nl, Int.emod_eq_of_lt h0 (by omega)]
 | succ d ih =>
  intro k n x3 h0 h1 hk h3
  obtain ⟨k, rfl⟩ : ∃ j, k = j + 1 := ⟨k - 1, by omega⟩
  rw [octet_Number.l0, nl]
  by_cases h : n < 128
  ·
   rw [if_neg (by omega), if_pos (by omega), if_pos h, Int.emod_eq_of_lt h0 (by omega)]
  ·
   rw [if_pos (by omega), if_pos (by omega), if_neg h, or128 _ (by omega) (by omega), show n % 256 % 128 = n % 128 by omega, ih k (n / 128) _ (by omega) (Int.ediv_lt_of_lt_mul (by omega) (by rw [← Int.pow_succ]; exact h1)) (by omega) (by simp; omega), List.append_assoc]
   rfl
theorem ref_num : ∀ (d k : Nat) (n : Int), 0 ≤ n → n < 128 ^ (d + 1) → n ≤ 18446744073709551615 → d < k → d ≤ 100 → stowageref01_Number.f k n = some (strOfNums (nl d n)) := by
 intro d
 induction d with
 | zero =>
  intro k n h0 h1 h2 hk h3
  obtain ⟨k, rfl⟩ : ∃ j, k = j + 1 := ⟨k - 1, by omega⟩
  have h1' : n < 128 := by simpa using h1
  rw [stowageref01_Number.f, if_pos h1', nl, Int.emod_eq_of_lt h0 (by omega)]
 | succ d ih =>
  intro k n h0 h1 h2 hk h3
  obtain ⟨k, rfl⟩ : ∃ j, k = j + 1 := ⟨k - 1, by omega⟩
  rw [stowageref01_Number.f, nl]
  by_cases h : n < 128
  ·
   rw [if_pos h, if_pos h, Int.emod_eq_of_lt h0 (by omega)]
  ·
   rw [if_neg h, if_neg h, Option.bind_some, Int.tmod_eq_emod_of_nonneg h0, Int.tdiv_eq_ediv_of_nonneg h0, IntWalk.u64_in (n / 128) (by omega), ih k (n / 128) (by omega) (Int.ediv_lt_of_lt_mul (by omega) (by rw [← Int.pow_succ]; exact h1)) (by omega) (by omega) (by omega), Option.bind_some, IntWalk.u64_in _ (by omega), Int.emod_eq_of_lt (by omega) (by omega)]
   have := nl_len d (n / 128)
   rw [if_pos (by rw [strOfNums_size, strOfNums_size]; simp only [List.length_cons, List.length_nil]; omega), ← sn_append]
   rfl
def num (n : Int) : ByteArray := strOfNums (nl 9 n)
theorem num_size (n : Int) : (num n).size ≤ 10 := by
 unfold num
 rw [strOfNums_size]
 exact nl_len 9 n
theorem oct_Number (n : Int) (h0 : 0 ≤ n) (h1 : n ≤ 18446744073709551615) (k : Nat) (hk : 10 ≤ k) : octet_Number.f k n = some (num n) := by
 unfold octet_Number.f
 rw [oct_num 9 k n [] h0 (by omega) (by omega) (by simp)]
 rfl
theorem ref_Number (n : Int) (h0 : 0 ≤ n) (h1 : n ≤ 18446744073709551615) (k : Nat) (hk : 10 ≤ k) : stowageref01_Number.f k n = some (num n) :=
 ref_num 9 k n h0 (by omega) h1 (by omega) (by omega)
def txt (a : ByteArray) : ByteArray := num (a.size : Int) ++ a
theorem oct_Text (a : ByteArray) (ha : a.size ≤ 1073741824) (k : Nat) (hk : 10 ≤ k) : octet_Text.f k a = some (txt a) := by
 unfold octet_Text.f
 have := num_size (a.size : Int)
 rw [IntWalk.u64_in _ (by omega), oct_Number _ (by omega) (by omega) k hk, Option.bind_some, if_pos (by omega)]
 rfl
theorem ref_Text (a : ByteArray) (ha : a.size ≤ 1073741824) (k : Nat) (hk : 10 ≤ k) : stowageref01_Text.f k a = some (txt a) := by
 unfold stowageref01_Text.f
 have := num_size (a.size : Int)
 rw [IntWalk.u64_in _ (by omega), ref_Number _ (by omega) (by omega) k hk, Option.bind_some, if_pos (by omega)]
 rfl
theorem and127 (m : Int) (h0 : 0 ≤ m) (h1 : m < 256) : Go.bits .and .u8 m 127 = m % 128 := by
 obtain ⟨n, rfl⟩ : ∃ n : Nat, m = (n : Int) := ⟨m.toNat, by omega⟩
 have h : ∀ n, n < 256 → Go.bits .and .u8 ((n : Nat) : Int) 127 = ((n : Nat) : Int) % 128 := by decide +kernel
 exact h n (by omega)
def rn (s : ByteArray) (a : Nat) : Nat → Nat → Int → Int × Int × Int
 | 0, _, _ => (0, 0, 3)
 | n + 1, i, x => if s.size ≤ a + i then (0, 0, 5) else if (i = 9 ∧ bt s ((a + i : Nat) : Int) > 1) ∨ (0 < i ∧ bt s ((a + i : Nat) : Int) = 0) then (0, 0, 3)
  else if bt s ((a + i : Nat) : Int) < 128 then (x + bt s ((a + i : Nat) : Int) % 128 * 128 ^ i, ((a + i + 1 : Nat) : Int), 0) else rn s a n (i + 1) (x + bt s ((a + i : Nat) : Int) % 128 * 128 ^ i)
theorem or_add (x d : Nat) (i : Nat) (hx : x < 128 ^ i) : x ||| (d * 128 ^ i) = x + d * 128 ^ i := by
 have h : (128 : Nat) ^ i = 2 ^ (7 * i) := by rw [Nat.pow_mul]
 rw [h] at hx ⊢
 rw [Nat.or_comm, Nat.mul_comm d, ← Nat.two_pow_add_eq_or_of_lt hx d, Nat.add_comm]
theorem step_bits (x b : Int) (i : Nat) (h0 : 0 ≤ x) (hx : x < 128 ^ i) (hb0 : 0 ≤ b) (hb : b < 256) (hi : i < 9 ∨ (i = 9 ∧ b ≤ 1)) :
  Go.bits .or .u64 x (shl .u64 (IntKind.u64.wrap (Go.bits .and .u8 b 127)) (7 * (i : Int))) = x + b % 128 * 128 ^ i ∧ 0 ≤ x + b % 128 * 128 ^ i ∧ x + b % 128 * 128 ^ i < 128 ^ (i + 1) ∧ x + b % 128 * 128 ^ i ≤ 18446744073709551615 := by
 obtain ⟨n, rfl⟩ : ∃ n : Nat, x = (n : Int) := ⟨x.toNat, by omega⟩
 obtain ⟨d, hd⟩ : ∃ d : Nat, b % 128 = (d : Int) := ⟨(b % 128).toNat, by omega⟩
 have hd1 : d < 128 := by omega
 have hn : n < 128 ^ i := by exact_mod_cast hx
 have hpow : (128 : Nat) ^ i = 2 ^ (7 * i) := by rw [Nat.pow_mul]
 have hlt : n + d * 128 ^ i < 128 ^ (i + 1) := by
  have h1 : d * 128 ^ i ≤ 127 * 128 ^ i := Nat.mul_le_mul_right _ (by omega)
  rw [Nat.pow_succ]; omega
 have hmax : n + d * 128 ^ i < 18446744073709551616 := by
  rcases hi with hi | ⟨rfl, hb1⟩
  ·
   have h2 : (128 : Nat) ^ (i + 1) ≤ 128 ^ 9 := Nat.pow_le_pow_right (by decide) (by omega)
   have h3 : (128 : Nat) ^ 9 = 9223372036854775808 := by decide
   omega
  ·
   have h3 : (128 : Nat) ^ 9 = 9223372036854775808 := by decide
   have h4 : d ≤ 1 := by omega
   rw [h3] at hn ⊢
   rcases (show d = 0 ∨ d = 1 by omega) with rfl | rfl <;> omega
 have hpi : (0 : Nat) < 128 ^ i := Nat.pow_pos (by decide)
 have hdm : d * 128 ^ i < 18446744073709551616 := by omega
 have hi9 : i ≤ 9 := by omega
 have hshl : shl .u64 (IntKind.u64.wrap (Go.bits .and .u8 b 127)) (7 * (i : Int)) = ((d * 128 ^ i : Nat) : Int) := by
  rw [and127 b hb0 hb, hd, IntWalk.u64_in _ (by omega)]
  unfold shl
  have hbits : IntKind.u64.bits = 64 := rfl
  rw [hbits, show (7 * (i : Int)).toNat = 7 * i by omega, Nat.min_eq_left (by omega), hpow]
  rw [hpow] at hdm
  have hc : ((d : Int) * 2 ^ (7 * i)) = ((d * 2 ^ (7 * i) : Nat) : Int) := by rw [Int.natCast_mul, Int.natCast_pow]; rfl
  rw [hc, IntWalk.u64_in _ (by omega)]
 have hc2 : (n : Int) + b % 128 * 128 ^ i = ((n + d * 128 ^ i : Nat) : Int) := by rw [hd, Int.natCast_add, Int.natCast_mul, Int.natCast_pow]; rfl
 rw [hshl, bits_or_u64_nat n _ (by omega) hdm, or_add n d i hn, hc2]
 refine ⟨rfl, by omega, ?_, by omega⟩
 have : ((128 : Int) ^ (i + 1)) = ((128 ^ (i + 1) : Nat) : Int) := by rw [Int.natCast_pow]; rfl
 rw [this]
 omega
theorem oct_rn (s : ByteArray) (a : Nat) (hs : s.size ≤ 1073741824) (ha : a ≤ s.size) : ∀ (n i k : Nat) (x : Int), i + n = 10 → 2 * n < k → 0 ≤ x → x < 128 ^ i → octet_ReadNumber.l0 k s (a : Int) x (i : Int) = some (rn s a n i x) := by
 intro n
 induction n with
 | zero =>
  intro i k x hi hk h0 hx
  obtain ⟨k, rfl⟩ : ∃ j, k = j + 1 := ⟨k - 1, by omega⟩
  rw [octet_ReadNumber.l0, if_neg (by omega)]
  rfl
 | succ n ih =>
  intro i k x hi hk h0 hx
  obtain ⟨k, rfl⟩ : ∃ j, k = j + 1 + 1 := ⟨k - 2, by omega⟩
  have hbr := bt_rng s ((a + i : Nat) : Int)
  rw [octet_ReadNumber.l0, if_pos (by omega), IntWalk.wrap64_in ((a : Int) + (i : Int)) (by omega), show ((a : Int) + (i : Int)) = ((a + i : Nat) : Int) by omega, rn]
  obtain ⟨b, hb⟩ : ∃ b, bt s ((a + i : Nat) : Int) = b := ⟨_, rfl⟩
  rw [hb] at hbr ⊢
  by_cases he : s.size ≤ a + i
  ·
   rw [if_pos (by omega), if_pos he]
  ·
   rw [if_neg (by omega), if_neg he, if_pos (by omega), if_pos (by omega)]
   have tail : ∀ c : Bool, (c = true ↔ ((i = 9 ∧ b > 1) ∨ (0 < i ∧ b = 0))) → octet_ReadNumber.j2 (k + 1) s (a : Int) x (i : Int) b (i : Int) c = some (if (i = 9 ∧ b > 1) ∨ (0 < i ∧ b = 0) then (0, 0, 3) else if b < 128 then (x + b % 128 * 128 ^ i, ((a + i + 1 : Nat) : Int), 0) else rn s a n (i + 1) (x + b % 128 * 128 ^ i)) := by
    intro c hc
    rw [octet_ReadNumber.j2]
    by_cases hq : (i = 9 ∧ b > 1) ∨ (0 < i ∧ b = 0)
    ·
     rw [if_pos (hc.2 hq), if_pos hq]
    ·
     rw [if_neg (fun h => hq (hc.1 h)), if_neg hq, IntWalk.wrap64_in (7 * (i : Int)) (by omega), if_pos (by omega)]
     obtain ⟨e1, e2, e3, e4⟩ := step_bits x b i h0 hx hbr.1 (by omega) (by omega)
     rw [e1]
     by_cases hlt : b < 128
     ·
      rw [if_pos hlt, if_pos hlt, IntWalk.wrap64_in ((a : Int) + (i : Int)) (by omega), IntWalk.wrap64_in _ (by omega)]
      rfl
     ·
      rw [if_neg hlt, if_neg hlt, IntWalk.wrap64_in ((i : Int) + 1) (by omega), show ((i : Int) + 1) = ((i + 1 : Nat) : Int) by omega]
      exact ih (i + 1) k _ (by omega) (by omega) e2 e3
   by_cases h9 : i = 9
   ·
    rw [if_pos (by omega)]
    by_cases hb1 : b > 1
    ·
     rw [if_pos hb1]; exact tail true (by simp; omega)
    ·
     rw [if_neg hb1, if_pos (by omega)]; exact tail _ (by simp; omega)
   ·
    rw [if_neg (by omega)]
    by_cases hi0 : i = 0
    ·
     rw [if_neg (by omega)]; exact tail false (by simp; omega)
    ·
     rw [if_pos (by omega)]; exact tail _ (by simp; omega)
theorem ref_rn (s : ByteArray) (a : Nat) (hs : s.size ≤ 1073741824) (ha : a ≤ s.size) : ∀ (n i k : Nat) (x w : Int), i + n = 10 → 0 < n → 2 * n < k → 0 ≤ x → x < 128 ^ i → (i < 10 → w = 128 ^ i) → stowageref01_ReadNumber.l0 k s (a : Int) x w ((a + i : Nat) : Int) = some (rn s a n i x) := by
 intro n
 induction n with
 | zero => intro i k x w hi hn; omega
 | succ n ih =>
  intro i k x w hi hn hk h0 hx hw
  obtain ⟨k, rfl⟩ : ∃ j, k = j + 1 + 1 := ⟨k - 2, by omega⟩
  have hbr := bt_rng s ((a + i : Nat) : Int)
  obtain rfl := hw (by omega)
  rw [stowageref01_ReadNumber.l0, rn]
  obtain ⟨b, hb⟩ : ∃ b, bt s ((a + i : Nat) : Int) = b := ⟨_, rfl⟩
  rw [hb] at hbr ⊢
  by_cases he : s.size ≤ a + i
  ·
   rw [if_pos (by omega), if_pos he]
  ·
   rw [if_neg (by omega), if_neg he, if_pos (by omega), if_pos (by omega), IntWalk.u64_in b (by omega), IntWalk.wrap64_in (((a + i : Nat) : Int) - (a : Int)) (by omega)]
   have tail : ∀ c : Bool, (c = true ↔ ((i = 9 ∧ b > 1) ∨ (0 < i ∧ b = 0))) → stowageref01_ReadNumber.j2 (k + 1) s (a : Int) x (128 ^ i) ((a + i : Nat) : Int) b c = some (if (i = 9 ∧ b > 1) ∨ (0 < i ∧ b = 0) then (0, 0, 3) else if b < 128 then (x + b % 128 * 128 ^ i, ((a + i + 1 : Nat) : Int), 0) else rn s a n (i + 1) (x + b % 128 * 128 ^ i)) := by
    intro c hc
    rw [stowageref01_ReadNumber.j2]
    by_cases hq : (i = 9 ∧ b > 1) ∨ (0 < i ∧ b = 0)
    ·
     rw [if_pos (hc.2 hq), if_pos hq]
    ·
     obtain ⟨e1, e2, e3, e4⟩ := step_bits x b i h0 hx hbr.1 (by omega) (by omega)
     have h5 : 0 ≤ b % 128 * 128 ^ i := Int.mul_nonneg (by omega) (Int.pow_nonneg (by omega))
     rw [if_neg (fun h => hq (hc.1 h)), if_neg hq, Int.tmod_eq_emod_of_nonneg hbr.1, IntWalk.u64_in (b % 128 * 128 ^ i) ⟨h5, by omega⟩, IntWalk.u64_in _ ⟨e2, e4⟩, IntWalk.wrap64_in (((a + i : Nat) : Int) + 1) (by omega)]
     by_cases hlt : b < 128
     ·
      rw [if_pos hlt, if_pos hlt]
      rfl
     ·
      have hn0 : 0 < n := by
       rcases Nat.eq_zero_or_pos n with h | h
       ·
        omega
       ·
        exact h
      rw [if_neg hlt, if_neg hlt, show (((a + i : Nat) : Int) + 1) = ((a + (i + 1) : Nat) : Int) by omega]
      refine ih (i + 1) k _ _ (by omega) hn0 (by omega) e2 e3 (fun hi10 => ?_)
      have h6 : (128 : Int) ^ i * 128 = 128 ^ (i + 1) := (Int.pow_succ _ _).symm
      have h7 : (128 : Int) ^ (i + 1) ≤ 18446744073709551615 := by
       have h8 : (128 : Nat) ^ (i + 1) ≤ 128 ^ 9 := Nat.pow_le_pow_right (by decide) (by omega)
       have h9 : (128 : Nat) ^ 9 = 9223372036854775808 := by decide
       have h10 : ((128 : Int) ^ (i + 1)) = ((128 ^ (i + 1) : Nat) : Int) := by rw [Int.natCast_pow]; rfl
       rw [h10]; omega
      rw [h6, IntWalk.u64_in _ ⟨Int.pow_nonneg (by omega), h7⟩]
   by_cases h9 : i = 9
   ·
    rw [if_pos (by omega)]
    by_cases hb1 : b > 1
    ·
     rw [if_pos hb1]; exact tail true (by simp; omega)
    ·
     rw [if_neg hb1, if_pos (by omega)]; exact tail _ (by simp; omega)
   ·
    rw [if_neg (by omega)]
    by_cases hi0 : i = 0
    ·
     rw [if_neg (by omega)]; exact tail false (by simp; omega)
    ·
     rw [if_pos (by omega)]; exact tail _ (by simp; omega)
theorem rn_spec (s : ByteArray) (a : Nat) : ∀ (n i : Nat) (x : Int), i + n = 10 → 0 ≤ x → x < 128 ^ i → (rn s a n i x).2.2 = 0 → 0 ≤ (rn s a n i x).1 ∧ (rn s a n i x).1 ≤ 18446744073709551615 ∧ ∃ m : Nat, (rn s a n i x).2.1 = (m : Int) ∧ a ≤ m ∧ m ≤ s.size
 | 0, _, _, _, _, _, h => by simp [rn] at h
 | n + 1, i, x, hi, h0, hx, h => by
  have hbr := bt_rng s ((a + i : Nat) : Int)
  rw [rn] at h ⊢
  split at h
  ·
   simp at h
  ·
   rename_i he
   split at h
   ·
    simp at h
   ·
    rename_i hq
    obtain ⟨e1, e2, e3, e4⟩ := step_bits x _ i h0 hx hbr.1 (by omega) (by omega)
    rw [if_neg he, if_neg hq]
    split at h
    ·
     rename_i hlt
     rw [if_pos hlt]
     exact ⟨e2, e4, a + i + 1, rfl, by omega, by omega⟩
    ·
     rename_i hlt
     rw [if_neg hlt]
     exact rn_spec s a n (i + 1) _ (by omega) e2 e3 h
def rd0 (s : ByteArray) (a : Nat) : Int × Int × Int := rn s a 10 0 0
theorem oct_ReadNumber (s : ByteArray) (a : Nat) (hs : s.size ≤ 1073741824) (ha : a ≤ s.size) (k : Nat) (hk : 25 ≤ k) : octet_ReadNumber.f k s (a : Int) = some (rd0 s a) := by
 unfold octet_ReadNumber.f
 obtain ⟨k, rfl⟩ : ∃ j, k = j + 1 := ⟨k - 1, by omega⟩
 rw [if_neg (by omega), decide_eq_false (by omega), octet_ReadNumber.j0, if_neg (by simp)]
 exact oct_rn s a hs ha 10 0 k 0 (by omega) (by omega) (by omega) (by decide)
theorem ref_ReadNumber (s : ByteArray) (a : Nat) (hs : s.size ≤ 1073741824) (ha : a ≤ s.size) (k : Nat) (hk : 25 ≤ k) : stowageref01_ReadNumber.f k s (a : Int) = some (rd0 s a) := by
 unfold stowageref01_ReadNumber.f
 obtain ⟨k, rfl⟩ : ∃ j, k = j + 1 := ⟨k - 1, by omega⟩
 rw [if_neg (by omega), decide_eq_false (by omega), stowageref01_ReadNumber.j0, if_neg (by simp)]
 exact ref_rn s a hs ha 10 0 k 0 1 (by omega) (by omega) (by omega) (by omega) (by decide) (fun _ => by decide)
theorem rd0_spec (s : ByteArray) (a : Nat) (h : (rd0 s a).2.2 = 0) : 0 ≤ (rd0 s a).1 ∧ (rd0 s a).1 ≤ 18446744073709551615 ∧ ∃ m : Nat, (rd0 s a).2.1 = (m : Int) ∧ a ≤ m ∧ m ≤ s.size :=
 rn_spec s a 10 0 0 (by omega) (by omega) (by decide) h
theorem txt_size (a : ByteArray) : (txt a).size ≤ a.size + 10 := by
 unfold txt
 have := num_size (a.size : Int)
 rw [ByteArray.size_append]; omega
theorem ba_assoc (a b c : ByteArray) : a ++ b ++ c = a ++ (b ++ c) := by
 apply ByteArray.ext
 simp only [ByteArray.data_append, Array.append_assoc]
def xn (s : ByteArray) (a : Nat) (e : Int) (most : Int) : Int × Int × Int :=
 if e = 0 then (if (rd0 s a).2.2 = 0 then (if (rd0 s a).1 > most then (0, (a : Int), 2) else ((rd0 s a).1, (rd0 s a).2.1, 0)) else (0, (a : Int), (rd0 s a).2.2)) else (0, (a : Int), e)
theorem oct_RNumber (s : ByteArray) (a : Nat) (hs : s.size ≤ 1073741824) (ha : a ≤ s.size) (e most : Int) (k : Nat) (hk : 30 ≤ k) :
  octet_Reader_Number.f k s (a : Int) e most = some ((xn s a e most).1, s, (xn s a e most).2.1, (xn s a e most).2.2) := by
 unfold octet_Reader_Number.f octet_Reader_Err.f xn
 obtain ⟨k, rfl⟩ : ∃ j, k = j + 1 := ⟨k - 1, by omega⟩
 rw [Option.bind_some]
 by_cases he : e = 0
 ·
  rw [if_pos he, if_pos he, oct_ReadNumber s a hs ha (k + 1) (by omega), Option.bind_some]
  by_cases h0 : (rd0 s a).2.2 = 0
  ·
   rw [if_pos h0, if_pos h0, octet_Reader_Number.j0]
   by_cases hm : (rd0 s a).1 > most
   ·
    rw [if_pos (decide_eq_true hm), if_neg (by omega), if_pos hm]
   ·
    rw [if_neg (by simpa using hm), if_pos h0, if_neg hm, he]
  ·
   rw [if_neg h0, if_neg h0, octet_Reader_Number.j0, if_neg (by simp), if_neg h0]
 ·
  rw [if_neg he, if_neg he]
theorem ref_RNumber (s : ByteArray) (a : Nat) (hs : s.size ≤ 1073741824) (ha : a ≤ s.size) (e most : Int) (k : Nat) (hk : 30 ≤ k) :
  stowageref01_Reader_Number.f k s (a : Int) e most = some (s, (xn s a e most).2.1, (xn s a e most).2.2, (xn s a e most).1) := by
 unfold stowageref01_Reader_Number.f xn
 by_cases he : e = 0
 ·
  rw [if_pos he, if_pos he, ref_ReadNumber s a hs ha k (by omega), Option.bind_some]
  by_cases h0 : (rd0 s a).2.2 = 0
  ·
   rw [if_pos h0, if_pos h0]
   by_cases hm : (rd0 s a).1 > most
   ·
    rw [if_pos hm, if_pos hm]
   ·
    rw [if_neg hm, if_neg hm, he]
  ·
   rw [if_neg h0, if_neg h0]
 ·
  rw [if_neg he, if_neg he]
theorem xn_at (s : ByteArray) (a : Nat) (ha : a ≤ s.size) (e most : Int) (hm : 0 ≤ most) : 0 ≤ (xn s a e most).1 ∧ (xn s a e most).1 ≤ most ∧ ∃ m : Nat, (xn s a e most).2.1 = (m : Int) ∧ a ≤ m ∧ m ≤ s.size := by
 unfold xn
 by_cases he : e = 0
 ·
  rw [if_pos he]
  by_cases h0 : (rd0 s a).2.2 = 0
  ·
   rw [if_pos h0]
   obtain ⟨g1, g2, m, g3, g4, g5⟩ := rd0_spec s a h0
   by_cases hmm : (rd0 s a).1 > most
   ·
    rw [if_pos hmm]; exact ⟨Int.le_refl _, hm, a, rfl, Nat.le_refl _, ha⟩
   ·
    rw [if_neg hmm]; exact ⟨g1, by omega, m, g3, g4, g5⟩
  ·
   rw [if_neg h0]; exact ⟨Int.le_refl _, hm, a, rfl, Nat.le_refl _, ha⟩
 ·
  rw [if_neg he]; exact ⟨Int.le_refl _, hm, a, rfl, Nat.le_refl _, ha⟩
theorem oct_RInt (s : ByteArray) (a : Nat) (hs : s.size ≤ 1073741824) (ha : a ≤ s.size) (e most : Int) (hm : 0 ≤ most) (hm2 : most ≤ 9223372036854775807) (k : Nat) (hk : 30 ≤ k) :
  octet_Reader_Int.f k s (a : Int) e most = some ((xn s a e most).1, s, (xn s a e most).2.1, (xn s a e most).2.2) := by
 unfold octet_Reader_Int.f
 obtain ⟨h1, h2, _⟩ := xn_at s a ha e most hm
 rw [if_neg (by omega), IntWalk.u64_in most (by omega), oct_RNumber s a hs ha e most k hk, Option.bind_some]
 show some (wrap64 ((xn s a e most).1), s, (xn s a e most).2.1, (xn s a e most).2.2) = _
 rw [IntWalk.wrap64_in _ (by omega)]
theorem ref_RInt (s : ByteArray) (a : Nat) (hs : s.size ≤ 1073741824) (ha : a ≤ s.size) (e most : Int) (hm : 0 ≤ most) (hm2 : most ≤ 9223372036854775807) (k : Nat) (hk : 30 ≤ k) :
  stowageref01_Reader_Int.f k s (a : Int) e most = some (s, (xn s a e most).2.1, (xn s a e most).2.2, (xn s a e most).1) := by
 unfold stowageref01_Reader_Int.f
 obtain ⟨h1, h2, _⟩ := xn_at s a ha e most hm
 rw [if_pos (by omega), IntWalk.u64_in most (by omega), ref_RNumber s a hs ha e most k hk, Option.bind_some]
 show some (s, (xn s a e most).2.1, (xn s a e most).2.2, wrap64 ((xn s a e most).1)) = _
 rw [IntWalk.wrap64_in _ (by omega)]
def rt (s : ByteArray) (a : Nat) : ByteArray × Int × Int :=
 if (rd0 s a).2.2 = 0 then (if (rd0 s a).1 > (s.size : Int) - (rd0 s a).2.1 then ((⟨#[]⟩ : ByteArray), 0, 5) else (s.extract (rd0 s a).2.1.toNat ((rd0 s a).2.1 + (rd0 s a).1).toNat, (rd0 s a).2.1 + (rd0 s a).1, 0)) else ((⟨#[]⟩ : ByteArray), 0, (rd0 s a).2.2)
theorem oct_ReadText (s : ByteArray) (a : Nat) (hs : s.size ≤ 1073741824) (ha : a ≤ s.size) (k : Nat) (hk : 25 ≤ k) : octet_ReadText.f k s (a : Int) = some (rt s a) := by
 unfold octet_ReadText.f rt
 rw [oct_ReadNumber s a hs ha k hk, Option.bind_some]
 by_cases h0 : (rd0 s a).2.2 = 0
 ·
  obtain ⟨g1, g2, m, g3, g4, g5⟩ := rd0_spec s a h0
  rw [if_pos h0, if_pos h0, g3, IntWalk.wrap64_in ((s.size : Int) - (m : Int)) (by omega), IntWalk.u64_in _ (by omega)]
  by_cases hm : (rd0 s a).1 > (s.size : Int) - (m : Int)
  ·
   rw [if_pos hm, if_pos hm]
  ·
   rw [if_neg hm, if_neg hm, IntWalk.wrap64_in (rd0 s a).1 (by omega), IntWalk.wrap64_in _ (by omega), if_pos (by omega), if_pos (by omega), if_pos (by omega)]
 ·
  rw [if_neg h0, if_neg h0]
theorem ref_ReadText (s : ByteArray) (a : Nat) (hs : s.size ≤ 1073741824) (ha : a ≤ s.size) (k : Nat) (hk : 25 ≤ k) : stowageref01_ReadText.f k s (a : Int) = some (rt s a) := by
 unfold stowageref01_ReadText.f rt
 rw [ref_ReadNumber s a hs ha k hk, Option.bind_some]
 by_cases h0 : (rd0 s a).2.2 = 0
 ·
  obtain ⟨g1, g2, m, g3, g4, g5⟩ := rd0_spec s a h0
  rw [if_pos h0, if_pos h0, g3, IntWalk.u64_in (s.size : Int) (by omega)]
  by_cases hb : (rd0 s a).1 > (s.size : Int)
  ·
   rw [if_pos hb, if_pos (by omega)]
  ·
   rw [if_neg hb, IntWalk.wrap64_in (rd0 s a).1 (by omega), IntWalk.wrap64_in ((s.size : Int) - (m : Int)) (by omega)]
   by_cases hm : (rd0 s a).1 > (s.size : Int) - (m : Int)
   ·
    rw [if_pos hm, if_pos hm]
   ·
    rw [if_neg hm, if_neg hm, IntWalk.wrap64_in _ (by omega), if_pos (by omega), if_pos (by omega), if_pos (by omega)]
 ·
  rw [if_neg h0, if_neg h0]
theorem rt_spec (s : ByteArray) (a : Nat) (h : (rt s a).2.2 = 0) : ∃ m : Nat, (rt s a).2.1 = (m : Int) ∧ a ≤ m ∧ m ≤ s.size := by
 unfold rt at h ⊢
 by_cases h0 : (rd0 s a).2.2 = 0
 ·
  obtain ⟨g1, g2, m, g3, g4, g5⟩ := rd0_spec s a h0
  rw [if_pos h0] at h ⊢
  by_cases hm : (rd0 s a).1 > (s.size : Int) - (rd0 s a).2.1
  ·
   rw [if_pos hm] at h; simp at h
  ·
   rw [if_neg hm]
   exact ⟨m + (rd0 s a).1.toNat, by show (rd0 s a).2.1 + (rd0 s a).1 = _; omega, by omega, by omega⟩
 ·
  rw [if_neg h0] at h
  exact absurd h h0
def xt (s : ByteArray) (a : Nat) (e : Int) (most : Int) : ByteArray × Int × Int :=
 if e = 0 then (if (rt s a).2.2 = 0 then (if ((rt s a).1.size : Int) > most then ((⟨#[]⟩ : ByteArray), (a : Int), 2) else ((rt s a).1, (rt s a).2.1, 0)) else ((⟨#[]⟩ : ByteArray), (a : Int), (rt s a).2.2)) else ((⟨#[]⟩ : ByteArray), (a : Int), e)
theorem oct_RText (s : ByteArray) (a : Nat) (hs : s.size ≤ 1073741824) (ha : a ≤ s.size) (e most : Int) (k : Nat) (hk : 30 ≤ k) :
  octet_Reader_Text.f k s (a : Int) e most = some ((xt s a e most).1, s, (xt s a e most).2.1, (xt s a e most).2.2) := by
 unfold octet_Reader_Text.f octet_Reader_Err.f xt
 obtain ⟨k, rfl⟩ : ∃ j, k = j + 1 := ⟨k - 1, by omega⟩
 rw [Option.bind_some]
 by_cases he : e = 0
 ·
  rw [if_pos he, if_pos he, oct_ReadText s a hs ha (k + 1) (by omega), Option.bind_some]
  by_cases h0 : (rt s a).2.2 = 0
  ·
   rw [if_pos h0, if_pos h0, octet_Reader_Text.j0]
   by_cases hm : ((rt s a).1.size : Int) > most
   ·
    rw [if_pos (decide_eq_true hm), if_neg (by omega), if_pos hm]
   ·
    rw [if_neg (by simpa using hm), if_pos h0, if_neg hm, he]
  ·
   rw [if_neg h0, if_neg h0, octet_Reader_Text.j0, if_neg (by simp), if_neg h0]
 ·
  rw [if_neg he, if_neg he]
theorem ref_RText (s : ByteArray) (a : Nat) (hs : s.size ≤ 1073741824) (ha : a ≤ s.size) (e most : Int) (k : Nat) (hk : 30 ≤ k) :
  stowageref01_Reader_Text.f k s (a : Int) e most = some (s, (xt s a e most).2.1, (xt s a e most).2.2, (xt s a e most).1) := by
 unfold stowageref01_Reader_Text.f xt
 by_cases he : e = 0
 ·
  rw [if_pos he, if_pos he, ref_ReadText s a hs ha k (by omega), Option.bind_some]
  by_cases h0 : (rt s a).2.2 = 0
  ·
   rw [if_pos h0, if_pos h0]
   by_cases hm : ((rt s a).1.size : Int) > most
   ·
    rw [if_pos hm, if_pos hm]
   ·
    rw [if_neg hm, if_neg hm, he]
  ·
   rw [if_neg h0, if_neg h0]
 ·
  rw [if_neg he, if_neg he]
theorem xt_at (s : ByteArray) (a : Nat) (ha : a ≤ s.size) (e most : Int) (hm : 0 ≤ most) : ((xt s a e most).1.size : Int) ≤ most ∧ ∃ m : Nat, (xt s a e most).2.1 = (m : Int) ∧ a ≤ m ∧ m ≤ s.size := by
 have hz : (((⟨#[]⟩ : ByteArray).size : Nat) : Int) = 0 := rfl
 unfold xt
 by_cases he : e = 0
 ·
  rw [if_pos he]
  by_cases h0 : (rt s a).2.2 = 0
  ·
   rw [if_pos h0]
   by_cases hmm : ((rt s a).1.size : Int) > most
   ·
    rw [if_pos hmm]; exact ⟨by show (((⟨#[]⟩ : ByteArray).size : Nat) : Int) ≤ most; omega, a, rfl, Nat.le_refl _, ha⟩
   ·
    rw [if_neg hmm]; exact ⟨by show ((rt s a).1.size : Int) ≤ most; omega, rt_spec s a h0⟩
  ·
   rw [if_neg h0]; exact ⟨by show (((⟨#[]⟩ : ByteArray).size : Nat) : Int) ≤ most; omega, a, rfl, Nat.le_refl _, ha⟩
 ·
  rw [if_neg he]; exact ⟨by show (((⟨#[]⟩ : ByteArray).size : Nat) : Int) ≤ most; omega, a, rfl, Nat.le_refl _, ha⟩
def by_ (l : List Int) : List UInt8 := l.map fun n => UInt8.ofNat n.toNat
theorem num_by (n : Int) : (num n).data.toList = by_ (nl 9 n) := rfl
theorem bt_head (s : ByteArray) (p : Nat) (b : Int) (h0 : 0 ≤ b) (h1 : b < 256) (rest : List UInt8) (h : s.data.toList.drop p = UInt8.ofNat b.toNat :: rest) : p < s.size ∧ bt s (p : Int) = b ∧ s.data.toList.drop (p + 1) = rest := by
 have hp : p < s.size := by
  rcases Nat.lt_or_ge p s.size with h2 | h2
  ·
   exact h2
  ·
   rw [List.drop_of_length_le (by rw [len_eq]; exact h2)] at h; cases h
 obtain ⟨c, hc, hb⟩ := bt_get s p hp
 rw [hc] at h
 injection h with e1 e2
 refine ⟨hp, ?_, e2⟩
 rw [hb, e1, UInt8.toNat_ofNat']
 omega
theorem rn_back (s : ByteArray) (a : Nat) : ∀ (d i : Nat) (x n : Int) (rest : List UInt8), i + d = 9 → 0 ≤ n → n < 128 ^ (d + 1) → (i = 9 → n ≤ 1) → (0 < i → n ≠ 0) → (8 < i → n < 128) → n * 128 ^ i ≤ 18446744073709551615 → s.data.toList.drop (a + i) = by_ (nl d n) ++ rest →
  rn s a (d + 1) i x = (x + n * 128 ^ i, ((a + i + (nl d n).length : Nat) : Int), 0) := by
 intro d
 induction d with
 | zero =>
  intro i x n rest hi h0 h1 h9 hz h8 hm h
  have h1' : n < 128 := by simpa using h1
  rw [nl] at h ⊢
  obtain ⟨hp, hb, _⟩ := bt_head s (a + i) n h0 (by omega) rest h
  rw [rn, hb, if_neg (by omega), if_neg (by omega), if_pos h1', Int.emod_eq_of_lt h0 h1']
  rfl
 | succ d ih =>
  intro i x n rest hi h0 h1 h9 hz h8 hm h
  by_cases h128 : n < 128
  ·
   have e1 : nl (d + 1) n = [n] := by rw [nl, if_pos h128]
   rw [e1] at h ⊢
   obtain ⟨hp, hb, _⟩ := bt_head s (a + i) n h0 (by omega) rest h
   rw [rn, hb, if_neg (by omega), if_neg (by omega), if_pos h128, Int.emod_eq_of_lt h0 h128]
   rfl
  ·
   have e1 : nl (d + 1) n = (n % 128 + 128) :: nl d (n / 128) := by rw [nl, if_neg h128]
   rw [e1] at h ⊢
   obtain ⟨hp, hb, ht⟩ := bt_head s (a + i) (n % 128 + 128) (by omega) (by omega) (by_ (nl d (n / 128)) ++ rest) h
   have hpow : (128 : Int) ^ (i + 1) = 128 ^ i * 128 := Int.pow_succ _ _
   have hpi : (0 : Int) < 128 ^ i := Int.pow_pos (by omega)
   have hsum : n % 128 * 128 ^ i + n / 128 * 128 ^ (i + 1) = n * 128 ^ i := by
    rw [hpow, Int.mul_comm (128 ^ i) 128, ← Int.mul_assoc, ← Int.add_mul]
    congr 1
    omega
   have hle : n / 128 * 128 ^ (i + 1) ≤ 18446744073709551615 := by
    have : 0 ≤ n % 128 * 128 ^ i := Int.mul_nonneg (by omega) (by omega)
    omega
   rw [rn, hb, if_neg (by omega), if_neg (by omega), if_neg (by omega), show (n % 128 + 128) % 128 = n % 128 by omega]
   rw [ih (i + 1) _ (n / 128) rest (by omega) (by omega) (Int.ediv_lt_of_lt_mul (by omega) (by rw [← Int.pow_succ]; exact h1)) ?_ (by omega) ?_ hle (by rw [← Nat.add_assoc]; exact ht)]
   ·
    rw [Int.add_assoc, hsum]
    congr 2
    simp only [List.length_cons]; omega
   ·
    intro hi9
    obtain rfl : i = 8 := by omega
    have h3 : (128 : Int) ^ (8 + 1) = 9223372036854775808 := by decide
    rw [h3] at hle
    omega
   ·
    intro h8'
    have hi8 : i = 8 := by omega
    subst hi8
    have h3 : (128 : Int) ^ (8 + 1) = 9223372036854775808 := by decide
    rw [h3] at hle
    omega
theorem rd0_back (s : ByteArray) (a : Nat) (n : Int) (rest : List UInt8) (h0 : 0 ≤ n) (h1 : n ≤ 18446744073709551615) (h : s.data.toList.drop a = (num n).data.toList ++ rest) : rd0 s a = (n, ((a + (num n).size : Nat) : Int), 0) := by
 unfold rd0
 rw [rn_back s a 9 0 0 n rest rfl h0 (by omega) (by omega) (by omega) (by omega) (by omega) (by rw [Nat.add_zero]; exact h)]
 have : (num n).size = (nl 9 n).length := strOfNums_size _
 rw [this]
 simp
theorem rn_only (s : ByteArray) (a : Nat) : ∀ (d i : Nat) (x : Int), (rn s a (d + 1) i x).2.2 = 0 → ∃ (n : Int) (m : Nat), 0 ≤ n ∧ (0 < i → n ≠ 0) ∧ (rn s a (d + 1) i x).1 = x + n * 128 ^ i ∧ (rn s a (d + 1) i x).2.1 = (m : Int) ∧ m ≤ s.size ∧ m = a + i + (nl d n).length ∧ s.data.toList.drop (a + i) = by_ (nl d n) ++ s.data.toList.drop m := by
 intro d
 induction d with
 | zero =>
  intro i x h
  rw [rn] at h ⊢
  split at h
  ·
   simp at h
  ·
   rename_i he
   obtain ⟨c, hc, hb⟩ := bt_get s (a + i) (by omega)
   have hc8 := UInt8.toNat_lt c
   split at h
   ·
    simp at h
   ·
    rename_i hq
    split at h
    ·
     rename_i hlt
     rw [if_neg he, if_neg hq, if_pos hlt]
     rw [hb] at hq hlt ⊢
     refine ⟨(c.toNat : Int), a + i + 1, by omega, by omega, by rw [Int.emod_eq_of_lt (by omega) hlt], rfl, by omega, rfl, ?_⟩
     rw [hc]
     show _ = UInt8.ofNat (c.toNat : Int).toNat :: _
     rw [Int.toNat_natCast, UInt8.ofNat_toNat]
     rfl
    ·
     rw [rn] at h; simp at h
 | succ d ih =>
  intro i x h
  rw [rn] at h ⊢
  split at h
  ·
   simp at h
  ·
   rename_i he
   obtain ⟨c, hc, hb⟩ := bt_get s (a + i) (by omega)
   have hc8 := UInt8.toNat_lt c
   split at h
   ·
    simp at h
   ·
    rename_i hq
    split at h
    ·
     rename_i hlt
     rw [if_neg he, if_neg hq, if_pos hlt]
     rw [hb] at hq hlt ⊢
     refine ⟨(c.toNat : Int), a + i + 1, by omega, by omega, by rw [Int.emod_eq_of_lt (by omega) hlt], rfl, by omega, by rw [nl, if_pos hlt]; rfl, ?_⟩
     rw [hc, nl, if_pos hlt]
     show _ = UInt8.ofNat (c.toNat : Int).toNat :: _
     rw [Int.toNat_natCast, UInt8.ofNat_toNat]
     rfl
    ·
     rename_i hlt
     rw [if_neg he, if_neg hq, if_neg hlt]
     obtain ⟨n, m, g0, g1, g2, g3, g4, g5, g6⟩ := ih (i + 1) _ h
     rw [g2, g3]
     rw [hb] at hq hlt ⊢
     have hn1 : n ≠ 0 := g1 (by omega)
     have hge : ¬ (((c.toNat : Int) % 128 + 128 * n) < 128) := by omega
     have hnl : nl (d + 1) ((c.toNat : Int) % 128 + 128 * n) = (c.toNat : Int) :: nl d n := by
      rw [nl, if_neg hge, show ((c.toNat : Int) % 128 + 128 * n) % 128 + 128 = (c.toNat : Int) by omega, show ((c.toNat : Int) % 128 + 128 * n) / 128 = n by omega]
     refine ⟨(c.toNat : Int) % 128 + 128 * n, m, by omega, by omega, ?_, rfl, g4, by rw [hnl, List.length_cons]; omega, ?_⟩
     ·
      have hpow : (128 : Int) ^ (i + 1) = 128 ^ i * 128 := Int.pow_succ _ _
      rw [hpow, Int.mul_comm (128 ^ i) 128, ← Int.mul_assoc, Int.mul_comm n 128, Int.add_assoc, ← Int.add_mul]
     ·
      rw [hc, hnl]
      show _ = UInt8.ofNat (c.toNat : Int).toNat :: _
      rw [Int.toNat_natCast, UInt8.ofNat_toNat]
      show c :: _ = c :: (by_ (nl d n) ++ _)
      rw [← g6, Nat.add_assoc]
theorem rd0_only (s : ByteArray) (a : Nat) (h : (rd0 s a).2.2 = 0) : ∃ m : Nat, (rd0 s a).2.1 = (m : Int) ∧ m ≤ s.size ∧ m = a + (num (rd0 s a).1).size ∧ s.data.toList.drop a = (num (rd0 s a).1).data.toList ++ s.data.toList.drop m := by
 obtain ⟨n, m, g0, g1, g2, g3, g4, g5, g6⟩ := rn_only s a 9 0 0 h
 have e1 : (rd0 s a).1 = n := by
  show (rn s a 10 0 0).1 = n
  rw [g2]; simp
 have hsz : (num n).size = (nl 9 n).length := strOfNums_size _
 rw [e1]
 refine ⟨m, g3, g4, by rw [hsz]; omega, ?_⟩
 rw [num_by]
 simpa using g6
theorem extract_list (s : ByteArray) (i j : Nat) : (s.extract i j).data.toList = (s.data.toList.drop i).take (j - i) := by
 rw [ByteArray.data_extract, Array.toList_extract, List.extract_eq_take_drop]
theorem txt_list (t : ByteArray) : (txt t).data.toList = (num (t.size : Int)).data.toList ++ t.data.toList := by
 unfold txt
 rw [ByteArray.data_append, Array.toList_append]
theorem drop_add (s : ByteArray) (a : Nat) (p q : List UInt8) (h : s.data.toList.drop a = p ++ q) : s.data.toList.drop (a + p.length) = q := by
 rw [← List.drop_drop, h, List.drop_left]
set_option maxRecDepth 100000 in
theorem rt_back (s t : ByteArray) (a : Nat) (rest : List UInt8) (ht : t.size ≤ 1073741824) (h : s.data.toList.drop a = (txt t).data.toList ++ rest) : rt s a = (t, ((a + (txt t).size : Nat) : Int), 0) := by
 rw [txt_list, List.append_assoc] at h
 have h1 := rd0_back s a (t.size : Int) _ (by omega) (by omega) h
 have h2 := drop_add s a _ _ h
 rw [len_eq] at h2
 have h3 : a + (num (t.size : Int)).size + t.size ≤ s.size := by
  have := congrArg List.length h2
  rw [List.length_drop, List.length_append, len_eq, len_eq] at this
  by_cases h0 : t.size = 0
  ·
   have h4 := congrArg List.length h
   rw [List.length_drop, List.length_append, len_eq, len_eq] at h4
   have h5 : 0 < (num (t.size : Int)).size := by
    have : (num (t.size : Int)).size = (nl 9 (t.size : Int)).length := strOfNums_size _
    rw [this, nl]
    split <;> simp
   omega
  ·
   omega
 have hts : (txt t).size = (num (t.size : Int)).size + t.size := ByteArray.size_append ..
 unfold rt
 rw [h1]
 rw [if_pos rfl, if_neg (by show ¬ ((t.size : Int) > (s.size : Int) - ((a + (num (t.size : Int)).size : Nat) : Int)); omega)]
 show (s.extract ((a + (num (t.size : Int)).size : Nat) : Int).toNat (((a + (num (t.size : Int)).size : Nat) : Int) + (t.size : Int)).toNat, ((a + (num (t.size : Int)).size : Nat) : Int) + (t.size : Int), (0 : Int)) = _
 have e2 : s.extract ((a + (num (t.size : Int)).size : Nat) : Int).toNat (((a + (num (t.size : Int)).size : Nat) : Int) + (t.size : Int)).toNat = t := by
  apply ByteArray.ext
  apply Array.ext'
  rw [extract_list, Int.toNat_natCast, h2, show (((a + (num (t.size : Int)).size : Nat) : Int) + (t.size : Int)).toNat - (a + (num (t.size : Int)).size) = t.data.toList.length by rw [len_eq]; omega, List.take_left]
 rw [e2, hts]
 congr 2
 omega
theorem rt_only (s : ByteArray) (a : Nat) (h : (rt s a).2.2 = 0) : ∃ m : Nat, (rt s a).2.1 = (m : Int) ∧ m ≤ s.size ∧ s.data.toList.drop a = (txt (rt s a).1).data.toList ++ s.data.toList.drop m := by
 unfold rt at h ⊢
 by_cases h0 : (rd0 s a).2.2 = 0
 ·
  rw [if_pos h0] at h ⊢
  obtain ⟨m, g1, g2, g3, g4⟩ := rd0_only s a h0
  have hsp := rd0_spec s a h0
  rw [g1] at h ⊢
  by_cases hm : (rd0 s a).1 > (s.size : Int) - (m : Int)
  ·
   rw [if_pos hm] at h; simp at h
  ·
   rw [if_neg hm] at h ⊢
   have hz : (s.extract (m : Int).toNat ((m : Int) + (rd0 s a).1).toNat).data.toList = (s.data.toList.drop m).take (rd0 s a).1.toNat := by
    rw [extract_list, Int.toNat_natCast]
    congr 1
    omega
   have hsz : (((s.extract (m : Int).toNat ((m : Int) + (rd0 s a).1).toNat).size : Nat) : Int) = (rd0 s a).1 := by
    have := congrArg List.length hz
    rw [len_eq, List.length_take, List.length_drop, len_eq] at this
    omega
   refine ⟨m + (rd0 s a).1.toNat, by show (m : Int) + (rd0 s a).1 = _; omega, by omega, ?_⟩
   show _ = (txt (s.extract (m : Int).toNat ((m : Int) + (rd0 s a).1).toNat)).data.toList ++ _
   rw [txt_list, hsz, hz, g4, List.append_assoc]
   congr 1
   rw [← List.drop_drop, List.take_append_drop]
 ·
  rw [if_neg h0] at h
  exact absurd h h0
theorem xt_back (s t : ByteArray) (a : Nat) (most : Int) (rest : List UInt8) (ht : t.size ≤ 1073741824) (hm : (t.size : Int) ≤ most) (h : s.data.toList.drop a = (txt t).data.toList ++ rest) : xt s a 0 most = (t, ((a + (txt t).size : Nat) : Int), 0) := by
 unfold xt
 rw [rt_back s t a rest ht h, if_pos rfl, if_pos rfl, if_neg (by show ¬ ((t.size : Int) > most); omega)]
theorem xn_back (s : ByteArray) (a : Nat) (n most : Int) (rest : List UInt8) (h0 : 0 ≤ n) (h1 : n ≤ 18446744073709551615) (hm : n ≤ most) (h : s.data.toList.drop a = (num n).data.toList ++ rest) : xn s a 0 most = (n, ((a + (num n).size : Nat) : Int), 0) := by
 unfold xn
 rw [rd0_back s a n rest h0 h1 h, if_pos rfl, if_pos rfl, if_neg (by show ¬ (n > most); omega)]
theorem size_le (s : ByteArray) (a : Nat) (p q : List UInt8) (hp : 0 < p.length) (h : s.data.toList.drop a = p ++ q) : a + p.length ≤ s.size := by
 have := congrArg List.length h
 rw [List.length_drop, List.length_append, len_eq] at this
 omega
theorem num_pos (n : Int) : 0 < (num n).data.toList.length := by
 rw [len_eq, show (num n).size = (nl 9 n).length from strOfNums_size _, nl]
 split <;> simp
theorem txt_pos (t : ByteArray) : 0 < (txt t).data.toList.length := by
 rw [txt_list, List.length_append]
 have := num_pos (t.size : Int)
 omega
theorem xn_e (s : ByteArray) (a : Nat) (e most : Int) (h : (xn s a e most).2.2 = 0) : e = 0 ∧ ∃ m : Nat, (xn s a e most).2.1 = (m : Int) ∧ m ≤ s.size ∧ s.data.toList.drop a = (num (xn s a e most).1).data.toList ++ s.data.toList.drop m := by
 unfold xn at h ⊢
 by_cases he : e = 0
 ·
  rw [if_pos he] at h ⊢
  by_cases h0 : (rd0 s a).2.2 = 0
  ·
   rw [if_pos h0] at h ⊢
   by_cases hm : (rd0 s a).1 > most
   ·
    rw [if_pos hm] at h; simp at h
   ·
    rw [if_neg hm]
    obtain ⟨m, g1, g2, g3, g4⟩ := rd0_only s a h0
    exact ⟨he, m, g1, g2, g4⟩
  ·
   rw [if_neg h0] at h; exact absurd h h0
 ·
  rw [if_neg he] at h; exact absurd h he
theorem xt_e (s : ByteArray) (a : Nat) (e most : Int) (h : (xt s a e most).2.2 = 0) : e = 0 ∧ ∃ m : Nat, (xt s a e most).2.1 = (m : Int) ∧ m ≤ s.size ∧ s.data.toList.drop a = (txt (xt s a e most).1).data.toList ++ s.data.toList.drop m := by
 unfold xt at h ⊢
 by_cases he : e = 0
 ·
  rw [if_pos he] at h ⊢
  by_cases h0 : (rt s a).2.2 = 0
  ·
   rw [if_pos h0] at h ⊢
   by_cases hm : ((rt s a).1.size : Int) > most
   ·
    rw [if_pos hm] at h; simp at h
   ·
    rw [if_neg hm]
    obtain ⟨m, g1, g2, g4⟩ := rt_only s a h0
    exact ⟨he, m, g1, g2, g4⟩
  ·
   rw [if_neg h0] at h; exact absurd h h0
 ·
  rw [if_neg he] at h; exact absurd h he
end Go.Proofs.YtdidopoalmkhlaaDoor.Pure
end
section
namespace Go.Proofs.YtdidopoalmkhlaaDoor.Pure
open Go.RowKit Go.Proofs.YtdidopoalmkhlaaDoor.Oo Go.Proofs.YtdidopoalmkhlaaDoorW.PrintWords Go.Proofs.YtdidopoalmkhlaaDoorW.PrintLast Go.Proofs.YtdidopoalmkhlaaDoorW.PrintMore
set_option linter.unusedVariables false
set_option linter.unusedSimpArgs false
set_option maxRecDepth 100000
abbrev Piece := S82
abbrev Pick := S62
def dig (s : ByteArray) : ByteArray := Sha.ofB (Sha.hexL (Sha.ofB (Sha.sha (Sha.tagB (BitVec.ofInt 8 67) [s]))).data.toList)
theorem sum_size (ss : List ByteArray) : (Sha.ofB (Sha.sha (Sha.tagB (BitVec.ofInt 8 67) ss))).size = 32 := by
 rw [Sha.ofB_size, Sha.sha, Sha.out_length]
theorem dig_size (s : ByteArray) : (dig s).size = 64 := by
 unfold dig
 rw [Sha.ofB_size, Sha.two_length, len_eq, sum_size]
theorem tag_one (s : ByteArray) : (Sha.tagB (BitVec.ofInt 8 67) [s]).length = 9 + s.size := by
 unfold Sha.tagB
 rw [List.length_append, List.flatMap_cons, List.length_append, Sha.partB_length, List.flatMap_nil]
 simp only [List.length_cons, List.length_nil]
 omega
theorem dig_tag (s : ByteArray) (h : s.size ≤ 1073741824) : digest_Tagged.f 67 [s] = some (Sha.ofB (Sha.sha (Sha.tagB (BitVec.ofInt 8 67) [s]))) := by
 show Sha.tagF 67 [s] = _
 unfold Sha.tagF
 rw [if_pos ⟨by decide, by decide, by rw [tag_one]; omega⟩]
theorem dig_hex (s : ByteArray) : digest_Hex.f (Sha.ofB (Sha.sha (Sha.tagB (BitVec.ofInt 8 67) [s]))) = some (dig s) := by
 show Sha.hexF _ = _
 unfold Sha.hexF
 rw [if_pos (by rw [sum_size]; decide)]
 rfl
def B0 : ByteArray := ⟨#[]⟩
def B1 : ByteArray := ⟨#[111, 110, 101]⟩
def B2 : ByteArray := ⟨#[1, 0, 3, 111, 110, 101]⟩
def B3 : ByteArray := ⟨#[116]⟩
theorem aw_chk1 : cmd_Check.f 200 1 (⟨#[]⟩ : ByteArray) (⟨#[111, 110, 101]⟩ : ByteArray) (⟨#[]⟩ : ByteArray) 0 0 (⟨#[]⟩ : ByteArray) ([] : List Piece) ([] : List Pick) = some 0 := by kernel_rfl
theorem aw_chk2 : cmd_Check.f 200 1 (⟨#[116]⟩ : ByteArray) (⟨#[111, 110, 101]⟩ : ByteArray) (⟨#[]⟩ : ByteArray) 0 0 (⟨#[]⟩ : ByteArray) ([] : List Piece) ([] : List Pick) = some 0 := by kernel_rfl
theorem aw_told : cmd_told.f 200 1 (⟨#[]⟩ : ByteArray) (⟨#[111, 110, 101]⟩ : ByteArray) (⟨#[]⟩ : ByteArray) 0 0 (⟨#[]⟩ : ByteArray) ([] : List Piece) ([] : List Pick) = some B2 := by kernel_rfl
theorem aw_dec : cmd_Decode.f 200 B2 = some (1, B0, B1, B0, 0, 0, B0, ([] : List Piece), ([] : List Pick), 0) := by kernel_rfl
theorem awake_true (k : Nat) (hk : 200 ≤ k) : stowagelaw16_awake.f k = some true := by
 have h1 := up_to (f := fun k => cmd_Check.f k 1 (⟨#[]⟩ : ByteArray) (⟨#[111, 110, 101]⟩ : ByteArray) (⟨#[]⟩ : ByteArray) 0 0 (⟨#[]⟩ : ByteArray) ([] : List Piece) ([] : List Pick)) (fun k => cmd_Check.mono _ _ _ _ _ _ _ _ _ k) aw_chk1 hk
 have h2 := up_to (f := fun k => cmd_Check.f k 1 (⟨#[116]⟩ : ByteArray) (⟨#[111, 110, 101]⟩ : ByteArray) (⟨#[]⟩ : ByteArray) 0 0 (⟨#[]⟩ : ByteArray) ([] : List Piece) ([] : List Pick)) (fun k => cmd_Check.mono _ _ _ _ _ _ _ _ _ k) aw_chk2 hk
 have h3 := up_to (f := fun k => cmd_told.f k 1 (⟨#[]⟩ : ByteArray) (⟨#[111, 110, 101]⟩ : ByteArray) (⟨#[]⟩ : ByteArray) 0 0 (⟨#[]⟩ : ByteArray) ([] : List Piece) ([] : List Pick)) (fun k => cmd_told.mono _ _ _ _ _ _ _ _ _ k) aw_told hk
 have h4 := up_to (f := fun k => cmd_Decode.f k B2) (fun k => cmd_Decode.mono _ k) aw_dec hk
 have h5 := dig_tag B2 (by decide +kernel)
 have h6 := dig_hex B2
 unfold stowagelaw16_awake.f cmd_Encode.f cmd_Digest.f
 simp only [h1, h2, h3, h4, h5, h6, Option.bind_some, if_true]
 rw [if_pos (by kernel_rfl), if_pos (by kernel_rfl)]
 have h7 : ((((dig B2).size : Nat) : Int) == 64) = true := by rw [dig_size]; rfl
 rw [h7]
end Go.Proofs.YtdidopoalmkhlaaDoor.Pure
end
